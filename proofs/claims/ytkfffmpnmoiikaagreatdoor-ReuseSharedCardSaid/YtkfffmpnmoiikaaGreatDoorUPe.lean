/-
  A part of the proof. No condition.
-/
import Derived.Test.YtkfffmpnmoiikaaGreatDoorUPd
import Derived.KernelRfl
/- Chapter 07 (dates): days of dates, weekdays; the laws DateDays and DateNext. -/
set_option linter.unusedSimpArgs false
set_option linter.unusedVariables false
namespace Go.Proofs.X
open Go Go.Dp
theorem wfi (K : Nat) (n : Int) : wcw K n = w3_ K n := rfl
instance (y m d : Int) : Decidable (valid y m d) := by unfold valid; exact inferInstance
def daysOf (y m d : Int) : Int × Bool × Unit := if valid y m d then (cnt y m d, true, ()) else (0, false, ())
theorem we8 {a0 a1 a2 : Int} {α : Type} (f : Bool → α) (t : Bool) :
    (bif (!(decide (a0 < 1970))) then (bif (!(decide (a0 > 9999))) then (bif (!(decide (a1 < 1))) then (bif (!(decide (a1 > 12))) then (bif (!(decide (a2 < 1))) then f t else f true) else f true) else f true) else f true) else f true)
    = f (!(decide (1970 ≤ a0 ∧ a0 ≤ 9999 ∧ 1 ≤ a1 ∧ a1 ≤ 12 ∧ 1 ≤ a2)) || t) := by
  by_cases h1 : a0 < 1970
  · simp [h1, show ¬ 1970 ≤ a0 by omega]
  by_cases h2 : a0 > 9999
  · simp [h1, h2, show ¬ a0 ≤ 9999 by omega]
  by_cases h3 : a1 < 1
  · simp [h1, h2, h3, show ¬ 1 ≤ a1 by omega]
  by_cases h4 : a1 > 12
  · simp [h1, h2, h3, h4, show ¬ a1 ≤ 12 by omega]
  by_cases h5 : a2 < 1
  · simp [h1, h2, h3, h4, h5, show ¬ 1 ≤ a2 by omega]
  · simp [h1, h2, h3, h4, h5, show 1 ≤ a2 by omega, show a1 ≤ 12 by omega, show 1 ≤ a1 by omega, show a0 ≤ 9999 by omega, show 1970 ≤ a0 by omega]
theorem wdi {K : Nat} (y m d : Int) : wc1 K y m d = some (daysOf y m d) := by
  have hb := we8 (a0 := y) (a1 := m) (a2 := d) (fun b => (some ((y, (m, (d, (b, ())))), ()) : Option (((Int) × ((Int) × ((Int) × ((Bool) × (Unit))))) × (Unit)))) (decide (d > 31))
  simp only [wc1, hb, za', zb', zc', zd', ze', zf', zg', zh', zi', zj', zk', zl', zm', zn', zo', zp', zq', zr', zs', zt']
  by_cases hin : 1970 ≤ y ∧ y ≤ 9999 ∧ 1 ≤ m ∧ m ≤ 12 ∧ 1 ≤ d
  · by_cases hd : d > 31
    · have hv : ¬ valid y m d := fun h => by have := wdJ y m; have := h.2.2.2.2.2; omega
      simp only [hin, hd, za', zb', zc', zd', ze', zf', zg', zh', zi', zj', zk', zl', zm', zn', zo', zp', zq', zr', zs', zt', daysOf, hv, Bool.or_true]
    · obtain ⟨h1, h2, h3, h4, h5⟩ := hin
      simp only [h1, h2, h3, h4, h5, hd, za', zb', zc', zd', ze', zf', zg', zh', zi', zj', zk', zl', zm', zn', zo', zp', zq', zr', zs', zt', and_true, Bool.or_false, wgn h1 h2 h3 h4 h5 (show d ≤ 31 by omega)]
      by_cases hv : valid y m d
      · obtain ⟨r0, r1⟩ := wdF hv
        simp only [wdD r0 r1, wgW hv, za', zb', zc', zd', ze', zf', zg', zh', zi', zj', zk', zl', zm', zn', zo', zp', zq', zr', zs', zt', daysOf, hv]
      · by_cases hr : cnt y m d < 0 ∨ 2932896 < cnt y m d
        · simp only [weE hr, za', zb', zc', zd', ze', zf', zg', zh', zi', zj', zk', zl', zm', zn', zo', zp', zq', zr', zs', zt', daysOf, hv]
        · obtain ⟨hv2, hc⟩ := weA (n := cnt y m d) (by omega) (by omega)
          simp only [wdD (n := cnt y m d) (by omega) (by omega), za', zb', zc', zd', ze', zf', zg', zh', zi', zj', zk', zl', zm', zn', zo', zp', zq', zr', zs', zt', daysOf, hv]
          by_cases e1 : (civ (cnt y m d)).1 = y
          · by_cases e2 : (civ (cnt y m d)).2.1 = m
            · have e3 : ¬ (civ (cnt y m d)).2.2 = d := fun e3 => hv (by rw [e1, e2, e3] at hv2; exact hv2)
              simp only [e1, e2, e3, za', zb', zc', zd', ze', zf', zg', zh', zi', zj', zk', zl', zm', zn', zo', zp', zq', zr', zs', zt']
            · simp only [e1, e2, za', zb', zc', zd', ze', zf', zg', zh', zi', zj', zk', zl', zm', zn', zo', zp', zq', zr', zs', zt']
          · simp only [e1, za', zb', zc', zd', ze', zf', zg', zh', zi', zj', zk', zl', zm', zn', zo', zp', zq', zr', zs', zt']
  · have hv : ¬ valid y m d := fun h => hin ⟨h.1, h.2.1, h.2.2.1, h.2.2.2.1, h.2.2.2.2.1⟩
    simp only [hin, za', zb', zc', zd', ze', zf', zg', zh', zi', zj', zk', zl', zm', zn', zo', zp', zq', zr', zs', zt', daysOf, hv, Bool.true_or]
/-! ### Laws -/
theorem weo {K : Nat} {n : Int} (h : 0 ≤ n) : wcw K n = some ((n + 4) % 7) := by
  simp only [wcw, show ¬ n < 0 by omega, za', zb', zc', zd', ze', zf', zg', zh', zi', zj', zk', zl', zm', zn', zo', zp', zq', zr', zs', zt']
  rw [Int.tmod_eq_emod_of_nonneg h, wrap64 (by omega) (by omega), Int.tmod_eq_emod_of_nonneg (by omega)]
  congr 1; omega
end Go.Proofs.X
