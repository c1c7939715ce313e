/-
  A part of the proof. No condition.
-/
import Derived.Test.YtkfffmpnmoiikaaGreatDoorOPf
import Derived.KernelRfl
/- Chapter 07 (dates): days of dates, weekdays; the laws DateDays and DateNext. -/
set_option linter.unusedSimpArgs false
set_option linter.unusedVariables false
namespace Go.Proofs.X
open Go Go.Dp
theorem weK (K : Nat) (n : Int) : wbR K n = wX_ K n := rfl
instance (y m d : Int) : Decidable (valid y m d) := by unfold valid; exact inferInstance
def daysOf (y m d : Int) : Int × Bool × Unit := if valid y m d then (cnt y m d, true, ()) else (0, false, ())
theorem weH {a0 a1 a2 : Int} {α : Type} (f : Bool → α) (t : Bool) :
    (bif (!(decide (a0 < 1970))) then (bif (!(decide (a0 > 9999))) then (bif (!(decide (a1 < 1))) then (bif (!(decide (a1 > 12))) then (bif (!(decide (a2 < 1))) then f t else f true) else f true) else f true) else f true) else f true)
    = f (!(decide (1970 ≤ a0 ∧ a0 ≤ 9999 ∧ 1 ≤ a1 ∧ a1 ≤ 12 ∧ 1 ≤ a2)) || t) := by
  by_cases h1 : a0 < 1970
  · simp [h1, show ¬ 1970 ≤ a0 by omega]
  by_cases h2 : a0 > 9999
  · simp [h1, h2, show ¬ a0 ≤ 9999 by omega]
  by_cases h3 : a1 < 1
  · simp [h1, h2, h3, show ¬ 1 ≤ a1 by omega]
  by_cases h4 : a1 > 12
  · simp [h1, h2, h3, h4, show ¬ a1 ≤ 12 by omega]
  by_cases h5 : a2 < 1
  · simp [h1, h2, h3, h4, h5, show ¬ 1 ≤ a2 by omega]
  · simp [h1, h2, h3, h4, h5, show 1 ≤ a2 by omega, show a1 ≤ 12 by omega, show 1 ≤ a1 by omega, show a0 ≤ 9999 by omega, show 1970 ≤ a0 by omega]
theorem wco {K : Nat} (y m d : Int) : wcc K y m d = some (daysOf y m d) := by
  have hb := weH (a0 := y) (a1 := m) (a2 := d) (fun b => (some ((y, (m, (d, (b, ())))), ()) : Option (((Int) × ((Int) × ((Int) × ((Bool) × (Unit))))) × (Unit)))) (decide (d > 31))
  simp only [wcc, hb, za', zb', zc', zd', ze', zf', zg', zh', zi', zj', zk', zl', zm', zn', zo', zp', zq', zr', zs', zt']
  by_cases hin : 1970 ≤ y ∧ y ≤ 9999 ∧ 1 ≤ m ∧ m ≤ 12 ∧ 1 ≤ d
  · by_cases hd : d > 31
    · have hv : ¬ valid y m d := fun h => by have := wcA y m; have := h.2.2.2.2.2; omega
      simp only [hin, hd, za', zb', zc', zd', ze', zf', zg', zh', zi', zj', zk', zl', zm', zn', zo', zp', zq', zr', zs', zt', daysOf, hv, Bool.or_true]
    · obtain ⟨h1, h2, h3, h4, h5⟩ := hin
      simp only [h1, h2, h3, h4, h5, hd, za', zb', zc', zd', ze', zf', zg', zh', zi', zj', zk', zl', zm', zn', zo', zp', zq', zr', zs', zt', and_true, Bool.or_false, wfK h1 h2 h3 h4 h5 (show d ≤ 31 by omega)]
      by_cases hv : valid y m d
      · obtain ⟨r0, r1⟩ := wcG hv
        simp only [wcT r0 r1, wgk hv, za', zb', zc', zd', ze', zf', zg', zh', zi', zj', zk', zl', zm', zn', zo', zp', zq', zr', zs', zt', daysOf, hv]
      · by_cases hr : cnt y m d < 0 ∨ 2932896 < cnt y m d
        · simp only [weg hr, za', zb', zc', zd', ze', zf', zg', zh', zi', zj', zk', zl', zm', zn', zo', zp', zq', zr', zs', zt', daysOf, hv]
        · obtain ⟨hv2, hc⟩ := wdX (n := cnt y m d) (by omega) (by omega)
          simp only [wcT (n := cnt y m d) (by omega) (by omega), za', zb', zc', zd', ze', zf', zg', zh', zi', zj', zk', zl', zm', zn', zo', zp', zq', zr', zs', zt', daysOf, hv]
          by_cases e1 : (civ (cnt y m d)).1 = y
          · by_cases e2 : (civ (cnt y m d)).2.1 = m
            · have e3 : ¬ (civ (cnt y m d)).2.2 = d := fun e3 => hv (by rw [e1, e2, e3] at hv2; exact hv2)
              simp only [e1, e2, e3, za', zb', zc', zd', ze', zf', zg', zh', zi', zj', zk', zl', zm', zn', zo', zp', zq', zr', zs', zt']
            · simp only [e1, e2, za', zb', zc', zd', ze', zf', zg', zh', zi', zj', zk', zl', zm', zn', zo', zp', zq', zr', zs', zt']
          · simp only [e1, za', zb', zc', zd', ze', zf', zg', zh', zi', zj', zk', zl', zm', zn', zo', zp', zq', zr', zs', zt']
  · have hv : ¬ valid y m d := fun h => hin ⟨h.1, h.2.1, h.2.2.1, h.2.2.2.1, h.2.2.2.2.1⟩
    simp only [hin, za', zb', zc', zd', ze', zf', zg', zh', zi', zj', zk', zl', zm', zn', zo', zp', zq', zr', zs', zt', daysOf, hv, Bool.true_or]
theorem we4 {K : Nat} {y m d : Int} (h1 : 1970 ≤ y) (h2 : y ≤ 9999) (h3 : 1 ≤ d) (h4 : d ≤ 31) (hK : 20000 ≤ K) :
    wg_.l0 K K ((y, (m, (d - 1, (1970, ())))), ()) = some ((y, (m, (ydL y + d - 1, ()))), ()) := by
  have H := idx_rule (l := wg_.l0 K) (wg_.t0 K) (fun _ _ => rfl) (y - 1970).toNat
    (fun i => ((y, (m, (ydL (1970 + (i : Int)) + d - 1, ((1970 + (i : Int)), ())))), ())) (fun _ => ((y, (m, (ydL y + d - 1, ()))), ())) ?_ K 0 (by omega) (by omega)
  · have e : ydL 1970 = 0 := by decide
    simp only [Int.natCast_zero, Int.add_zero, e, Int.zero_add] at H
    exact H
  · intro i rec hi ih
    have e1 := wfe (K := K) (y := 1970 + (i : Int)) (by omega)
    have e2 := wdS (1970 + (i : Int))
    have e3 := wdo (1970 + (i : Int))
    have b1 := wcp (show 1970 + (i : Int) ≤ 9999 by omega)
    have b2 := wcp (show (1970 : Int) ≤ 1970 + (i : Int) by omega)
    have b3 : ydL 1970 = 0 := by decide
    have b4 : ydL 9999 = 2932532 := by decide
    by_cases hlt : i < (y - 1970).toNat
    · have hh : 1970 + (i : Int) < y := by omega
      have ih' := ih hlt
      have e4 : 1970 + ((i + 1 : Nat) : Int) = 1970 + (i : Int) + 1 := by omega
      rw [e4, e2] at ih'
      simp only [wg_.t0, e1, za', zb', zc', zd', ze', zf', zg', zh', zi', zj', zk', zl', zm', zn', zo', zp', zq', zr', zs', zt', hh]
      rw [wrap64 (by omega) (by omega), wrap64 (by omega) (by omega)]
      rw [show ydL (1970 + (i : Int)) + d - 1 + yearL (1970 + (i : Int)) = ydL (1970 + (i : Int)) + yearL (1970 + (i : Int)) + d - 1 by omega]
      exact ih'
    · have e4 : 1970 + (i : Int) = y := by omega
      rw [e4]
      simp only [wg_.t0, Int.lt_irrefl, za', zb', zc', zd', ze', zf', zg', zh', zi', zj', zk', zl', zm', zn', zo', zp', zq', zr', zs', zt']
theorem we3 {K : Nat} {y m d : Int} (h1 : 1970 ≤ y) (h2 : y ≤ 9999) (h3 : 1 ≤ m) (h4 : m ≤ 12) (h5 : 1 ≤ d) (h6 : d ≤ 31) (hK : 20000 ≤ K) :
    wg_.l1 K K ((y, (m, (ydL y + d - 1, (1, ())))), ()) = some ((cnt y m d, ()), ()) := by
  have H := idx_rule (l := wg_.l1 K) (wg_.t1 K) (fun _ _ => rfl) (m - 1).toNat
    (fun i => ((y, (m, (cnt y (1 + (i : Int)) d, ((1 + (i : Int)), ())))), ())) (fun _ => ((cnt y m d, ()), ())) ?_ K 0 (by omega) (by omega)
  · have e : cnt y 1 d = ydL y + d - 1 := by simp only [cnt, wdQ]; omega
    simp only [Int.natCast_zero, Int.add_zero, e] at H
    exact H
  · intro i rec hi ih
    have e1 := weJ (K := K) (y := y) (m := 1 + (i : Int)) (by omega) (by omega) (by omega)
    have e3 := wcA y (1 + (i : Int))
    have e7 := wc4 y (show (1 : Int) ≤ 1 + (i : Int) by omega) (show 1 + (i : Int) ≤ 12 by omega) (by omega)
    have e8 := wc4 y (show (1 : Int) ≤ 1 by omega) (show 1 ≤ 1 + (i : Int) by omega) (by omega)
    rw [wdQ] at e8
    have e10 := weY y
    have e11 := wdo y
    have b1 := wcp h2
    have b2 := wcp h1
    have b3 : ydL 1970 = 0 := by decide
    have b4 : ydL 9999 = 2932532 := by decide
    by_cases hlt : i < (m - 1).toNat
    · have e2 := weT y (show (1 : Int) ≤ 1 + (i : Int) by omega) (by omega)
      have hh : 1 + (i : Int) < m := by omega
      have ih' := ih hlt
      have e4 : 1 + ((i + 1 : Nat) : Int) = 1 + (i : Int) + 1 := by omega
      rw [e4] at ih'
      simp only [wg_.t1, e1, za', zb', zc', zd', ze', zf', zg', zh', zi', zj', zk', zl', zm', zn', zo', zp', zq', zr', zs', zt', hh]
      have e5 : cnt y (1 + (i : Int)) d + longL y (1 + (i : Int)) = cnt y (1 + (i : Int) + 1) d := by simp only [cnt, e2]; omega
      have e6 : 0 ≤ cnt y (1 + (i : Int) + 1) d ∧ cnt y (1 + (i : Int) + 1) d < 5000000 := by simp only [cnt, e2]; omega
      rw [e5, wrap64 (by omega) (by omega), wrap64 (by omega) (by omega)]
      exact ih'
    · have e4 : 1 + (i : Int) = m := by omega
      rw [e4]
      simp only [wg_.t1, Int.lt_irrefl, za', zb', zc', zd', ze', zf', zg', zh', zi', zj', zk', zl', zm', zn', zo', zp', zq', zr', zs', zt']
theorem wdH {K : Nat} (y m d : Int) (hK : 20000 ≤ K) : wg_ K y m d = some (daysOf y m d) := by
  by_cases hin : 1970 ≤ y ∧ y ≤ 9999 ∧ 1 ≤ m ∧ m ≤ 12 ∧ 1 ≤ d
  · obtain ⟨h1, h2, h3, h4, h5⟩ := hin
    simp only [wg_, wg_.tr, show ¬ y < 1970 by omega, show ¬ y > 9999 by omega, show ¬ m < 1 by omega, show ¬ m > 12 by omega, show ¬ d < 1 by omega, weJ (show 0 ≤ y by omega) h3 h4, za', zb', zc', zd', ze', zf', zg', zh', zi', zj', zk', zl', zm', zn', zo', zp', zq', zr', zs', zt']
    by_cases hd : d > longL y m
    · have hv : ¬ valid y m d := fun h => by have := h.2.2.2.2.2; omega
      simp only [hd, za', zb', zc', zd', ze', zf', zg', zh', zi', zj', zk', zl', zm', zn', zo', zp', zq', zr', zs', zt', daysOf, hv]
    · have hv : valid y m d := ⟨h1, h2, h3, h4, h5, by omega⟩
      have hl := wcA y m
      simp only [hd, za', zb', zc', zd', ze', zf', zg', zh', zi', zj', zk', zl', zm', zn', zo', zp', zq', zr', zs', zt', daysOf, hv]
      rw [wrap64 (x := d - 1) (by omega) (by omega)]
      simp only [we4 (K := K) (m := m) h1 h2 h5 (by omega) hK, we3 (K := K) h1 h2 h3 h4 h5 (by omega) hK, za', zb', zc', zd', ze', zf', zg', zh', zi', zj', zk', zl', zm', zn', zo', zp', zq', zr', zs', zt']
  · have hv : ¬ valid y m d := fun h => hin ⟨h.1, h.2.1, h.2.2.1, h.2.2.2.1, h.2.2.2.2.1⟩
    simp only [daysOf, hv, if_false]
    simp only [wg_, wg_.tr]
    by_cases c1 : y < 1970
    · simp only [c1, za', zb', zc', zd', ze', zf', zg', zh', zi', zj', zk', zl', zm', zn', zo', zp', zq', zr', zs', zt']
    by_cases c2 : y > 9999
    · simp only [c1, c2, za', zb', zc', zd', ze', zf', zg', zh', zi', zj', zk', zl', zm', zn', zo', zp', zq', zr', zs', zt']
    by_cases c3 : m < 1
    · simp only [c1, c2, c3, za', zb', zc', zd', ze', zf', zg', zh', zi', zj', zk', zl', zm', zn', zo', zp', zq', zr', zs', zt']
    by_cases c4 : m > 12
    · simp only [c1, c2, c3, c4, za', zb', zc', zd', ze', zf', zg', zh', zi', zj', zk', zl', zm', zn', zo', zp', zq', zr', zs', zt']
    by_cases c5 : d < 1
    · simp only [c1, c2, c3, c4, c5, za', zb', zc', zd', ze', zf', zg', zh', zi', zj', zk', zl', zm', zn', zo', zp', zq', zr', zs', zt']
    exact absurd ⟨by omega, by omega, by omega, by omega, by omega⟩ hin
/-! ### Laws -/
theorem wdK {K : Nat} {n : Int} (h : 0 ≤ n) : wbR K n = some ((n + 4) % 7) := by
  simp only [wbR, show ¬ n < 0 by omega, za', zb', zc', zd', ze', zf', zg', zh', zi', zj', zk', zl', zm', zn', zo', zp', zq', zr', zs', zt']
  rw [Int.tmod_eq_emod_of_nonneg h, wrap64 (by omega) (by omega), Int.tmod_eq_emod_of_nonneg (by omega)]
  congr 1; omega
end Go.Proofs.X
