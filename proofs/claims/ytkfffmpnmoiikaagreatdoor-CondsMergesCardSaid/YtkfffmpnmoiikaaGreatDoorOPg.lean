/-
  A part of the proof. No condition.
-/
import Derived.Test.YtkfffmpnmoiikaaGreatDoorOPf
import Derived.KernelRfl
/- Chapter 07 (dates): days of dates, weekdays; the laws DateDays and DateNext. -/
set_option linter.unusedSimpArgs false
set_option linter.unusedVariables false
namespace Go.Proofs.X
open Go Go.Dp
theorem wd4 (K : Nat) (n : Int) : wbP K n = wV_ K n := rfl
instance (y m d : Int) : Decidable (valid y m d) := by unfold valid; exact inferInstance
/-! ### Laws -/
theorem wds {K : Nat} {n : Int} (h : 0 ≤ n) : wbP K n = some ((n + 4) % 7) := by
  simp only [wbP, show ¬ n < 0 by omega, za', zb', zc', zd', ze', zf', zg', zh', zi', zj', zk', zl', zm', zn', zo', zp', zq', zr', zs', zt']
  rw [Int.tmod_eq_emod_of_nonneg h, wrap64 (by omega) (by omega), Int.tmod_eq_emod_of_nonneg (by omega)]
  congr 1; omega
end Go.Proofs.X
