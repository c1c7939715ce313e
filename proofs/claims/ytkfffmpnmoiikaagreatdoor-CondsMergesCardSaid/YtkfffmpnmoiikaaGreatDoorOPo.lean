/-
  A part of the proof. No condition.
-/
import Derived.Test.YtkfffmpnmoiikaaGreatDoorOP5
/- Chapter 14 (etag): texts, lists and matches. No condition but on sizes. -/
set_option linter.unusedSimpArgs false
set_option linter.unusedVariables false
namespace Go.Proofs.X
open Go Go.Dp
def weakT (a b : Tg) : Bool := a.2.1 == b.2.1
theorem wdU (K : Nat) (a b : Tg) : wb1 K a b = some (weakT a b) := by
  simp only [wb1, wbZ, za', zb', zc', zd', ze', zf', zg', zh', zi', zj', zk', zl', zm', zn', zo', zp', zq', zr', zs', zt', weakT, beq_self_eq_true]
theorem wdE (K : Nat) (a b : Tg) : wbs K a b = some (weakT a b) := rfl
end Go.Proofs.X
