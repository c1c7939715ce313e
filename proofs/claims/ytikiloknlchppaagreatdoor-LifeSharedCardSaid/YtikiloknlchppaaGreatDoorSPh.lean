/-
  A part of the proof. No condition.
-/
import Derived.Test.YtikiloknlchppaaGreatDoorSPg
/- Chapter 07 (dates): how the document writes times; the law DateWrites. -/
set_option linter.unusedSimpArgs false
set_option linter.unusedVariables false
namespace Go.Proofs.X
open Go Go.Dp
section
variable {t : Int} {w y m d h i j : Nat} {K : Nat}
end
instance (t : Int) : Decidable (inR t) := by unfold inR; exact inferInstance
instance (t : Int) : Decidable (inO t) := by unfold inO; exact inferInstance
end Go.Proofs.X
