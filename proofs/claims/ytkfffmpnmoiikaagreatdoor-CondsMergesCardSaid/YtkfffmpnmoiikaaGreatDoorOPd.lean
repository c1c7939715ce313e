/-
  A part of the proof. No condition.
-/
import Derived.Test.YtkfffmpnmoiikaaGreatDoorOPc
import Derived.Test.YtkfffmpnmoiikaaGreatDoorOPa
import Derived.Test.YtkfffmpnmoiikaaGreatDoorFc
/- Chapter 13 (control): the reference's side. No condition but on sizes. -/
set_option linter.unusedSimpArgs false
set_option linter.unusedVariables false
namespace Go.Proofs.X
open Go Go.Dp
/-! The reference's loops. -/
end Go.Proofs.X
