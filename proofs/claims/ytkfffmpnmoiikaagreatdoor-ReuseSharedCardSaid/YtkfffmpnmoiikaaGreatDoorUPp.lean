/-
  A part of the proof. No condition.
-/
import Derived.Test.YtkfffmpnmoiikaaGreatDoorUPo
import Derived.Test.YtkfffmpnmoiikaaGreatDoorFc
/- Chapter 15 (vary): what all its laws end with; few names. -/
set_option linter.unusedSimpArgs false
set_option linter.unusedVariables false
namespace Go.Proofs.X
open Go Go.Dp
end Go.Proofs.X
