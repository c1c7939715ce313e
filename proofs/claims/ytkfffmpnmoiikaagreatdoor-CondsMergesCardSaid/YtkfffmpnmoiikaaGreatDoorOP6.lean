/-
  A part of the proof. No condition.
-/
import Derived.Test.YtkfffmpnmoiikaaGreatDoorOP4
/- Chapter 06: Quote, Unquote and Param, the program's and the document's; what is split and joined. No condition but on sizes. -/
set_option linter.unusedSimpArgs false
set_option linter.unusedVariables false
namespace Go.Proofs.X
open Go Go.Dp
/-! What is quoted. -/
end Go.Proofs.X
