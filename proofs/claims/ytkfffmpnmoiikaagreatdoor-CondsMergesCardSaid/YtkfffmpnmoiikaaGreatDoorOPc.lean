/-
  A part of the proof. No condition.
-/
import Derived.Test.YtkfffmpnmoiikaaGreatDoorOP6
import Derived.Test.YtkfffmpnmoiikaaGreatDoorOP9
/- Chapter 13 (control): what each printed function of the program gives. No condition but on sizes. -/
set_option linter.unusedSimpArgs false
set_option linter.unusedVariables false
namespace Go.Proofs.X
open Go Go.Dp
/-! Print. -/
def fl (b : Bool) (n : List UInt8) : List (List UInt8) := if b then [n] else []
end Go.Proofs.X
