/-
  A part of the proof. No condition.
-/
import Derived.Test.YtkfffmpnmoiikaaGreatDoorUPn
import Derived.Test.YtkfffmpnmoiikaaGreatDoorUP5
/- Chapter 15 (vary): what each printed function of the program gives. No condition but on sizes. -/
set_option linter.unusedSimpArgs false
set_option linter.unusedVariables false
namespace Go.Proofs.X
open Go Go.Dp
def okT (x : List UInt8) : Bool := !(x == [42]) && isTok x
def hV : List UInt8 := [86, 97, 114, 121]
/-! Blanks. -/
/-! Picks. -/
end Go.Proofs.X
