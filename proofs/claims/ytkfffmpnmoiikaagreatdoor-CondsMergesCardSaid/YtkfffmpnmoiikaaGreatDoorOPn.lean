/-
  A part of the proof. No condition.
-/
import Derived.Test.YtkfffmpnmoiikaaGreatDoorOPd
import Derived.Test.YtkfffmpnmoiikaaGreatDoorOPm
/- Chapter 17 (life): what each printed function of the program and of the reference gives. No condition but on sizes. -/
set_option linter.unusedSimpArgs false
set_option linter.unusedVariables false
namespace Go.Proofs.X
open Go Go.Dp
/-! How old it says that it is. -/
abbrev Rep := Int × List UInt8 × Int × List Fld × List UInt8 × Unit
abbrev Pk := List UInt8 × Bool × List UInt8 × Unit
abbrev Sto := Rep × Int × List Pk × Unit
def nMod : List UInt8 := [76, 97, 115, 116, 45, 77, 111, 100, 105, 102, 105, 101, 100]
/-! Date, age, lifetime. -/
def usual (c : Int) : Bool := ([200, 203, 204, 300, 301, 308, 404, 405, 410, 414, 501] : List Int).any fun x => decide (x = c)
end Go.Proofs.X
