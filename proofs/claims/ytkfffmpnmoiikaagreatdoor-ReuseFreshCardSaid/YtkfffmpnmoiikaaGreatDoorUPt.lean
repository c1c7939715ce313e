/-
  A part of the proof. No condition.
-/
import Derived.Test.YtkfffmpnmoiikaaGreatDoorUPm
import Derived.Test.YtkfffmpnmoiikaaGreatDoorUPr
import Derived.Test.YtkfffmpnmoiikaaGreatDoorUPs
/- Chapter 18 (reuse): tags, validators, what may be kept, what is to be done. No condition but on sizes. -/
set_option linter.unusedSimpArgs false
set_option linter.unusedVariables false
namespace Go.Proofs.X
open Go Go.Dp
abbrev Req := List UInt8 × List UInt8 × Int × List Fld × List UInt8 × Unit
/-! What may be kept. -/
def ctlEta (c : Ctl) : Ctl := (c.1, (c.2.1, (c.2.2.1, (c.2.2.2.1, (c.2.2.2.2.1, (c.2.2.2.2.2.1, (c.2.2.2.2.2.2.1, (c.2.2.2.2.2.2.2.1, (c.2.2.2.2.2.2.2.2.1, ())))))))))
end Go.Proofs.X
