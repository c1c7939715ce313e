/-
  A part of the proof. No condition.
-/
import Derived.Test.YtkfffmpnmoiikaaGreatDoorOPn
import Derived.Test.YtkfffmpnmoiikaaGreatDoorOP7
import Derived.Test.YtkfffmpnmoiikaaGreatDoorOPp
/- Chapter 19 (conds): what a client has, what the cache asks, what a 304 changes. No condition but on sizes. -/
set_option linter.unusedSimpArgs false
set_option linter.unusedVariables false
namespace Go.Proofs.X
open Go Go.Dp
/-! What a client is told. -/
end Go.Proofs.X
