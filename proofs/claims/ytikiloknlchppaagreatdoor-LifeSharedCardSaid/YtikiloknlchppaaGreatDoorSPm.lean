/-
  A part of the proof. No condition.
-/
import Derived.Test.YtikiloknlchppaaGreatDoorSPl
/- Chapter 17 (life): lifetimes, what is fresh, what is left; the page's example. No condition but on sizes. -/
set_option linter.unusedSimpArgs false
set_option linter.unusedVariables false
namespace Go.Proofs.X
open Go Go.Dp
end Go.Proofs.X
