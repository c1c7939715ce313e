/-
  A part of the proof. No condition.
-/
import Derived.Test.YtikiloknlchppaaGreatDoorSPm
/- Chapter 17 (life): the page's example. No condition. -/
namespace Go.Proofs.X
open Go Go.Dp
theorem wcK {K : Nat} (hK : 300 ≤ K) : wA_ K = some true := by
  have : ∀ K, wA_ (K + 300) = some true := fun K => by kernel_rfl
  have h := this (K - 300)
  rwa [Nat.sub_add_cancel hK] at h
end Go.Proofs.X
