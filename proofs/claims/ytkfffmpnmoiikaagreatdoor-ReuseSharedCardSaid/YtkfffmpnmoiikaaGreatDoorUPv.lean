/-
  A part of the proof. No condition.
-/
import Derived.Test.YtkfffmpnmoiikaaGreatDoorUPu
/- Chapter 18 (reuse): the page's example. No condition. -/
namespace Go.Proofs.X
open Go Go.Dp
theorem wg0 {K : Nat} (hK : 300 ≤ K) : w1_ K = some true := by
  have : ∀ K, w1_ (K + 300) = some true := fun K => by kernel_rfl
  have h := this (K - 300)
  rwa [Nat.sub_add_cancel hK] at h
end Go.Proofs.X
