/-
  A part of the proof. No condition.
-/
import Derived.Test.YtkfffmpnmoiikaaGreatDoorUPu
/- Chapter 18 (reuse): the page's example. No condition. -/
namespace Go.Proofs.X
open Go Go.Dp
theorem wiy {K : Nat} (hK : 300 ≤ K) : wbf K = some true := by
  have : ∀ K, wbf (K + 300) = some true := fun K => by kernel_rfl
  have h := this (K - 300)
  rwa [Nat.sub_add_cancel hK] at h
end Go.Proofs.X
