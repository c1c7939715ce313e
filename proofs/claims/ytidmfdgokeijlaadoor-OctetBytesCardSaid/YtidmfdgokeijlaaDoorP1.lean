/-
  A part of the proof. No condition.
-/
import Derived.Test.YtidmfdgokeijlaaDoorG1
import Derived.KernelRfl
namespace Go.Proofs.X
open Go Go.Dp
def okB (c : Nat) : Bool := match f3 40 (c : Int) with
  | some true => true
  | _ => false
theorem all_ok : (List.range 256).all okB = true := by kernel_rfl
theorem octetBytes_pure : ∀ c : Int, 0 ≤ c → c < 256 → ∃ k, f3 k c = some true := by
  intro c h0 h1
  obtain ⟨n, rfl⟩ : ∃ n : Nat, c = n := ⟨c.toNat, by omega⟩
  have h := List.all_eq_true.1 all_ok n (List.mem_range.2 (by omega))
  refine ⟨40, ?_⟩
  unfold okB at h
  split at h
  · rename_i e; exact e
  · cases h
end Go.Proofs.X
