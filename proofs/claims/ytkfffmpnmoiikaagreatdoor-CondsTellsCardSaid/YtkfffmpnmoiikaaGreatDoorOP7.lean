/-
  A part of the proof. No condition.
-/
import Derived.Test.YtkfffmpnmoiikaaGreatDoorOP4
/- Chapter 16 (hops): what each printed function gives. No condition but on sizes. -/
set_option linter.unusedSimpArgs false
set_option linter.unusedVariables false
namespace Go.Proofs.X
open Go Go.Dp
def few (l : List Fld) (m : Nat) : Prop := l.length ≤ m ∧ ∀ f ∈ l, small 500 f
theorem wgh {l : List Fld} {m : Nat} (h : few l m) (name : List UInt8) : (allOf l name).length ≤ m ∧ ∀ v ∈ allOf l name, v.length ≤ 500 := by
  refine ⟨?_, fun v hv => ?_⟩
  · have := List.length_filter_le (fun f : Fld => same f.1 name) l
    simp only [allOf, List.length_map]
    have := h.1
    omega
  · obtain ⟨f, hf, rfl⟩ := List.mem_map.1 hv
    exact (h.2 f (List.mem_filter.1 hf).1).2
/-! The plain laws. -/
theorem wc3 (l : List Fld) (n : List (List UInt8)) : (dropOf l n).length ≤ l.length := List.length_filter_le _ _
end Go.Proofs.X
