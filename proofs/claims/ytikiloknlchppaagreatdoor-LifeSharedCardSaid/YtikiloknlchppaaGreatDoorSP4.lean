/-
  A part of the proof. No condition.
-/
import Derived.Test.YtikiloknlchppaaGreatDoorSP3
/- Chapter 09 (fields): what each printed function gives. No condition but on sizes. -/
set_option linter.unusedSimpArgs false
set_option linter.unusedVariables false
namespace Go.Proofs.X
open Go Go.Dp
/-! Parse, Line. -/
theorem wbR (s : List UInt8) (b : UInt8) : (cutAt s b).1.length ≤ s.length ∧ (cutAt s b).2.1.length ≤ s.length := by
  unfold cutAt
  split
  · have h1 := takeWhile_len s (· != b)
    have h2 := cutAt_join s b (by assumption)
    have h3 := congrArg List.length h2
    simp only [List.length_append, List.length_singleton] at h3
    exact ⟨h1, by simp only; omega⟩
  · exact ⟨Nat.le_refl _, by simp⟩
/-! Check. -/
def sized (l : List Fld) : Prop := l.length < 1000000 ∧ ∀ f ∈ l, f.1.length < 100000 ∧ f.2.1.length < 100000
/-! Join, Get. -/
theorem wcs (l : List Fld) (name : List UInt8) : (allOf l name).length ≤ l.length := by
  have := List.length_filter_le (fun f : Fld => same f.1 name) l
  simp only [allOf, List.length_map]; omega
theorem wcz {l : List Fld} {name : List UInt8} {b : Nat} (h : ∀ f ∈ l, f.2.1.length ≤ b) : ∀ v ∈ allOf l name, v.length ≤ b := by
  intro v hv
  obtain ⟨f, hf, rfl⟩ := List.mem_map.1 hv
  exact h f (List.mem_filter.1 hf).1
/-! Has. -/
/-! Set. -/
/-! Same. -/
end Go.Proofs.X
