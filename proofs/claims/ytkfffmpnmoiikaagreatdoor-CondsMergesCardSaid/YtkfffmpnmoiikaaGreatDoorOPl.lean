/-
  A part of the proof. No condition.
-/
import Derived.Test.YtkfffmpnmoiikaaGreatDoorOPk
/- Chapter 07 (dates): what is read of the three forms; Parse. -/
set_option linter.unusedSimpArgs false
set_option linter.unusedVariables false
namespace Go.Proofs.X
open Go Go.Dp
section
variable {t : Int} {w y m d h i j : Nat} {K : Nat}
theorem wep (h : w < 7) (hm : m < 12) : ∃ x0 x1 x2 a b c, monS m = [a, b, c] ∧ (dayS w).take 3 = [x0, x1, x2] := by
  obtain ⟨x0, x1, x2, r, hw, _⟩ := wday 0 h
  obtain ⟨a, b, c, hm⟩ := mon3 hm
  exact ⟨x0, x1, x2, a, b, c, hm, by rw [hw]; rfl⟩
end
end Go.Proofs.X
