/-
  A part of the proof. No condition.
-/
import Derived.Test.YtkfffmpnmoiikaaGreatDoorUPj
import Derived.Test.YtkfffmpnmoiikaaGreatDoorFc
/- Chapter 07 (dates): how the document reads times; the laws DateReads and DateBack. -/
set_option linter.unusedSimpArgs false
set_option linter.unusedVariables false
namespace Go.Proofs.X
open Go Go.Dp
section
variable {t : Int} {w y m d h i j : Nat} {K : Nat}
end
/-! ### The forms differ -/
theorem f3 {t : Int} (h : inR t) : (fT t).getD 3 0 = 44 := by
  obtain ⟨w, y, m, d, hh, i, j, p⟩ := wdh h.1 h.2
  obtain ⟨x0, x1, x2, a, b, c, hm, hw⟩ := wdG p.w7 p.m12
  rw [fT_in p]; simp only [fmtS, hw]; rfl
theorem p3 {t : Int} (h : inR t) : (pT t).getD 3 0 = 32 := by
  obtain ⟨w, y, m, d, hh, i, j, p⟩ := wdh h.1 h.2
  obtain ⟨x0, x1, x2, a, b, c, hm, hw⟩ := wdG p.w7 p.m12
  rw [pT_in p]; simp only [plnS, hw]; rfl
end Go.Proofs.X
