/-
  A part of the proof. No condition.
-/
import Derived.Test.YtkfffmpnmoiikaaGreatDoorOPr
/- Chapter 19 (conds): what the laws lean on. No condition but on sizes. -/
set_option linter.unusedSimpArgs false
set_option linter.unusedVariables false
namespace Go.Proofs.X
open Go Go.Dp
theorem wfu (K : Nat) (r : Rep) (hK : 1000 ≤ K) : ∃ b, wH_ K r 500 = some b ∧ (b = true → few r.2.2.2.1 70) := by
  obtain ⟨q, h1, h2⟩ := wda K r.2.2.2.1 70 500 (by decide) (by omega)
  have h1 : wz_ K r.2.2.2.1 70 500 = some q := h1
  by_cases c1 : (r.2.1.length : Int) ≤ 500
  · by_cases c2 : (r.2.2.2.2.1.length : Int) ≤ 500
    · refine ⟨q, ?_, h2⟩
      simp only [wH_, c1, c2, h1, za', zb', zc', zd', ze', zf', zg', zh', zi', zj', zk', zl', zm', zn', zo', zp', zq', zr', zs', zt']
    · refine ⟨false, ?_, fun h => by cases h⟩
      simp only [wH_, c1, c2, za', zb', zc', zd', ze', zf', zg', zh', zi', zj', zk', zl', zm', zn', zo', zp', zq', zr', zs', zt']
  · refine ⟨false, ?_, fun h => by cases h⟩
    simp only [wH_, c1, za', zb', zc', zd', ze', zf', zg', zh', zi', zj', zk', zl', zm', zn', zo', zp', zq', zr', zs', zt']
theorem weE (K : Nat) (r : Req) (hK : 1000 ≤ K) : ∃ b, wL_ K r 500 = some b ∧ (b = true → few r.2.2.2.1 70) := by
  obtain ⟨q, h1, h2⟩ := wda K r.2.2.2.1 70 500 (by decide) (by omega)
  have h1 : wz_ K r.2.2.2.1 70 500 = some q := h1
  by_cases c0 : (r.1.length : Int) ≤ 500
  · by_cases c1 : (r.2.1.length : Int) ≤ 500
    · by_cases c2 : (r.2.2.2.2.1.length : Int) ≤ 500
      · refine ⟨q, ?_, h2⟩
        simp only [wL_, c0, c1, c2, h1, za', zb', zc', zd', ze', zf', zg', zh', zi', zj', zk', zl', zm', zn', zo', zp', zq', zr', zs', zt']
      · refine ⟨false, ?_, fun h => by cases h⟩
        simp only [wL_, c0, c1, c2, za', zb', zc', zd', ze', zf', zg', zh', zi', zj', zk', zl', zm', zn', zo', zp', zq', zr', zs', zt']
    · refine ⟨false, ?_, fun h => by cases h⟩
      simp only [wL_, c0, c1, za', zb', zc', zd', ze', zf', zg', zh', zi', zj', zk', zl', zm', zn', zo', zp', zq', zr', zs', zt']
  · refine ⟨false, ?_, fun h => by cases h⟩
    simp only [wL_, c0, za', zb', zc', zd', ze', zf', zg', zh', zi', zj', zk', zl', zm', zn', zo', zp', zq', zr', zs', zt']
theorem wga {K : Nat} (hK : 300 ≤ K) : wQ_ K = some true := by
  have : ∀ K, wQ_ (K + 300) = some true := fun K => by kernel_rfl
  have h := this (K - 300)
  rwa [Nat.sub_add_cancel hK] at h
theorem wdB {K : Nat} (r : Rep) (hl : r.2.2.2.1.length < 1000000) (hK : 1000000 ≤ K) : wO_ K r r = some true := by
  simp only [wO_, eq_self, beq_self_eq_true, za', zb', zc', zd', ze', zf', zg', zh', zi', zj', zk', zl', zm', zn', zo', zp', zq', zr', zs', zt', wcB _ hl hK]
theorem wdg {K : Nat} (r : Req) (hl : r.2.2.2.1.length < 1000000) (hK : 1000000 ≤ K) : wU_ K r r = some true := by
  simp only [wU_, eq_self, beq_self_eq_true, za', zb', zc', zd', ze', zf', zg', zh', zi', zj', zk', zl', zm', zn', zo', zp', zq', zr', zs', zt', wcB _ hl hK]
/-! A tag's text. -/
/-! Fields that are dropped and found. -/
theorem drop_append (a b : List Fld) (ns : List (List UInt8)) : dropOf (a ++ b) ns = dropOf a ns ++ dropOf b ns := by simp only [dropOf, List.filter_append]
theorem drop_drop (a : List Fld) (ns : List (List UInt8)) : dropOf (dropOf a ns) ns = dropOf a ns := by simp only [dropOf, List.filter_filter, Bool.and_self]
theorem join_one (x : List UInt8) : Lib.join [x] sep2 = x := by simp [Lib.join, Lib.joinTail]
/-! Merging twice. -/
end Go.Proofs.X
