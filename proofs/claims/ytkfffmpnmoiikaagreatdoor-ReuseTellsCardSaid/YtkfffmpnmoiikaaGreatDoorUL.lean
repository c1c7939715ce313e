/-
  A part of the proof. No condition.
-/
import Derived.Test.YtkfffmpnmoiikaaGreatDoorUPv
/- Chapter 18: the laws ReuseTells, ReuseVerdict and ReuseFresh, as plain Lean. -/
set_option linter.unusedSimpArgs false
set_option linter.unusedVariables false
namespace Go.Proofs.X
open Go Go.Dp
theorem whw (K : Nat) (r : Rep) (hK : 1000 ≤ K) : ∃ b, wY_ K r 500 = some b ∧ (b = true → r.2.2.2.1.length ≤ 70 ∧ ∀ f ∈ r.2.2.2.1, small 500 f) := by
  obtain ⟨q, h1, h2⟩ := weq K r.2.2.2.1 70 500 (by decide) (by omega)
  have h1 : wK_ K r.2.2.2.1 70 500 = some q := h1
  by_cases c1 : (r.2.1.length : Int) ≤ 500
  · by_cases c2 : (r.2.2.2.2.1.length : Int) ≤ 500
    · refine ⟨q, ?_, h2⟩
      simp only [wY_, c1, c2, h1, za', zb', zc', zd', ze', zf', zg', zh', zi', zj', zk', zl', zm', zn', zo', zp', zq', zr', zs', zt']
    · refine ⟨false, ?_, fun h => by cases h⟩
      simp only [wY_, c1, c2, za', zb', zc', zd', ze', zf', zg', zh', zi', zj', zk', zl', zm', zn', zo', zp', zq', zr', zs', zt']
  · refine ⟨false, ?_, fun h => by cases h⟩
    simp only [wY_, c1, za', zb', zc', zd', ze', zf', zg', zh', zi', zj', zk', zl', zm', zn', zo', zp', zq', zr', zs', zt']
theorem wga (K : Nat) (r : Req) (hK : 1000 ≤ K) : ∃ b, wR_ K r 500 = some b ∧ (b = true → r.2.2.2.1.length ≤ 70 ∧ ∀ f ∈ r.2.2.2.1, small 500 f) := by
  obtain ⟨q, h1, h2⟩ := weq K r.2.2.2.1 70 500 (by decide) (by omega)
  have h1 : wK_ K r.2.2.2.1 70 500 = some q := h1
  by_cases c0 : (r.1.length : Int) ≤ 500
  · by_cases c1 : (r.2.1.length : Int) ≤ 500
    · by_cases c2 : (r.2.2.2.2.1.length : Int) ≤ 500
      · refine ⟨q, ?_, h2⟩
        simp only [wR_, c0, c1, c2, h1, za', zb', zc', zd', ze', zf', zg', zh', zi', zj', zk', zl', zm', zn', zo', zp', zq', zr', zs', zt']
      · refine ⟨false, ?_, fun h => by cases h⟩
        simp only [wR_, c0, c1, c2, za', zb', zc', zd', ze', zf', zg', zh', zi', zj', zk', zl', zm', zn', zo', zp', zq', zr', zs', zt']
    · refine ⟨false, ?_, fun h => by cases h⟩
      simp only [wR_, c0, c1, za', zb', zc', zd', ze', zf', zg', zh', zi', zj', zk', zl', zm', zn', zo', zp', zq', zr', zs', zt']
  · refine ⟨false, ?_, fun h => by cases h⟩
    simp only [wR_, c0, za', zb', zc', zd', ze', zf', zg', zh', zi', zj', zk', zl', zm', zn', zo', zp', zq', zr', zs', zt']
theorem wfW {l : List Fld} {m b : Nat} (h : l.length ≤ m ∧ ∀ f ∈ l, small b f) (hm : m < 1000000) (hb : b < 100000) : sized l :=
  ⟨by omega, fun f hf => by obtain ⟨h1, h2⟩ := h.2 f hf; exact ⟨by omega, by omega⟩⟩
abbrev KK : Nat := 2000000000000
abbrev repEta (r : Rep) : Rep := (r.1, (r.2.1, (r.2.2.1, (r.2.2.2.1, (r.2.2.2.2.1, ())))))
abbrev reqEta (q : Req) : Req := (q.1, (q.2.1, (q.2.2.1, (q.2.2.2.1, (q.2.2.2.2.1, ())))))
theorem weK (a0 : Req) (a1 : Rep) (a2 : Int) : ∃ k, w8_ k a0 a1 a2 = some true := by
  refine ⟨KK, ?_⟩
  have hs := wiy (K := KK) (by decide)
  obtain ⟨b, h1, h2⟩ := wga KK a0 (by decide)
  have h1 : wR_ KK (reqEta a0) 500 = some b := h1
  obtain ⟨c, h3, h4⟩ := whw KK a1 (by decide)
  have h3 : wY_ KK (repEta a1) 500 = some c := h3
  simp only [reqEta, repEta] at h1 h3
  cases b with
  | false => simp only [w8_, h1, hs, za', zb', zc', zd', ze', zf', zg', zh', zi', zj', zk', zl', zm', zn', zo', zp', zq', zr', zs', zt']
  | true =>
  cases c with
  | false => simp only [w8_, h1, h3, hs, za', zb', zc', zd', ze', zf', zg', zh', zi', zj', zk', zl', zm', zn', zo', zp', zq', zr', zs', zt']
  | true =>
    have zq := wfW (h2 rfl) (by decide) (by decide)
    have zr := wfW (h4 rfl) (by decide) (by decide)
    have e1 : wcG KK (repEta a1) = some (tagO a1.2.2.2.1) := weo (r := a1) zr (by decide)
    have e2 : wbS KK (repEta a1) = some (tagO a1.2.2.2.1) := wem (r := a1) zr (by decide)
    have e3 : wbI KK (reqEta a0) (repEta a1) a2 = some (storO a0 a1 a2) := weg (q := a0) (r := a1) a2 zq zr (by decide)
    have e4 : w0_ KK (reqEta a0) (repEta a1) a2 = some (storO a0 a1 a2) := wee (q := a0) (r := a1) a2 zq zr (by decide)
    have e5 : wb8 KK (reqEta a0) = some (passO a0.2.2.2.1) := wdL (q := a0) zq (by decide)
    have e6 : wbm KK (reqEta a0) = some (passO a0.2.2.2.1) := wdQ (q := a0) zq (by decide)
    have e7 : wbp KK (repEta a1) = some (valO a1.2.2.2.1) := wdu (r := a1) zr (by decide)
    have e8 : w2_ KK (repEta a1) = some (valO a1.2.2.2.1) := wdv (r := a1) zr (by decide)
    have e9 : wbl KK (reqEta a0) (repEta a1) = some (invO a0.1 a1.1) := wdV KK a0 a1
    have e10 : w3_ KK (reqEta a0) (repEta a1) = some (invO a0.1 a1.1) := wdW KK a0 a1
    simp only [reqEta, repEta] at e1 e2 e3 e4 e5 e6 e7 e8 e9 e10
    simp only [w8_, h1, h3, hs, za', zb', zc', zd', ze', zf', zg', zh', zi', zj', zk', zl', zm', zn', zo', zp', zq', zr', zs', zt', e1, e2, e3, e4, e5, e6, e7, e8, e9, e10, eq_self, beq_self_eq_true]
end Go.Proofs.X
