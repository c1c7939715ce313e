/-
  A part of the proof. No condition.
-/
import Derived.Test.YtkfffmpnmoiikaaGreatDoorUPv
/- Chapter 18: the laws ReuseTells, ReuseVerdict and ReuseFresh, as plain Lean. -/
set_option linter.unusedSimpArgs false
set_option linter.unusedVariables false
namespace Go.Proofs.X
open Go Go.Dp
theorem wgS (K : Nat) (r : Rep) (hK : 1000 ≤ K) : ∃ b, wW_ K r 500 = some b ∧ (b = true → r.2.2.2.1.length ≤ 70 ∧ ∀ f ∈ r.2.2.2.1, small 500 f) := by
  obtain ⟨q, h1, h2⟩ := weg K r.2.2.2.1 70 500 (by decide) (by omega)
  have h1 : wH_ K r.2.2.2.1 70 500 = some q := h1
  by_cases c1 : (r.2.1.length : Int) ≤ 500
  · by_cases c2 : (r.2.2.2.2.1.length : Int) ≤ 500
    · refine ⟨q, ?_, h2⟩
      simp only [wW_, c1, c2, h1, za', zb', zc', zd', ze', zf', zg', zh', zi', zj', zk', zl', zm', zn', zo', zp', zq', zr', zs', zt']
    · refine ⟨false, ?_, fun h => by cases h⟩
      simp only [wW_, c1, c2, za', zb', zc', zd', ze', zf', zg', zh', zi', zj', zk', zl', zm', zn', zo', zp', zq', zr', zs', zt']
  · refine ⟨false, ?_, fun h => by cases h⟩
    simp only [wW_, c1, za', zb', zc', zd', ze', zf', zg', zh', zi', zj', zk', zl', zm', zn', zo', zp', zq', zr', zs', zt']
theorem wfR (K : Nat) (r : Req) (hK : 1000 ≤ K) : ∃ b, wP_ K r 500 = some b ∧ (b = true → r.2.2.2.1.length ≤ 70 ∧ ∀ f ∈ r.2.2.2.1, small 500 f) := by
  obtain ⟨q, h1, h2⟩ := weg K r.2.2.2.1 70 500 (by decide) (by omega)
  have h1 : wH_ K r.2.2.2.1 70 500 = some q := h1
  by_cases c0 : (r.1.length : Int) ≤ 500
  · by_cases c1 : (r.2.1.length : Int) ≤ 500
    · by_cases c2 : (r.2.2.2.2.1.length : Int) ≤ 500
      · refine ⟨q, ?_, h2⟩
        simp only [wP_, c0, c1, c2, h1, za', zb', zc', zd', ze', zf', zg', zh', zi', zj', zk', zl', zm', zn', zo', zp', zq', zr', zs', zt']
      · refine ⟨false, ?_, fun h => by cases h⟩
        simp only [wP_, c0, c1, c2, za', zb', zc', zd', ze', zf', zg', zh', zi', zj', zk', zl', zm', zn', zo', zp', zq', zr', zs', zt']
    · refine ⟨false, ?_, fun h => by cases h⟩
      simp only [wP_, c0, c1, za', zb', zc', zd', ze', zf', zg', zh', zi', zj', zk', zl', zm', zn', zo', zp', zq', zr', zs', zt']
  · refine ⟨false, ?_, fun h => by cases h⟩
    simp only [wP_, c0, za', zb', zc', zd', ze', zf', zg', zh', zi', zj', zk', zl', zm', zn', zo', zp', zq', zr', zs', zt']
theorem wfo {l : List Fld} {m b : Nat} (h : l.length ≤ m ∧ ∀ f ∈ l, small b f) (hm : m < 1000000) (hb : b < 100000) : sized l :=
  ⟨by omega, fun f hf => by obtain ⟨h1, h2⟩ := h.2 f hf; exact ⟨by omega, by omega⟩⟩
abbrev KK : Nat := 2000000000000
abbrev repEta (r : Rep) : Rep := (r.1, (r.2.1, (r.2.2.1, (r.2.2.2.1, (r.2.2.2.2.1, ())))))
abbrev reqEta (q : Req) : Req := (q.1, (q.2.1, (q.2.2.1, (q.2.2.2.1, (q.2.2.2.2.1, ())))))
abbrev stoEta (s : Sto) : Sto := (((s.1.1, (s.1.2.1, (s.1.2.2.1, (s.1.2.2.2.1, (s.1.2.2.2.2.1, ()))))), (s.2.1, (s.2.2.1, ()))))
theorem web (a0 : Req) (a1 : Sto) (a2 : Int) : ∃ k, w1_ k a0 a1 a2 = some true := by
  refine ⟨KK, ?_⟩
  have hs := whA (K := KK) (by decide)
  obtain ⟨b, h1, h2⟩ := wfR KK a0 (by decide)
  have h1 : wP_ KK (reqEta a0) 500 = some b := h1
  obtain ⟨c, h3, h4⟩ := wgS KK a1.1 (by decide)
  have h3 : wW_ KK (repEta a1.1) 500 = some c := h3
  simp only [reqEta, repEta] at h1 h3
  cases b with
  | false => simp only [w1_, h1, hs, za', zb', zc', zd', ze', zf', zg', zh', zi', zj', zk', zl', zm', zn', zo', zp', zq', zr', zs', zt']
  | true =>
  cases c with
  | false => simp only [w1_, h1, h3, hs, za', zb', zc', zd', ze', zf', zg', zh', zi', zj', zk', zl', zm', zn', zo', zp', zq', zr', zs', zt']
  | true =>
    have zq := wfo (h2 rfl) (by decide) (by decide)
    have zs := wfo (h4 rfl) (by decide) (by decide)
    have e1 : wbt KK (reqEta a0) (stoEta a1) a2 = some (verO a0 a1 a2) := weh (q := a0) (s := a1) a2 zq zs (by decide)
    have e2 : wbn KK (reqEta a0) (stoEta a1) a2 = some (verO a0 a1 a2) := wei (q := a0) (s := a1) a2 zq zs (by decide)
    simp only [reqEta, stoEta] at e1 e2
    simp only [w1_, h1, h3, hs, za', zb', zc', zd', ze', zf', zg', zh', zi', zj', zk', zl', zm', zn', zo', zp', zq', zr', zs', zt', e1, e2, eq_self, beq_self_eq_true]
end Go.Proofs.X
