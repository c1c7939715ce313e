/-
  A part of the proof. No condition.
-/
import Derived.Test.YtkfffmpnmoiikaaGreatDoorUPv
/- Chapter 18: the laws ReuseTells, ReuseVerdict and ReuseFresh, as plain Lean. -/
set_option linter.unusedSimpArgs false
set_option linter.unusedVariables false
namespace Go.Proofs.X
open Go Go.Dp
theorem wfV (K : Nat) (r : Rep) (hK : 1000 ≤ K) : ∃ b, wT_ K r 500 = some b ∧ (b = true → r.2.2.2.1.length ≤ 70 ∧ ∀ f ∈ r.2.2.2.1, small 500 f) := by
  obtain ⟨q, h1, h2⟩ := wdU K r.2.2.2.1 70 500 (by decide) (by omega)
  have h1 : wD_ K r.2.2.2.1 70 500 = some q := h1
  by_cases c1 : (r.2.1.length : Int) ≤ 500
  · by_cases c2 : (r.2.2.2.2.1.length : Int) ≤ 500
    · refine ⟨q, ?_, h2⟩
      simp only [wT_, c1, c2, h1, za', zb', zc', zd', ze', zf', zg', zh', zi', zj', zk', zl', zm', zn', zo', zp', zq', zr', zs', zt']
    · refine ⟨false, ?_, fun h => by cases h⟩
      simp only [wT_, c1, c2, za', zb', zc', zd', ze', zf', zg', zh', zi', zj', zk', zl', zm', zn', zo', zp', zq', zr', zs', zt']
  · refine ⟨false, ?_, fun h => by cases h⟩
    simp only [wT_, c1, za', zb', zc', zd', ze', zf', zg', zh', zi', zj', zk', zl', zm', zn', zo', zp', zq', zr', zs', zt']
theorem weW (K : Nat) (r : Req) (hK : 1000 ≤ K) : ∃ b, wK_ K r 500 = some b ∧ (b = true → r.2.2.2.1.length ≤ 70 ∧ ∀ f ∈ r.2.2.2.1, small 500 f) := by
  obtain ⟨q, h1, h2⟩ := wdU K r.2.2.2.1 70 500 (by decide) (by omega)
  have h1 : wD_ K r.2.2.2.1 70 500 = some q := h1
  by_cases c0 : (r.1.length : Int) ≤ 500
  · by_cases c1 : (r.2.1.length : Int) ≤ 500
    · by_cases c2 : (r.2.2.2.2.1.length : Int) ≤ 500
      · refine ⟨q, ?_, h2⟩
        simp only [wK_, c0, c1, c2, h1, za', zb', zc', zd', ze', zf', zg', zh', zi', zj', zk', zl', zm', zn', zo', zp', zq', zr', zs', zt']
      · refine ⟨false, ?_, fun h => by cases h⟩
        simp only [wK_, c0, c1, c2, za', zb', zc', zd', ze', zf', zg', zh', zi', zj', zk', zl', zm', zn', zo', zp', zq', zr', zs', zt']
    · refine ⟨false, ?_, fun h => by cases h⟩
      simp only [wK_, c0, c1, za', zb', zc', zd', ze', zf', zg', zh', zi', zj', zk', zl', zm', zn', zo', zp', zq', zr', zs', zt']
  · refine ⟨false, ?_, fun h => by cases h⟩
    simp only [wK_, c0, za', zb', zc', zd', ze', zf', zg', zh', zi', zj', zk', zl', zm', zn', zo', zp', zq', zr', zs', zt']
theorem weI {l : List Fld} {m b : Nat} (h : l.length ≤ m ∧ ∀ f ∈ l, small b f) (hm : m < 1000000) (hb : b < 100000) : sized l :=
  ⟨by omega, fun f hf => by obtain ⟨h1, h2⟩ := h.2 f hf; exact ⟨by omega, by omega⟩⟩
abbrev KK : Nat := 2000000000000
abbrev repEta (r : Rep) : Rep := (r.1, (r.2.1, (r.2.2.1, (r.2.2.2.1, (r.2.2.2.2.1, ())))))
abbrev reqEta (q : Req) : Req := (q.1, (q.2.1, (q.2.2.1, (q.2.2.2.1, (q.2.2.2.2.1, ())))))
abbrev stoEta (s : Sto) : Sto := (((s.1.1, (s.1.2.1, (s.1.2.2.1, (s.1.2.2.2.1, (s.1.2.2.2.2.1, ()))))), (s.2.1, (s.2.2.1, ()))))
theorem wfJ {q : Req} {s : Sto} {now d : Int} (h0 : 0 ≤ s.2.1) (h1 : s.2.1 ≤ now) (h2 : 0 ≤ d) (h3 : now + d ≤ 253402300799) (h : useO q s now = false) : useO q s (now + d) = false := by
  obtain ⟨A, A0, A1⟩ := wfv h0 h1 h2 h3
  have L := weZ s
  cases hu : useO q s (now + d) with
  | false => rfl
  | true =>
    exfalso
    unfold useO at h hu
    simp only [Bool.and_eq_true, Bool.or_eq_true, decide_eq_true_eq, freshO] at hu
    obtain ⟨f1, f2, f3, f4⟩ := hu
    have hl : leftO s (now + d) ≤ leftO s now := by unfold leftO lessS hold; omega
    have g : useO q s now = true := by
      unfold useO
      simp only [Bool.and_eq_true, Bool.or_eq_true, decide_eq_true_eq, freshO]
      exact ⟨by omega, f2, by omega, by omega⟩
    unfold useO at g
    rw [h] at g; cases g
theorem wfx : askedC [] = ctl0 := by kernel_rfl
theorem wea (a0 : Req) (a1 : Sto) (a2 a3 : Int) (b2 : -9223372036854775808 ≤ a2) (b2' : a2 < 9223372036854775808) (b3 : -9223372036854775808 ≤ a3) (b3' : a3 < 9223372036854775808) : ∃ k, wL_ k a0 a1 a2 a3 = some true := by
  refine ⟨KK, ?_⟩
  have hs := wgv (K := KK) (by decide)
  obtain ⟨b, h1, h2⟩ := weW KK a0 (by decide)
  have h1 : wK_ KK (reqEta a0) 500 = some b := h1
  obtain ⟨c, h3, h4⟩ := wfV KK a1.1 (by decide)
  have h3 : wT_ KK (repEta a1.1) 500 = some c := h3
  simp only [reqEta, repEta] at h1 h3
  cases b with
  | false => simp only [wL_, h1, hs, za', zb', zc', zd', ze', zf', zg', zh', zi', zj', zk', zl', zm', zn', zo', zp', zq', zr', zs', zt']
  | true =>
  cases c with
  | false => simp only [wL_, h1, h3, hs, za', zb', zc', zd', ze', zf', zg', zh', zi', zj', zk', zl', zm', zn', zo', zp', zq', zr', zs', zt']
  | true =>
  have zq := weI (h2 rfl) (by decide) (by decide)
  have zs := weI (h4 rfl) (by decide) (by decide)
  by_cases c1 : a1.2.1 < 0
  · simp only [wL_, h1, h3, hs, za', zb', zc', zd', ze', zf', zg', zh', zi', zj', zk', zl', zm', zn', zo', zp', zq', zr', zs', zt', c1]
  by_cases c2 : a2 < a1.2.1
  · simp only [wL_, h1, h3, hs, za', zb', zc', zd', ze', zf', zg', zh', zi', zj', zk', zl', zm', zn', zo', zp', zq', zr', zs', zt', c1, c2]
  by_cases c4 : a2 > 253402300799
  · simp only [wL_, h1, h3, hs, za', zb', zc', zd', ze', zf', zg', zh', zi', zj', zk', zl', zm', zn', zo', zp', zq', zr', zs', zt', c1, c2, c4]
  by_cases c3 : a3 < 0
  · simp only [wL_, h1, h3, hs, za', zb', zc', zd', ze', zf', zg', zh', zi', zj', zk', zl', zm', zn', zo', zp', zq', zr', zs', zt', c1, c2, c4, c3]
  have w0 : IntKind.wrap .i64 (253402300799 - a2) = 253402300799 - a2 := wrap64 (by omega) (by omega)
  by_cases c5 : a3 > 253402300799 - a2
  · simp only [wL_, h1, h3, hs, za', zb', zc', zd', ze', zf', zg', zh', zi', zj', zk', zl', zm', zn', zo', zp', zq', zr', zs', zt', c1, c2, c4, c3, w0, c5]
  have w1 : IntKind.wrap .i64 (a2 + a3) = a2 + a3 := wrap64 (by omega) (by omega)
  have ev : ∀ x : Int, wbl KK (reqEta a0) (stoEta a1) x = some (verO a0 a1 x) := fun x => wdo (q := a0) (s := a1) x zq zs (by decide)
  have en : wbl KK (a0.1, (a0.2.1, (a0.2.2.1, ([], (a0.2.2.2.2.1, ()))))) (stoEta a1) a2 = some (verO (a0.1, (a0.2.1, (a0.2.2.1, ([], (a0.2.2.2.2.1, ()))))) a1 a2) := wdo (q := (a0.1, (a0.2.1, (a0.2.2.1, ([], (a0.2.2.2.2.1, ())))))) (s := a1) a2 (show sized [] from ⟨by decide, fun f hf => by cases hf⟩) zs (by decide)
  have eF : wct KK (stoEta a1) a2 = some (freshO a1 a2) := wdH (s := a1) zs (by decide)
  have eA : wcH KK (stoEta a1) a2 = some (ageO a1 a2) := wdk (s := a1) zs (by decide)
  have eL : wcM KK (stoEta a1) a2 = some (leftO a1 a2) := wdT (s := a1) zs (by decide)
  have hA := wdp (K := KK) zq (by decide)
  have hC := wc5 (K := KK) zs (by decide)
  simp only [reqEta, stoEta] at ev en eF eA eL
  cases hu : useO a0 a1 a2 with
  | false =>
    have hu2 := wfJ (q := a0) (s := a1) (now := a2) (d := a3) (by omega) (by omega) (by omega) (by omega) hu
    have v1 : verO a0 a1 a2 = 2 := by unfold verO; rw [hu]; rfl
    have v2 : verO a0 a1 (a2 + a3) = 2 := by unfold verO; rw [hu2]; rfl
    simp only [wL_, h1, h3, hs, za', zb', zc', zd', ze', zf', zg', zh', zi', zj', zk', zl', zm', zn', zo', zp', zq', zr', zs', zt', c1, c2, c4, c3, w0, c5, ev, v1, w1, v2, show ¬ (2 : Int) = 1 by decide]
  | true =>
    have v1 : verO a0 a1 a2 = 1 := by unfold verO; rw [hu]; rfl
    have hu' := hu
    unfold useO at hu'
    simp only [Bool.and_eq_true, Bool.or_eq_true, decide_eq_true_eq, Bool.not_eq_true'] at hu'
    obtain ⟨f1, ⟨f2, f3⟩, f4, f5⟩ := hu'
    have v3 : verO (a0.1, (a0.2.1, (a0.2.2.1, ([], (a0.2.2.2.2.1, ()))))) a1 a2 = 1 := by
      unfold verO useO
      simp only [wfx, ctl0, f1, f3, za', zb', zc', zd', ze', zf', zg', zh', zi', zj', zk', zl', zm', zn', zo', zp', zq', zr', zs', zt', show (-1 : Int) < 0 by decide, Bool.true_or]
    by_cases d1 : (askedC a0.2.2.2.1).2.2.2.2.2.2.1 < 0
    · by_cases d2 : (askedC a0.2.2.2.1).2.2.2.2.2.2.2.2.1 < 0
      · simp only [wL_, h1, h3, hs, za', zb', zc', zd', ze', zf', zg', zh', zi', zj', zk', zl', zm', zn', zo', zp', zq', zr', zs', zt', c1, c2, c4, c3, w0, c5, ev, v1, w1, hA, hC, eF, f1, f2, f3, d1, d2, en, v3]
      · have g2 := f5.resolve_left d2
        simp only [wL_, h1, h3, hs, za', zb', zc', zd', ze', zf', zg', zh', zi', zj', zk', zl', zm', zn', zo', zp', zq', zr', zs', zt', c1, c2, c4, c3, w0, c5, ev, v1, w1, hA, hC, eF, f1, f2, f3, d1, d2, eL, g2, en, v3]
    · have g1 := f4.resolve_left d1
      by_cases d2 : (askedC a0.2.2.2.1).2.2.2.2.2.2.2.2.1 < 0
      · simp only [wL_, h1, h3, hs, za', zb', zc', zd', ze', zf', zg', zh', zi', zj', zk', zl', zm', zn', zo', zp', zq', zr', zs', zt', c1, c2, c4, c3, w0, c5, ev, v1, w1, hA, hC, eF, f1, f2, f3, d1, d2, eA, g1, en, v3]
      · have g2 := f5.resolve_left d2
        simp only [wL_, h1, h3, hs, za', zb', zc', zd', ze', zf', zg', zh', zi', zj', zk', zl', zm', zn', zo', zp', zq', zr', zs', zt', c1, c2, c4, c3, w0, c5, ev, v1, w1, hA, hC, eF, f1, f2, f3, d1, d2, eA, eL, g1, g2, en, v3]
end Go.Proofs.X
