/-
  A part of the proof. No condition.
-/
import Derived.Test.YtkfffmpnmoiikaaGreatDoorOPs
/- Chapter 19: the laws CondsTells, CondsMerges, CondsAgain and CondsTold, as plain Lean. -/
set_option linter.unusedSimpArgs false
set_option linter.unusedVariables false
namespace Go.Proofs.X
open Go Go.Dp
abbrev KK : Nat := 2000000000000
abbrev repEta (r : Rep) : Rep := (r.1, (r.2.1, (r.2.2.1, (r.2.2.2.1, (r.2.2.2.2.1, ())))))
abbrev reqEta (q : Req) : Req := (q.1, (q.2.1, (q.2.2.1, (q.2.2.2.1, (q.2.2.2.2.1, ())))))
theorem we1 (l : List Fld) (ns : List (List UInt8)) : (onlyOf l ns).length ≤ l.length := List.length_filter_le _ _
theorem wfM (q l : List Fld) : (askF q l).length ≤ q.length + 2 := by
  have := wc3 q [nINM, nIMS]
  unfold askF
  simp only [List.length_append]
  cases (tagO l).2.1 <;> cases (whenO l nMod).2.1 <;> simp <;> omega
theorem wds (a0 : Req) (a1 : Rep) : ∃ k, w2_ k a0 a1 = some true := by
  refine ⟨KK, ?_⟩
  have hs := wga (K := KK) (by decide)
  obtain ⟨b, h1, h2⟩ := weE KK a0 (by decide)
  have h1 : wL_ KK (reqEta a0) 500 = some b := h1
  obtain ⟨c, h3, h4⟩ := wfu KK a1 (by decide)
  have h3 : wH_ KK (repEta a1) 500 = some c := h3
  simp only [reqEta, repEta] at h1 h3
  cases b with
  | false => simp only [w2_, h1, hs, za', zb', zc', zd', ze', zf', zg', zh', zi', zj', zk', zl', zm', zn', zo', zp', zq', zr', zs', zt']
  | true =>
  cases c with
  | false => simp only [w2_, h1, h3, hs, za', zb', zc', zd', ze', zf', zg', zh', zi', zj', zk', zl', zm', zn', zo', zp', zq', zr', zs', zt']
  | true =>
    have zq := wel (h2 rfl) (by decide)
    have zr := wel (h4 rfl) (by decide)
    have hv := wf9 (n := nINM) (h2 rfl) (by decide)
    have hl := (h4 rfl).1
    have hlq := (h2 rfl).1
    have e1 : wZ_ KK (reqEta a0) (repEta a1) = some (satO a0 a1) := wcW (q := a0) (r := a1) zq hv zr (by decide)
    have e2 : wT_ KK (reqEta a0) (repEta a1) = some (satO a0 a1) := wcZ (q := a0) (r := a1) zq hv zr (by decide)
    have e3 : w3_ KK (repEta a1) = some (notM a1) := wcK (r := a1) zr (by omega) (by decide)
    have e4 : wf_ KK (repEta a1) = some (notM a1) := wcJ (r := a1) zr (by decide)
    have e5 : wbW KK (reqEta a0) (repEta a1) = some (askO a0 a1) := wer (q := a0) (r := a1) zq zr (by decide)
    have e6 : wbE KK (reqEta a0) (repEta a1) = some (askO a0 a1) := wef (q := a0) (r := a1) zq zr (by decide)
    have g1 : ∀ r : Rep, r.2.2.2.1.length < 1000000 → wO_ KK (repEta r) (repEta r) = some true := fun r h => wdB r h (by decide)
    have g2 : ∀ q : Req, q.2.2.2.1.length < 1000000 → wU_ KK (reqEta q) (reqEta q) = some true := fun q h => wdg q h (by decide)
    have k1 := g1 (notM a1) (by have := we1 a1.2.2.2.1 nn; show (onlyOf a1.2.2.2.1 nn).length < 1000000; omega)
    have k2 := g2 (askO a0 a1) (by have := wfM a0.2.2.2.1 a1.2.2.2.1; show (askF a0.2.2.2.1 a1.2.2.2.1).length < 1000000; omega)
    generalize notM a1 = M at e3 e4 k1
    generalize askO a0 a1 = A at e5 e6 k2
    simp only [reqEta, repEta] at e1 e2 e3 e4 e5 e6 k1 k2
    simp only [w2_, h1, h3, hs, za', zb', zc', zd', ze', zf', zg', zh', zi', zj', zk', zl', zm', zn', zo', zp', zq', zr', zs', zt', e1, e2, e3, e4, e5, e6, k1, k2, beq_self_eq_true]
end Go.Proofs.X
