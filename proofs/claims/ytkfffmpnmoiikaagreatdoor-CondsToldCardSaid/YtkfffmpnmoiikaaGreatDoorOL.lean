/-
  A part of the proof. No condition.
-/
import Derived.Test.YtkfffmpnmoiikaaGreatDoorOPs
/- Chapter 19: the laws CondsTells, CondsMerges, CondsAgain and CondsTold, as plain Lean. -/
set_option linter.unusedSimpArgs false
set_option linter.unusedVariables false
namespace Go.Proofs.X
open Go Go.Dp
abbrev KK : Nat := 2000000000000
abbrev repEta (r : Rep) : Rep := (r.1, (r.2.1, (r.2.2.1, (r.2.2.2.1, (r.2.2.2.2.1, ())))))
abbrev reqEta (q : Req) : Req := (q.1, (q.2.1, (q.2.2.1, (q.2.2.2.1, (q.2.2.2.2.1, ())))))
theorem wej (l : List Fld) (ns : List (List UInt8)) : (onlyOf l ns).length ≤ l.length := List.length_filter_le _ _
theorem we8 (q l : List Fld) : (askF q l).length ≤ q.length + 2 := by
  have := wcR q [nINM, nIMS]
  unfold askF
  simp only [List.length_append]
  cases (tagO l).2.1 <;> cases (whenO l nMod).2.1 <;> simp <;> omega
theorem weQ {q l : List Fld} (hq : few q 70) (hl : few l 70) : sized (askF q l) := by
  have h1 := we8 q l
  have h2 := hq.1
  refine ⟨by omega, fun f hf => ?_⟩
  unfold askF at hf
  rcases List.mem_append.1 hf with hf | hf
  · rcases List.mem_append.1 hf with hf | hf
    · obtain ⟨g1, g2⟩ := hq.2 f (weo hf)
      exact ⟨by omega, by omega⟩
    · have zl := wc7 hl (by decide)
      cases c : (tagO l).2.1 with
      | false => rw [c] at hf; simp at hf
      | true =>
        rw [c] at hf
        simp only [if_true, List.mem_singleton] at hf
        subst hf
        have := wdo zl
        refine ⟨(by decide : nINM.length < 100000), ?_⟩
        obtain ⟨s, g1, g2, g3⟩ := web c
        have e := wdY g2
        have hm := (wd1 hl nTag).2 s (by rw [g1]; exact List.mem_cons_self)
        show (txtT (tagO l).1).length < 100000
        rw [g3, e]
        omega
  · cases c : (whenO l nMod).2.1 with
    | false => rw [c] at hf; simp at hf
    | true =>
      rw [c] at hf
      simp only [if_true, List.mem_singleton] at hf
      subst hf
      exact ⟨(by decide : nIMS.length < 100000), wfy hl (by decide)⟩
theorem wda (a0 : Req) (a1 : Rep) : ∃ k, w1_ k a0 a1 = some true := by
  refine ⟨KK, ?_⟩
  have hs := wfn (K := KK) (by decide)
  obtain ⟨b, h1, h2⟩ := wdJ KK a0 (by decide)
  have h1 : wK_ KK (reqEta a0) 500 = some b := h1
  obtain ⟨c, h3, h4⟩ := wer KK a1 (by decide)
  have h3 : wC_ KK (repEta a1) 500 = some c := h3
  simp only [reqEta, repEta] at h1 h3
  cases b with
  | false => simp only [w1_, h1, hs, za', zb', zc', zd', ze', zf', zg', zh', zi', zj', zk', zl', zm', zn', zo', zp', zq', zr', zs', zt']
  | true =>
  cases c with
  | false => simp only [w1_, h1, h3, hs, za', zb', zc', zd', ze', zf', zg', zh', zi', zj', zk', zl', zm', zn', zo', zp', zq', zr', zs', zt']
  | true =>
  have zq := wc7 (h2 rfl) (by decide)
  have zr := wc7 (h4 rfl) (by decide)
  have hl := (h4 rfl).1
  have hlq := (h2 rfl).1
  have za := weQ (h2 rfl) (h4 rfl)
  have e1 : wb3 KK (repEta a1) = some (tagO a1.2.2.2.1) := wcY (r := a1) zr (by decide)
  have e3 : wY_ KK (repEta a1) = some (notM a1) := wcx (r := a1) zr (by omega) (by decide)
  have e5 : wbW KK (reqEta a0) (repEta a1) = some (askO a0 a1) := wdE (q := a0) (r := a1) zq zr (by decide)
  have eg : wbm KK (askF a0.2.2.2.1 a1.2.2.2.1) [73, 102, 45, 78, 111, 110, 101, 45, 77, 97, 116, 99, 104] = some (getOf (askF a0.2.2.2.1 a1.2.2.2.1) nINM) := wce (name := nINM) za (by decide) (by decide)
  have hdl : ∀ l : List Fld, l.length < 1000000 → (∀ f ∈ l, f.1.length < 1000000) → wT_ KK l [[73, 102, 45, 78, 111, 110, 101, 45, 77, 97, 116, 99, 104], [73, 102, 45, 77, 111, 100, 105, 102, 105, 101, 100, 45, 83, 105, 110, 99, 101]] = some (dropOf l [nINM, nIMS]) := fun l g1 g2 =>
    wcz (names := [nINM, nIMS]) g1 g2 (by decide) (fun n hn => by
      have : ∀ n ∈ [nINM, nIMS], n.length < 100 := by decide
      have := this n hn
      show n.length < 2000000000000 ∧ n.length < 9223372036854775808
      omega) (by decide)
  have d1 := hdl (askF a0.2.2.2.1 a1.2.2.2.1) za.1 (fun f hf => by have := (za.2 f hf).1; omega)
  rw [we9] at d1
  have d2 := hdl a0.2.2.2.1 zq.1 (fun f hf => by have := (zq.2 f hf).1; omega)
  have d3 := wc1 (K := KK) (dropOf a0.2.2.2.1 [nINM, nIMS]) (by have := wcR a0.2.2.2.1 [nINM, nIMS]; omega) (by decide)
  have et := wfv a0.2.2.2.1 a1.2.2.2.1
  have ha : askO a0 a1 = ([71, 69, 84], (a0.2.1, (1, (askF a0.2.2.2.1 a1.2.2.2.1, ([], ()))))) := rfl
  rw [ha] at e5
  cases c1 : (tagO a1.2.2.2.1).2.1 with
  | false =>
    rw [c1, if_neg (by decide)] at et
    rw [et] at eg
    generalize notM a1 = M at e3
    generalize askF a0.2.2.2.1 a1.2.2.2.1 = A at *
    simp only [reqEta, repEta] at e1 e3 e5
    simp only [w1_, h1, h3, hs, za', zb', zc', zd', ze', zf', zg', zh', zi', zj', zk', zl', zm', zn', zo', zp', zq', zr', zs', zt', e1, e3, e5, eg, c1, d1, d2, d3, beq_self_eq_true]
  | true =>
    rw [c1, if_pos rfl] at et
    rw [et] at eg
    obtain ⟨s, g1, g2, g3⟩ := web c1
    have hx0 : ∀ t : Tg, t.2.1.length ≤ 1000000 → wb5 KK (t.1, (t.2.1, ())) = some (txtT t) := fun t h => wcU KK h
    have hx := hx0 (tagO a1.2.2.2.1).1 (by have := wdo zr; omega)
    have htx : txtT (tagO a1.2.2.2.1).1 = s := by rw [g3]; exact wdY g2
    have hsl : s.length ≤ 500 := (wd1 (h4 rfl) nTag).2 s (by rw [g1]; exact List.mem_cons_self)
    have hv : (getOf (askF a0.2.2.2.1 a1.2.2.2.1) nINM).1.length < 100000 := by
      rw [et]; show (txtT (tagO a1.2.2.2.1).1).length < 100000; rw [htx]; omega
    have sat : wX_ KK (([71, 69, 84], (a0.2.1, (1, (askF a0.2.2.2.1 a1.2.2.2.1, ([], ()))))) : Req) ((200, (a1.2.1, (a1.2.2.1, (a1.2.2.2.1, (a1.2.2.2.2.1, ()))))) : Rep) = some true := by
      have := wcF (K := KK) (q := (([71, 69, 84], (a0.2.1, (1, (askF a0.2.2.2.1 a1.2.2.2.1, ([], ()))))) : Req)) (r := ((200, (a1.2.1, (a1.2.2.1, (a1.2.2.2.1, (a1.2.2.2.2.1, ()))))) : Rep)) za hv zr (by decide)
      rw [this]
      unfold satO
      simp only [et, c1, beq_self_eq_true, Bool.true_or, za', zb', zc', zd', ze', zf', zg', zh', zi', zj', zk', zl', zm', zn', zo', zp', zq', zr', zs', zt', if_true, eq_self]
      have hmat : matT (txtT (tagO a1.2.2.2.1).1) (tagO a1.2.2.2.1).1 = true := by rw [htx, g3]; exact weS g2
      rw [hmat, Bool.or_true]
    have sel : wbp KK ((200, (a1.2.1, (a1.2.2.1, (a1.2.2.2.1, (a1.2.2.2.2.1, ()))))) : Rep) (repEta (notM a1)) = some true := by
      have zm : sized (onlyOf a1.2.2.2.1 nn) := ⟨by have := wej a1.2.2.2.1 nn; omega, fun f hf => zr.2 f (List.mem_filter.1 hf).1⟩
      have := wc0 (K := KK) (r := ((200, (a1.2.1, (a1.2.2.1, (a1.2.2.2.1, (a1.2.2.2.2.1, ()))))) : Rep)) (n := notM a1) zr zm (by decide)
      refine Eq.trans this ?_
      have t1 : (getOf (onlyOf a1.2.2.2.1 nn) nTag).2.1 = true := by
        unfold getOf
        rw [wd9, g1]
        rfl
      have t2 : tagO (onlyOf a1.2.2.2.1 nn) = tagO a1.2.2.2.1 := by unfold tagO; rw [wd9]
      show some (selO a1.2.2.2.1 (onlyOf a1.2.2.2.1 nn)) = some true
      unfold selO
      rw [t1, t2, c1]
      simp only [if_true, weakT, beq_self_eq_true, Bool.and_self]
    generalize notM a1 = M at e3 sel
    generalize askF a0.2.2.2.1 a1.2.2.2.1 = A at *
    simp only [reqEta, repEta] at e1 e3 e5 sel
    simp only [w1_, h1, h3, hs, za', zb', zc', zd', ze', zf', zg', zh', zi', zj', zk', zl', zm', zn', zo', zp', zq', zr', zs', zt', e1, e3, e5, eg, c1, hx, d1, d2, d3, sat, sel, beq_self_eq_true]
end Go.Proofs.X
