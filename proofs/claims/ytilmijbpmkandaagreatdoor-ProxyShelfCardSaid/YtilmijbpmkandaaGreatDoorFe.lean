/-
  A part of the proof's own groundwork: a small machine beside the model, and that what it computes the model computes. No condition.
-/
import Derived.Test.YtilmijbpmkandaaGreatDoorFd
import Derived.Recover
import Derived.Lib.Index
import Derived.Lib.MakeNoZero
import Derived.Lib.Builder
import Derived.Lib.Bytealg
import GoSem.ClaimGoes
/- Regions whose order is drawn: one step keeps what holds. -/
set_option autoImplicit false
set_option linter.unusedVariables false
set_option linter.unusedSimpArgs false
set_option linter.unusedSectionVars false
namespace Go.Cm
open Go Go.RowKit

structure RunK (C : Ctx) (call : CallT) (n : Nat) (all : Array Oper) (st tt : Nat → St) (it : Nat → It) (N : Nat) (E : En) : Prop where
  steps : ∀ j, j < N → ∃ o, StepAt C call n all st tt it j o
  fc : ∀ j, j < N → Fc st it j
  lim : (st 0).lim ≤ (st 0).nx
  top : ∀ i, (st 0).nx ≤ i → gO (st 0).hp i = .none
  cov : Cov E (st N)

section
variable {C : Ctx} {call : CallT} {n : Nat} {all : Array Oper} {st tt : Nat → St} {it : Nat → It} {N : Nat} {E : En} {β0 β : Mp} {w0 w : World} {a : Act} {L L' : Nat → Bool}

theorem RunK.topj (hR : RunK C call n all st tt it N E) {j : Nat} (hj : j ≤ N) : ∀ i, (st j).nx ≤ i → gO (st j).hp i = .none := fun i hi => by
  have h := (run_le hR.fc hR.lim j hj).1
  exact h.dead i (.inr hi) (hR.top i (Nat.le_trans h.nx hi))

theorem RunK.stab (hR : RunK C call n all st tt it N E) {i : Nat} : ∀ k, k < N → ¬ WrM it k i → hpF st (k + 1) i = hpF st k i := fun k hk hw => by
  have f := hR.fc k hk
  have h1 : i ∉ (it k).wl := fun e => hw (.inl e)
  have h2 : ¬ ((it k).lo ≤ i ∧ i < (it k).hi) := fun e => hw (.inr e)
  rw [f.lo, f.hi] at h2
  unfold hpF
  by_cases e : i < (st k).nx
  · exact f.same i e h1
  · have h3 := hR.topj (Nat.le_of_lt hk) i (Nat.not_lt.1 e)
    rw [h3, f.dead i (.inr (by omega)) h3]

theorem RunK.stabR (hR : RunK C call n all st tt it N E) {r : Nat} : ∀ k, k < N → ¬ WrR it k r → rgF st (k + 1) r = rgF st k r := fun k hk hw => (hR.fc k hk).reg r hw

/-- What an operation looks at is what it is in the order of the text. -/
theorem RunK.look (hR : RunK C call n all st tt it N E) {j : Nat} (hj : j < N) (hL : L j = false) (hlow : ∀ k, k < j → L k = true ∨ Apart (it k) (it j)) (hupp : ∀ k, j < k → k < N → L k = true → Apart (it j) (it k)) :
    (∀ i, i ∈ (it j).rl ∨ i ∈ (it j).wl → mix (hpF st) (WrM it) L N i = gO (st j).hp i) ∧ ∀ r, r ∈ (it j).lk → mix (rgF st) (WrR it) L N r = gR (st j).rg r := by
  constructor
  · intro i hi
    refine mix_at (Nat.le_of_lt hj) hR.stab (fun k hk hw => (hlow k hk).resolve_right fun ap => ?_) fun k h1 h2 h3 hw => ?_
    · rcases hw with hw | hw
      · exact hi.elim (ap.m1 i hw) (ap.m2 i hw)
      · exact hi.elim (fun h => ap.n1 i h hw) fun h => ap.n2 i h hw
    · by_cases e : k = j
      · subst e; rw [hL] at h3; cases h3
      · have ap := hupp k (by omega) h2 h3
        rcases hw with hw | hw
        · exact hi.elim (ap.m3 i hw) fun h => ap.m2 i h hw
        · exact hi.elim (fun h => ap.n3 i h hw) fun h => ap.n4 i h hw
  · intro r hr
    refine mix_at (Nat.le_of_lt hj) hR.stabR (fun k hk hw => (hlow k hk).resolve_right fun ap => ap.r1 r hw hr) fun k h1 h2 h3 hw => ?_
    by_cases e : k = j
    · subst e; rw [hL] at h3; cases h3
    · exact (hupp k (by omega) h2 h3).r3 r hw hr

def enJ (st : Nat → St) (it : Nat → It) (E : En) (j : Nat) : En := ⟨fun id => (st j).nx ≤ id ∨ id ∈ (it j).rl ∨ id ∈ (it j).wl, (st (j + 1)).nx, E.B⟩

theorem RunK.inS (hR : RunK C call n all st tt it N E) {j : Nat} (hj : j < N) : ∀ id, (enJ st it E j).S id → E.S id := by
  intro id h
  have hl := (run_le hR.fc hR.lim N (Nat.le_refl _)).2.1
  by_cases e : id < (st 0).lim
  · obtain ⟨g1, g2⟩ := run_logs hR.fc hR.lim hj e
    rcases h with h | h | h
    · have := (run_le hR.fc hR.lim j (Nat.le_of_lt hj)).1.nx
      have := hR.lim
      omega
    · exact hR.cov.rl id (g1 h)
    · exact hR.cov.wl id (g2 h)
  · exact hR.cov.lim id (by rw [hl]; omega)

theorem Inv.fr (hI : Inv C E n st it N β0 w0 L a w β) (hR : RunK C call n all st tt it N E) {j : Nat} (hj : j < N) {o : Oper} (hst : StepAt C call n all st tt it j o) (hL : L j = false)
    (hlow : ∀ k, k < j → L k = true ∨ Apart (it k) (it j)) (hupp : ∀ k, j < k → k < N → L k = true → Apart (it j) (it k)) : FR C (enJ st it E j) n β (maskS all o (st j)) a w := by
  obtain ⟨hm, hreg⟩ := hR.look hj hL hlow hupp
  obtain ⟨m1, m2, m3, m4, m5, m6, m7⟩ := maskS_nx all o (st j)
  obtain ⟨i1, i2, i3, i4, i5, i6⟩ := itOf_eq all o (st j) (tt j)
  rw [← hst.iq] at i1 i2 i3 i4 i5 i6
  have f := hR.fc j hj
  have htop := hR.topj (Nat.le_of_lt hj)
  have low : ∀ id, gO (st j).hp id ≠ .none → id < (st j).nx := fun id h => Nat.not_le.1 fun e => h (htop id e)
  have logs : ∀ id, (enJ st it E j).S id → id < (st j).nx → id ∈ (it j).rl ∨ id ∈ (it j).wl := fun id h e => h.resolve_left (by omega)
  refine ⟨hI.size, fun i => ?_, by rw [m4, (run_le hR.fc hR.lim j (Nat.le_of_lt hj)).2.2]; exact hI.dfs, ?_, hI.gl⟩
  · rw [m7]
    rcases gR_mask (rg := (st j).rg) (i := i) (looks all o) with ⟨h1, h2⟩ | h2
    · rw [h2, ← hreg i (by rw [i5]; exact h1)]; exact hI.regs i
    · rw [h2]; exact ⟨_, rfl⟩
  · rw [m1, m3]
    refine ⟨hI.dom, fun id h1 h2 => hI.free id (.inr ⟨j, hj, hL, by rw [f.lo]; exact h1, by rw [f.hi]; exact h2⟩), fun id hS => ?_, fun id id' t t' h1 h2 h3 h4 h5 h6 h7 => ?_, hI.base, htop⟩
    · by_cases e : id < (st j).nx
      · rw [← hm id (logs id hS e)]; exact hI.obj id (hR.inS hj id hS)
      · rw [htop id (Nat.not_lt.1 e)]; trivial
    · have g3 := hm id (logs id h1 (low id h3))
      have g4 := hm id' (logs id' h2 (low id' h4))
      exact hI.inj id id' t t' (hR.inS hj id h1) (hR.inS hj id' h2) (by rw [g3]; exact h3) (by rw [g4]; exact h4) h5 h6 h7

theorem Inv.next (hI : Inv C E n st it N β0 w0 L a w β) (hR : RunK C call n all st tt it N E) {j : Nat} (hj : j < N) {o : Oper} (hst : StepAt C call n all st tt it j o) (hL : L j = false) (hL' : ∀ k, L' k = if j = k then true else L k)
    (hlow : ∀ k, k < j → L k = true ∨ Apart (it k) (it j)) (hupp : ∀ k, j < k → k < N → L k = true → Apart (it j) (it k)) (hdf : (tt j).df = (st 0).df) (hle : Le (maskS all o (st j)) (tt j))
    {a' : Act} {w' : World} {β' : Mp} {v : Value} (hv : a'.tmps = (a.put o.dst v).tmps) (hF : FR C (enJ st it E j) n β' (tt j) a' w') (hA : Adv (enJ st it E j) (maskS all o (st j)) (tt j) β β' w w') : Inv C E n st it N β0 w0 L' a' w' β' := by
  obtain ⟨hm, hreg⟩ := hR.look hj hL hlow hupp
  obtain ⟨m1, m2, m3, m4, m5, m6, m7⟩ := maskS_nx all o (st j)
  obtain ⟨i1, i2, i3, i4, i5, i6⟩ := itOf_eq all o (st j) (tt j)
  obtain ⟨u1, u2, u3, u4, u5, u6, u7⟩ := unmask_eq o (st j) (tt j)
  rw [← hst.iq] at i1 i2 i3 i4 i5 i6
  rw [← hst.next] at u1 u2 u3 u4 u5 u6 u7
  have f := hR.fc j hj
  have mem : ∀ i, mix (hpF st) (WrM it) L' N i = @ite _ (WrM it j i) (Classical.propDecidable _) (hpF st (j + 1) i) (mix (hpF st) (WrM it) L N i) := fun i => mix_set hj hL hL' fun k h1 h2 h3 hw hw' => by
    have ap := hupp k h1 h2 h3
    rcases hw with hw | hw
    · rcases hw' with hw' | hw'
      · exact ap.m2 i hw hw'
      · exact ap.n4 i hw hw'
    · rcases hw' with hw' | hw'
      · exact ap.n2 i hw' hw
      · have := run_nx hR.fc (j + 1) k (by omega) (by omega)
        rw [(hR.fc k h2).lo] at hw'
        rw [f.hi] at hw
        omega
  have regs : ∀ r, mix (rgF st) (WrR it) L' N r = @ite _ (WrR it j r) (Classical.propDecidable _) (rgF st (j + 1) r) (mix (rgF st) (WrR it) L N r) := fun r => mix_set hj hL hL' fun k h1 h2 h3 hw hw' => (hupp k h1 h2 h3).r2 r hw hw'
  have inS : ∀ i, WrM it j i → (enJ st it E j).S i := fun i h => h.elim (fun h => .inr (.inr h)) fun h => .inl (by rw [← f.lo]; exact h.1)
  have hnone : ∀ i, (it j).lo ≤ i → i < (it j).hi → β i = none := fun i h1 h2 => hI.free i (.inr ⟨j, hj, hL, h1, h2⟩)
  have touch : ∀ i t, Tch (tt j) i → β i = some t → i ∈ (it j).wl := fun i t h hb => by
    rcases h with h | h
    · rw [hle.lim, m2] at h
      rw [hnone i (by rw [f.lo]; exact h.1) (by rw [i4]; exact h.2)] at hb; cases hb
    · rw [i2]; exact h
  have live : ∀ i, i ∈ (it j).wl → mix (hpF st) (WrM it) L N i ≠ .none := fun i h => by
    rw [hm i (.inr h)]; exact (f.wlv i h).2
  have wlS : ∀ i, i ∈ (it j).wl → E.S i := fun i h => hR.inS hj i (.inr (.inr h))
  have tchN : ∀ i t, i ∈ (it j).wl → β0 i = some t → Tch (st N) i := fun i t h _ => by
    by_cases e : i < (st 0).lim
    · exact .inr ((run_logs hR.fc hR.lim hj e).2 h)
    · exact .inl ⟨by rw [(run_le hR.fc hR.lim N (Nat.le_refl _)).2.1]; omega, Nat.lt_of_lt_of_le (f.wlv i h).1 (run_nx hR.fc j N (Nat.le_of_lt hj) (Nat.le_refl _))⟩
  have hH := hF.heap
  have hj1 : (tt j).hp = (st (j + 1)).hp := u2.symm
  have hn1 : (tt j).nx = (st (j + 1)).nx := u3.symm
  -- an object that is written or made against one that is not
  have cross : ∀ id id' t t', E.S id → E.S id' → WrM it j id → ¬ WrM it j id' → mix (hpF st) (WrM it) L N id' ≠ .none → β' id = some t → β' id' = some t' → t.blk = t'.blk → False := by
    intro id id' t t' s1 s2 w1 w2 l2 b1 b2 e
    obtain ⟨u, x, g1, _⟩ := (hI.obj id' s2).blk l2
    have := hA.ext id' u g1
    rw [b2] at this
    cases this
    cases hb : β id with
    | some t1 =>
      have := hA.ext id t1 hb
      rw [b1] at this
      cases this
      have hw : id ∈ (it j).wl := w1.resolve_right fun h => by rw [hnone id h.1 h.2] at hb; cases hb
      have := hI.inj id id' t t' s1 s2 (live id hw) l2 hb g1 e
      subst this
      exact w2 w1
    | none =>
      obtain ⟨_, _, h⟩ := hA.fresh id t b1 hb
      rcases h with h | ⟨id0, t0, h1, h2, h3, h4⟩
      · have := hI.dom id' t' g1
        omega
      · have hw := touch id0 t0 h1 h2
        have := hI.inj id0 id' t0 t' (wlS id0 hw) s2 (live id0 hw) l2 h2 g1 (h4.trans e)
        subst this
        exact w2 (.inl hw)
  refine ⟨hF.size, fun r => ?_, by rw [← hdf]; exact hF.dfs, fun g => (hI.gl g).mono hA.ext, hH.dom, fun id h => ?_, fun id hS => ?_, fun id id' t t' s1 s2 l1 l2 b1 b2 e => ?_, hH.base, ?_⟩
  · rw [regs]
    split
    · rename_i hw
      have hd : o.dst = some r := by rw [← i6]; exact hw
      unfold rgF
      rw [u1, hd]
      simp only [setD]
      rw [gR_set, if_pos rfl]
      exact hF.regs r
    · rename_i hw
      have hd : o.dst ≠ some r := by rw [← i6]; exact hw
      rw [hv, Dp.getD_put hd]
      exact (hI.regs r).mono hA.ext
  · have hb : β id = none := hI.free id (by
      rcases h with h | ⟨k, h1, h2, h3⟩
      · exact .inl h
      · rw [hL'] at h2
        by_cases e : j = k
        · rw [if_pos e] at h2; cases h2
        · rw [if_neg e] at h2; exact .inr ⟨k, h1, h2, h3⟩)
    cases hb' : β' id with
    | none => rfl
    | some t =>
      obtain ⟨g1, g2, _⟩ := hA.fresh id t hb' hb
      rw [m1] at g1
      rw [hn1] at g2
      exfalso
      rcases h with ⟨h, _⟩ | ⟨k, h1, h2, h3, h4⟩
      · have := run_nx hR.fc (j + 1) N (by omega) (Nat.le_refl _)
        omega
      · have fk := hR.fc k h1
        rw [fk.lo] at h3
        rw [fk.hi] at h4
        rw [hL'] at h2
        by_cases e : j = k
        · rw [if_pos e] at h2; cases h2
        · rcases Nat.lt_or_gt_of_ne e with e | e
          · have := run_nx hR.fc (j + 1) k (by omega) (by omega)
            omega
          · have := run_nx hR.fc (k + 1) j (by omega) (by omega)
            omega
  · rw [mem]
    split
    · rename_i hw
      unfold hpF
      rw [← hj1]
      exact hH.obj id (inS id hw)
    · rename_i hw
      refine ((hI.obj id hS).same fun t hb hl => hA.keep t.blk (hI.dom id t hb) fun id2 t2 h1 h2 h3 h4 => hw ?_).mono hA.ext
      have hw2 := touch id2 t2 h1 h2
      have := hI.inj id2 id t2 t (wlS id2 hw2) hS (live id2 hw2) hl h2 hb h4
      subst this
      exact .inl hw2
  · rw [mem] at l1 l2
    by_cases w1 : WrM it j id
    · rw [if_pos w1] at l1
      by_cases w2 : WrM it j id'
      · rw [if_pos w2] at l2
        unfold hpF at l1 l2
        rw [← hj1] at l1 l2
        exact hH.inj id id' t t' (inS id w1) (inS id' w2) l1 l2 b1 b2 e
      · rw [if_neg w2] at l2
        exact (cross id id' t t' s1 s2 w1 w2 l2 b1 b2 e).elim
    · rw [if_neg w1] at l1
      by_cases w2 : WrM it j id'
      · exact (cross id' id t' t s2 s1 w2 w1 l1 b2 b1 e.symm).elim
      · rw [if_neg w2] at l2
        obtain ⟨p, _, g1, _⟩ := (hI.obj id s1).blk l1
        obtain ⟨q, _, g2, _⟩ := (hI.obj id' s2).blk l2
        have q1 := hA.ext id p g1
        have q2 := hA.ext id' q g2
        rw [b1] at q1
        rw [b2] at q2
        cases q1
        cases q2
        exact hI.inj id id' t t' s1 s2 l1 l2 g1 g2 e
  · have hadv := hI.adv
    refine ⟨hadv.ext.trans hA.ext, fun id t b b0 => ?_, fun b hb hk => ?_, Nat.le_trans hadv.size hA.size, hA.os.trans hadv.os, hA.tape.trans hadv.tape, hA.output.trans hadv.output⟩
    · cases h1 : β id with
      | some t1 =>
        have := hA.ext id t1 h1
        rw [b] at this
        cases this
        exact hadv.fresh id t h1 b0
      | none =>
        obtain ⟨g1, g2, g3⟩ := hA.fresh id t b h1
        rw [m1] at g1
        rw [hn1] at g2
        have a1 := run_nx hR.fc 0 j (by omega) (by omega)
        have a2 := run_nx hR.fc (j + 1) N (by omega) (Nat.le_refl _)
        refine ⟨by omega, by omega, ?_⟩
        rcases g3 with g3 | ⟨id0, t0, h2, h3, h4, h5⟩
        · exact .inl (Nat.le_trans hadv.size g3)
        · have hw := touch id0 t0 h2 h3
          cases hb0 : β0 id0 with
          | some t1 =>
            have := hadv.ext id0 t1 hb0
            rw [h3] at this
            cases this
            exact .inr ⟨id0, t0, tchN id0 t0 hw hb0, hb0, h4, h5⟩
          | none =>
            obtain ⟨_, _, q⟩ := hadv.fresh id0 t0 h3 hb0
            rcases q with q | ⟨i, t1, d1, d2, d3, d4⟩
            · exact .inl (by rw [← h5]; exact q)
            · exact .inr ⟨i, t1, d1, d2, d3, d4.trans h5⟩
    · rw [hA.keep b (Nat.lt_of_lt_of_le hb hadv.size) ?_, hadv.keep b hb hk]
      intro id t h1 h2 h3
      have hw := touch id t h1 h2
      cases hb0 : β0 id with
      | some t1 =>
        have := hadv.ext id t1 hb0
        rw [h2] at this
        cases this
        exact hk id t (tchN id t hw hb0) hb0 h3
      | none =>
        obtain ⟨_, _, q⟩ := hadv.fresh id t h2 hb0
        rcases q with q | ⟨i, t1, d1, d2, d3, d4⟩
        · omega
        · rw [← d4]; exact hk i t1 d1 d2 d3

theorem Inv.step (hC : CtxOK C) (hS : SpOK C) (hK : CallOK C call) (hI : Inv C E n st it N β0 w0 L a w β) (hR : RunK C call n all st tt it N E) {j : Nat} (hj : j < N) {o : Oper} (hst : StepAt C call n all st tt it j o) (hL : L j = false) (hL' : ∀ k, L' k = if j = k then true else L k)
    (hlow : ∀ k, k < j → L k = true ∨ Apart (it k) (it j)) (hupp : ∀ k, j < k → k < N → L k = true → Apart (it j) (it k)) {K : Act → World → Prop} {Q : Exit → Act → World → Prop}
    (hk : ∀ a' w' β', Inv C E n st it N β0 w0 L' a' w' β' → K a' w') : if Region.wanted o (yielded all a.tmps) then o.wp C.P a w K Q else K (a.put o.dst undef) w := by
  obtain ⟨p1, ⟨l, p2⟩, p3⟩ := stepC_ok hC hS hK hst.step
  have p1 : Le (maskS all o (st j)) (tt j) := p1
  have p2 : (tt j).df = l ++ (maskS all o (st j)).df := p2
  obtain ⟨m1, m2, m3, m4, m5, m6, m7⟩ := maskS_nx all o (st j)
  obtain ⟨i1, i2, i3, i4, i5, i6⟩ := itOf_eq all o (st j) (tt j)
  obtain ⟨u1, u2, u3, u4, u5, u6, u7⟩ := unmask_eq o (st j) (tt j)
  rw [← hst.iq] at i1 i2 i3 i4 i5 i6
  rw [← hst.next] at u1 u2 u3 u4 u5 u6 u7
  have hdf : (tt j).df = (st 0).df := by
    have h1 := hst.df
    rw [p2, List.length_append, m4] at h1
    have h2 : l = [] := List.eq_nil_of_length_eq_zero (by omega)
    rw [p2, h2, List.nil_append, m4]
    exact (run_le hR.fc hR.lim j (Nat.le_of_lt hj)).2.2
  have hcov : Cov (enJ st it E j) (tt j) := ⟨fun id h => .inl (by rw [p1.lim, m2] at h; exact h), fun id h => .inr (.inl (by rw [i1]; exact h)), fun id h => .inr (.inr (by rw [i2]; exact h)), Nat.le_of_eq u3.symm⟩
  have hF := hI.fr hR hj hst hL hlow hupp
  have main := p3 (enJ st it E j) β a w hcov hF (fun a' w' => ∃ β', FR C (enJ st it E j) n β' (tt j) a' w' ∧ Adv (enJ st it E j) (maskS all o (st j)) (tt j) β β' w w') Q
    (fun s' e a' w' β' g1 g2 => by cases e; exact ⟨β', g1, g2⟩) (fun v s' e => by cases e)
  have fin : ∀ a' w', (∃ β', FR C (enJ st it E j) n β' (tt j) a' w' ∧ Adv (enJ st it E j) (maskS all o (st j)) (tt j) β β' w w') → (∃ v, a'.tmps = (a.put o.dst v).tmps) → K a' w' := by
    rintro a' w' ⟨β', g1, g2⟩ ⟨v, hv⟩
    exact hk a' w' β' (hI.next hR hj hst hL hL' hlow hupp hdf p1 hv g1 g2)
  split
  · rename_i hw
    rw [if_pos hw] at main
    exact Oper.wp_mono (fun a' w' hh => fin a' w' hh.1 hh.2) (Dp.wp_put main)
  · rename_i hw
    rw [if_neg hw] at main
    exact fin _ _ main ⟨undef, rfl⟩
end
end Go.Cm
/- Regions whose order is drawn. -/
set_option autoImplicit false
set_option linter.unusedVariables false
set_option linter.unusedSimpArgs false
set_option linter.unusedSectionVars false
namespace Go.Cm
open Go Go.RowKit

section
variable {C : Ctx} {call : CallT} {n : Nat} {all : Array Oper} {st tt : Nat → St} {it : Nat → It} {E : En} {β0 : Mp} {w0 : World}

theorem below_spec {all0 : List Oper} : ∀ (l : List Oper) (m : Nat), Dp.belowAll all0 m l = true → ∀ i o, l[i]? = some o → ∀ e ∈ o.after, Region.binds .any e = true → e.on < m + i := by
  intro l
  induction l with
  | nil => intro m _ i o hi; simp at hi
  | cons o l ih =>
    intro m hb i o' hi e he hbi
    simp only [Dp.belowAll] at hb
    obtain ⟨g1, g2⟩ := Dp.and2 hb
    cases i with
    | zero =>
      obtain rfl : o = o' := by simpa using hi
      unfold Dp.edgesBelow at g1
      have h3 := List.all_eq_true.1 g1 e (Array.mem_toList_iff.2 he)
      rw [hbi] at h3
      exact Dp.bltN (show Nat.blt e.on m = true by simpa using h3)
    | succ i =>
      have := ih (m + 1) g2 i o' (by simpa using hi) e he hbi
      omega

theorem draw_run (hC : CtxOK C) (hS : SpOK C) (hK : CallOK C call) (hR : RunK C call n all st tt it all.size E) {Q : Exit → Act → World → Prop}
    (hbel : ∀ (i : Nat) (o : Oper), all.toList[i]? = some o → ∀ e ∈ o.after, Region.binds .any e = true → e.on < i)
    (hq : ∀ a w β, Inv C E n st it all.size β0 w0 (fun _ => true) a w β → Q .normal a w) :
    ∀ (fuel : Nat) (listed : Array Bool) (a : Act) (w : World) (β : Mp), listed.size = all.size → Dp.unl listed all.size = fuel →
      (∀ (j : Nat) (o : Oper), all.toList[j]? = some o → listed.getD j false = true → ∀ e ∈ o.after, Region.binds .any e = true → listed.getD e.on false = true) →
      Inv C E n st it all.size β0 w0 (fun j => listed.getD j false) a w β → wpAny C.P .any all Q fuel listed a w := by
  have full : ∀ (listed : Array Bool) (a : Act) (w : World) (β : Mp), Dp.unl listed all.size = 0 → Inv C E n st it all.size β0 w0 (fun j => listed.getD j false) a w β → Inv C E n st it all.size β0 w0 (fun _ => true) a w β := by
    intro listed a w β h0 hI
    have hall := Dp.unl_zero _ h0
    have e : ∀ {X : Type} (f : Nat → Nat → X) (Wr : Nat → Nat → Prop) (i : Nat) (m : Nat), m ≤ all.size → mix f Wr (fun _ => true) m i = mix f Wr (fun j => listed.getD j false) m i := by
      intro X f Wr i m
      induction m with
      | zero => intro _; rfl
      | succ m ih =>
        intro hm
        unfold mix
        rw [hall m (by omega), ih (by omega)]
    exact ⟨hI.size, fun r => by rw [e _ _ _ _ (Nat.le_refl _)]; exact hI.regs r, hI.dfs, hI.gl, hI.dom, fun id h => hI.free id (h.imp (fun h => h) fun ⟨k, h1, h2, h3⟩ => by cases h2), fun id h => by rw [e _ _ _ _ (Nat.le_refl _)]; exact hI.obj id h,
      fun id id' t t' h1 h2 h3 h4 => by rw [e _ _ _ _ (Nat.le_refl _)] at h3 h4; exact hI.inj id id' t t' h1 h2 h3 h4, hI.base, hI.adv⟩
  intro fuel
  induction fuel with
  | zero =>
    intro listed a w β hsz hun hcl hI
    refine ⟨?_, hq a w β (full listed a w β hun hI)⟩
    have := Dp.ready_none (all := all.toList) (listed := listed) (by simpa using hsz) (by simpa using hun)
    simpa using this
  | succ fuel ih =>
    intro listed a w β hsz hun hcl hI
    refine ⟨fun hr => ?_, fun i hi => ?_⟩
    · obtain ⟨j, h1, h2, h3⟩ := Dp.unl_first (listed := listed) all.size (by omega)
      have hj : j ∈ Region.ready .any all listed := by
        rw [mem_ready]
        have hj : all.toList[j]? = some all[j] := by simp [h1]
        refine ⟨?_, all[j], by simp [h1], fun e he hb => h3 _ (hbel j _ hj e he hb)⟩
        rw [Array.getD_eq_getD_getElem?, Array.getElem?_eq_getElem (by omega)] at h2 ⊢
        simpa using h2
      rw [hr] at hj
      cases hj
    · obtain ⟨h1, o, ho, hready⟩ := mem_ready.1 hi
      have hlt := (Array.getElem?_eq_some_iff.1 ho).1
      have hia : all.toList[i]? = some o := by simpa using ho
      have hif : listed.getD i false = false := by
        rw [Array.getD_eq_getD_getElem?, Array.getElem?_eq_getElem (by omega)] at h1 ⊢
        simpa using h1
      have hcl2 : ∀ j, listed.getD j false = true → ∀ m ∈ Dp.edgesAt all.toList j, listed.getD m false = true := by
        intro j hj m hm
        unfold Dp.edgesAt at hm
        split at hm
        · rename_i oj hoj
          obtain ⟨e, he, hb, rfl⟩ := Dp.bindsL_spec.1 hm
          exact hcl j oj hoj hj e he hb
        · cases hm
      obtain ⟨o2, hst⟩ := hR.steps i hlt
      have : o2 = o := by have := hst.op; rw [ho] at this; exact (Option.some.inj this).symm
      subst this
      have anc : ∀ k, k ∈ Dp.ancL all.toList i (Dp.edgesAt all.toList i) → listed.getD k false = true := by
        refine Dp.anc_listed (L := fun j => listed.getD j false = true) hcl2 _ _ fun m hm => ?_
        unfold Dp.edgesAt at hm
        rw [hia] at hm
        obtain ⟨e, he, hb, rfl⟩ := Dp.bindsL_spec.1 hm
        exact hready e he hb
      have hL' : ∀ k, (listed.setIfInBounds i true).getD k false = if i = k then true else listed.getD k false := fun k => Dp.getD_set (by omega)
      have := hI.step hC hS hK hR hlt hst hif hL' (fun k hk => (hst.pair k hk).imp (fun h => anc k h) fun h => h)
        (fun k h1 h2 h3 => by
          obtain ⟨ok, hk⟩ := hR.steps k h2
          refine (hk.pair i h1).resolve_left fun hm => ?_
          have := Dp.anc_listed (L := fun j => listed.getD j false = true) hcl2 k (Dp.edgesAt all.toList k) (fun m hm => hcl2 k h3 m hm) i hm
          have this : listed.getD i false = true := this
          rw [hif] at this; cases this)
        (K := wpAny C.P .any all Q fuel (listed.setIfInBounds i true)) (Q := Q) (fun a' w' β' hI' => by
          refine ih (listed.setIfInBounds i true) a' w' β' (by simpa using hsz) ?_ ?_ hI'
          · have := Dp.unl_set (i := i) (by omega) hif all.size
            rw [if_pos hlt] at this
            omega
          · intro j oj hj hl e he hb
            rw [hL'] at hl
            rw [hL']
            split
            · rfl
            · by_cases hji : i = j
              · subst hji
                rw [hia] at hj; cases hj
                exact hready e he hb
              · rw [if_neg hji] at hl
                exact hcl j oj hj hl e he hb)
      unfold wpOp
      rw [ho]
      simp only
      split
      · rename_i hw; rw [if_pos hw] at this; exact .inl this
      · rename_i hw; rw [if_neg hw] at this; exact this
end

theorem drawC_ok {C : Ctx} (hC : CtxOK C) (hS : SpOK C) (hm : C.P.follows .mixedOrders = true) : DrawOK C := by
  intro call hK n ops s r h
  unfold drawC at h
  obtain ⟨h0, h⟩ := Dp.bif_some h
  obtain ⟨hb0, h2⟩ := Dp.and2 h0
  have hlim := Nat.le_of_ble_eq_true h2
  obtain ⟨st, tt, it, _, g2, g3, g4⟩ := drawS_run ops.toList [] s r (fun _ => ⟨[], [], 0, 0, [], none⟩) (fun _ => s) (fun _ => s) h rfl (fun k hk => by simp at hk)
  simp only [List.length_nil, Nat.zero_add] at g2 g3 g4
  have hsz : ops.toList.length = ops.size := by simp
  rw [hsz] at g3 g4
  have steps : ∀ j, j < ops.size → ∃ o, StepAt C call n ops st tt it j o := fun j hj => g4 j (Nat.zero_le _) hj
  have fc : ∀ j, j < ops.size → Fc st it j := fun j hj => by
    obtain ⟨o, ho⟩ := steps j hj
    exact ho.fc hC hS hK
  subst g2
  subst g3
  have hle := run_le fc hlim ops.size (Nat.le_refl _)
  refine ⟨hle.1, fun E β a w hc hF id Q hQ => ?_⟩
  have hc : Cov E (st ops.size) := hc
  have hR : RunK C call n ops st tt it ops.size E := ⟨steps, fc, hlim, hF.heap.top, hc⟩
  have hbel : ∀ (i : Nat) (o : Oper), ops.toList[i]? = some o → ∀ e ∈ o.after, Region.binds .any e = true → e.on < i := fun i o hi e he hb => by
    have := below_spec ops.toList 0 hb0 i o hi e he hb
    omega
  refine wp_region_any hm (draw_run (β0 := β) (w0 := { w with drawn := w.drawn + 1 }) hC hS hK hR hbel (fun a' w' β' hI => ?_) ops.size _ a _ β (by simp) (Dp.unl_false _) (fun j o hj hl => ?_) ?_)
  · refine hQ .normal a' w' ⟨st ops.size, β', rfl, ?_, ?_⟩
    · have hall : ∀ {X : Type} (f : Nat → Nat → X) (Wr : Nat → Nat → Prop) (i : Nat), (∀ k, k < ops.size → ¬ Wr k i → f (k + 1) i = f k i) → mix f Wr (fun _ => true) ops.size i = f ops.size i := fun f Wr i hs =>
        mix_at (Nat.le_refl _) hs (fun _ _ _ => rfl) fun k h3 h4 => by omega
      have hm : ∀ i, mix (hpF st) (WrM it) (fun _ => true) ops.size i = gO (st ops.size).hp i := fun i => hall _ _ i hR.stab
      have hr : ∀ i, mix (rgF st) (WrR it) (fun _ => true) ops.size i = gR (st ops.size).rg i := fun i => hall _ _ i hR.stabR
      refine ⟨hI.size, fun r => by rw [← hr r]; exact hI.regs r, by rw [hle.2.2]; exact hI.dfs, ⟨hI.dom, fun i h1 h2 => hI.free i (.inl ⟨h1, h2⟩), fun i hi => by rw [← hm i]; exact hI.obj i hi, fun i i' t t' h1 h2 h3 h4 => ?_, hI.base, hR.topj (Nat.le_refl _)⟩, hI.gl⟩
      rw [← hm i] at h3
      rw [← hm i'] at h4
      exact hI.inj i i' t t' h1 h2 h3 h4
    · have := hI.adv
      exact ⟨this.ext, this.fresh, this.keep, this.size, this.os, this.tape, this.output⟩
  · exfalso
    have hlt := (List.getElem?_eq_some_iff.1 hj).1
    have hlt : j < ops.size := by simpa using hlt
    rw [Array.getD_eq_getD_getElem?, Array.getElem?_eq_getElem (by simpa using hlt)] at hl
    simp at hl
  · have hf : ∀ j, (Array.replicate ops.size false).getD j false = false := fun j => by
      rw [Array.getD_eq_getD_getElem?]
      by_cases hj : j < ops.size
      · rw [Array.getElem?_eq_getElem (by simpa using hj)]; simp
      · rw [Array.getElem?_eq_none (by simpa using hj)]; rfl
    have none : ∀ {X : Type} (f : Nat → Nat → X) (Wr : Nat → Nat → Prop) (i : Nat) (m : Nat), mix f Wr (fun j => (Array.replicate ops.size false).getD j false) m i = f 0 i := by
      intro X f Wr i m
      induction m with
      | zero => rfl
      | succ m ih => unfold mix; rw [hf m, if_neg (by simp)]; exact ih
    have hH := hF.heap
    refine ⟨hF.size, fun r => by rw [none]; exact hF.regs r, hF.dfs, hF.gl, hH.dom, fun i h => ?_, fun i hi => by rw [none]; exact (hH.obj i hi).same fun _ _ _ => rfl, fun i i' t t' h1 h2 h3 h4 => by rw [none] at h3 h4; exact hH.inj i i' t t' h1 h2 h3 h4, hH.base, Adv.refl _ _ _ _ _⟩
    rcases h with ⟨h1, h2⟩ | ⟨k, h1, _, h2, h3⟩
    · exact hH.free i (Nat.le_trans hle.1.nx h1) h2
    · have f := fc k h1
      rw [f.lo] at h2
      rw [f.hi] at h3
      refine hH.free i (Nat.le_trans (run_nx fc 0 k (by omega) (by omega)) h2) (Nat.lt_of_lt_of_le h3 (Nat.le_trans (run_nx fc (k + 1) ops.size (by omega) (Nat.le_refl _)) hc.hi))
end Go.Cm
/- Calls. -/
set_option autoImplicit false
set_option linter.unusedVariables false
set_option linter.unusedSimpArgs false
set_option linter.unusedSectionVars false
namespace Go.Cm
open Go Go.RowKit

section
variable {C : Ctx} {E : En} {n : Nat} {β : Mp} {s s' : St} {a : Act} {w : World}

theorem lr_back {s : St} {id : Nat} : (s.lr id).hp = s.hp ∧ (s.lr id).nx = s.nx := ⟨lr_hp s id, lr_nx s id⟩

theorem loadC_run (hC : CtxOK C) {t : Nat} {x y : CV} (h : loadC C s t x = some (y, s')) : Le s s' ∧ Fr s s' ∧ s'.hp = s.hp ∧ s'.nx = s.nx ∧ ∀ (E : En) (β : Mp) (w : World) (vx : Value), Cov E s' → HR E β s.hp s.nx w → V β x vx → ∃ v, (Instr.loadAt t vx).run C.P w = .ok v w ∧ V β y v := by
  unfold loadC at h
  split at h
  · rename_i id off
    split at h
    · rename_i el cs n opn fz ho
      split at h
      · rename_i ha
        obtain ⟨h1, h⟩ := Dp.bif_some h
        cases h
        refine ⟨Le.lr _ _, Fr.lr _ _, lr_hp _ _, lr_nx _ _, fun E β w vx hc hH hx => ?_⟩
        have hS := lr_cov hc
        obtain ⟨t', hb, rfl⟩ := hx.p
        obtain ⟨l, g1, g2, g3, _⟩ := read_ok (P := C.P) (obj_cells (hH.obj id hS) ho) hb (Nat.le_of_ble_eq_true h1)
        refine ⟨.agg l.toArray, ?_, by simp only [R]; exact ⟨_, rfl, g2⟩⟩
        obtain ⟨a1, i, a2⟩ := ag_ok hC (w := w) ha
        simp only [Instr.loadAt, Instr.sureAddr, loadVar, Sem.run_bind, Sem.run_pure, Result.andThen_ok, a1, if_true, sz_run hC a2, g3]
      · rename_i ha
        obtain ⟨h1, h⟩ := Dp.bif_some h
        cases h
        refine ⟨Le.lr _ _, Fr.lr _ _, lr_hp _ _, lr_nx _ _, fun E β w vx hc hH hx => ?_⟩
        have hS := lr_cov hc
        obtain ⟨t', hb, rfl⟩ := hx.p
        obtain ⟨l, g1, g2, g3, g4⟩ := read_ok (P := C.P) (m := 1) (off := off) (obj_cells (hH.obj id hS) ho) hb (by have := Dp.bltN h1; omega)
        obtain ⟨v, rfl⟩ := List.length_eq_one_iff.1 g1
        have g5 := g4 0 v rfl
        refine ⟨v, ?_, ?_⟩
        · obtain ⟨a1, i, a2⟩ := ag_ok hC (w := w) ha
          simp only [Instr.loadAt, Instr.sureAddr, loadVar, Sem.run_bind, Sem.run_pure, Result.andThen_ok, a1, Bool.false_eq_true, if_false]
          simp [run_load]
          simp at g5
          rw [g5]
        · simp only [rdN, R] at g2
          obtain ⟨v', l2, e, g6, _⟩ := g2
          cases e
          exact g6
      · cases h
    · cases h
  · cases h

theorem FR.mem (hF : FR C E n β s a w) (h1 : s'.rg = s.rg) (h2 : s'.df = s.df) (h3 : s'.hp = s.hp) (h4 : s'.nx = s.nx) : FR C E n β s' a w :=
  ⟨hF.size, fun i => by rw [h1]; exact hF.regs i, by rw [h2]; exact hF.dfs, by rw [h3, h4]; exact hF.heap, hF.gl⟩

/-- A call's answers. -/
theorem resC_ok (hC : CtxOK C) : ∀ (l : List ResultVar) (s s' : St) (c : CV), resC C l s = some (c, s') → Le s s' ∧ Fr s s' ∧ s'.hp = s.hp ∧ s'.nx = s.nx ∧ ∀ (E : En) (n : Nat) (β : Mp) (a : Act) (w : World), Cov E s' → FR C E n β s a w →
    ∃ vs : List Value, L β c vs ∧ ∀ f : ResultVar → Sem Value, (∀ t, f (.tmp t) = pure (a.tmps.getD t undef)) → (∀ a' t, f (.cell a' t) = do loadVar t (← asAddr (a.tmps.getD a' undef))) → (l.mapM f).run C.P w = .ok vs w := by
  intro l
  induction l with
  | nil => intro s s' c h; cases h; exact ⟨Le.refl _, Fr.refl _, rfl, rfl, fun E n β a w _ _ => ⟨[], rfl, fun f _ _ => by simp⟩⟩
  | cons x l ih =>
    intro s s' c h
    cases x with
    | tmp t =>
      simp only [resC] at h
      split at h
      · rename_i r s1 h1
        cases h
        obtain ⟨g1, g2, g3, g4, g5⟩ := ih _ _ _ h1
        refine ⟨g1, g2, g3, g4, fun E n β a w hc hF => ?_⟩
        obtain ⟨vs, q1, q2⟩ := g5 E n β a w hc hF
        refine ⟨a.tmps.getD t undef :: vs, by simp only [R]; exact ⟨_, _, rfl, hF.regs t, q1⟩, fun f f1 f2 => ?_⟩
        simp only [List.mapM_cons, f1, Sem.run_bind, Sem.run_pure, Result.andThen_ok, q2 f f1 f2]
      · cases h
    | cell b t =>
      simp only [resC] at h
      split at h
      · rename_i v s1 h1
        split at h
        · rename_i r s2 h2
          cases h
          obtain ⟨p1, p2, p3, p4, p5⟩ := loadC_run hC h1
          obtain ⟨g1, g2, g3, g4, g5⟩ := ih _ _ _ h2
          refine ⟨p1.trans g1, p2.trans g2, g3.trans p3, g4.trans p4, fun E n β a w hc hF => ?_⟩
          obtain ⟨u, q1, q2⟩ := p5 E β w _ (hc.le g1) hF.heap (hF.regs b)
          obtain ⟨vs, r1, r2⟩ := g5 E n β a w hc (hF.mem p2.rg p2.df p3 p4)
          refine ⟨u :: vs, by simp only [R]; exact ⟨_, _, rfl, q2, r1⟩, fun f f1 f2 => ?_⟩
          have h3' : (do loadVar t (← asAddr (a.tmps.getD b undef)) : Sem Value).run C.P w = .ok u w := Dp.load_asAddr q1
          rw [List.mapM_cons, f2, Sem.run_bind, h3']
          simp only [Result.andThen_ok, Sem.run_bind, r2 f f1 f2, Sem.run_pure]
        · cases h
      · cases h

theorem one_ok {c : CV} {vs : List Value} (h : L β c vs) : V β (one c) (if h : vs.toArray.size = 1 then vs.toArray[0] else .tuple vs.toArray) := by
  have hl := h.len
  by_cases h1 : vs.length = 1
  · rw [dif_pos (by simpa using h1)]
    cases c with
    | cons x r =>
      cases r with
      | nil =>
        simp only [R] at h
        obtain ⟨v, l2, e, g1, g2⟩ := h
        subst e
        exact g1
      | cons y r => simp only [CV.len] at hl; omega
      | _ => simp only [R] at h; obtain ⟨_, _, _, _, h⟩ := h; exact h.elim
    | nil => simp only [CV.len] at hl; omega
    | _ => simp only [R] at h
  · rw [dif_neg (by simpa using h1)]
    have e : one c = .tup c := by
      unfold one
      split
      · simp only [CV.len] at hl; omega
      · rfl
    rw [e]
    simp only [R]
    exact ⟨vs.toArray, rfl, by simpa using h⟩

theorem retC_ok (hC : CtxOK C) {fn : Func} {s0 : St} {r : Bool × CV × St} (h : retC C fn s0 s = some r) : ∃ c s1, r = (false, one c, back s0 s1) ∧ Le s s1 ∧ s1.hp = s.hp ∧ s1.nx = s.nx ∧ ∀ (E : En) (n : Nat) (β : Mp) (a : Act) (w : World), Cov E s1 → FR C E n β s a w → ∃ v, (results fn a.tmps).run C.P w = .ok v w ∧ V β (one c) v := by
  unfold retC at h
  split at h
  · rename_i c s1 h1
    cases h
    obtain ⟨g1, g2, g3, g4, g5⟩ := resC_ok hC _ _ _ _ h1
    refine ⟨c, s1, rfl, g1, g3, g4, fun E n β a w hc hF => ?_⟩
    obtain ⟨vs, q1, q2⟩ := g5 E n β a w hc hF
    refine ⟨_, ?_, one_ok q1⟩
    unfold results
    rw [← Array.toArray_toList (xs := fn.results), List.mapM_toArray]
    simp only [Sem.run_bind, Sem.run_map]
    rw [q2 _ (fun _ => rfl) (fun _ _ => rfl)]
    rfl
  · cases h

theorem argR_ok : ∀ (args : CV) (m : Nat) (t : Tr CV) (l : List Value), L β args l → ∀ j, (∀ v, m ≤ j → l[j - m]? = some v → V β (gR (argR m args t) j) v) ∧ (j < m ∨ m + l.length ≤ j → gR (argR m args t) j = gR t j) := by
  intro args
  induction args with
  | nil => intro m t l h j; simp only [R] at h; subst h; exact ⟨fun v _ e => by simp at e, fun _ => rfl⟩
  | cons x r _ ih =>
    intro m t l h j
    simp only [R] at h
    obtain ⟨v, l2, rfl, h1, h2⟩ := h
    simp only [argR]
    obtain ⟨g1, g2⟩ := ih (m + 1) (t.set m x) l2 h2 j
    refine ⟨fun u hj e => ?_, fun hj => ?_⟩
    · by_cases ej : j = m
      · subst ej
        rw [g2 (.inl (by omega)), gR_set, if_pos rfl]
        simp at e
        subst e
        exact h1
      · refine g1 u (by omega) ?_
        rw [show j - m = (j - (m + 1)) + 1 by omega] at e
        simpa using e
    · simp only [List.length_cons] at hj
      rw [g2 (by omega), gR_set, if_neg (by omega)]
  | _ => intro m t l h; simp only [R] at h

/-- A call's beginning. -/
theorem FR.enter {args : CV} {vals : Array Value} (hH : HR E β s.hp s.nx w) (hg : ∀ g, V β (gl1 C.gl g) (.pointer (some ⟨g, 0, none⟩))) (ha : L β args vals.toList) (hn : args.len ≤ n) :
    FR C E n β (into (argR 0 args .lf) s) { tmps := vals ++ Array.replicate (n - vals.size) undef, defers := [] } w := by
  obtain ⟨rg, hp, nx, lim, rl, wl, df⟩ := s
  have hl := ha.len
  simp at hl
  refine ⟨by simp; omega, fun i => ?_, trivial, hH, hg⟩
  show V β (gR (argR 0 args .lf) i) _
  obtain ⟨g1, g2⟩ := argR_ok args 0 .lf vals.toList ha i
  by_cases hi : i < vals.size
  · refine g1 _ (Nat.zero_le _) ?_
    rw [Array.getD_eq_getD_getElem?, Array.getElem?_append_left hi]
    simp [hi]
  · rw [g2 (.inr (by simp; omega))]
    exact ⟨_, rfl⟩
end
end Go.Cm
/- Calls: a function is walked. -/
set_option autoImplicit false
set_option linter.unusedVariables false
set_option linter.unusedSimpArgs false
set_option linter.unusedSectionVars false
namespace Go.Cm
open Go Go.RowKit

/-- All that is shown once of a program. -/
structure ProgOK (C : Ctx) : Prop where
  ctx : CtxOK C
  sp : SpOK C
  mixed : C.P.follows .mixedOrders = true
  enter : ∀ f fn c, C.ft.get f = some fn → fn.body = some c → Dp.EnterOK C.P f

section
variable {C : Ctx} {E : En} {n : Nat} {β : Mp} {s s' : St} {a : Act} {w : World} {call : CallT}

theorem into_eq (rg : Tr CV) (s : St) : (into rg s).rg = rg ∧ (into rg s).hp = s.hp ∧ (into rg s).nx = s.nx ∧ (into rg s).lim = s.lim ∧ (into rg s).rl = s.rl ∧ (into rg s).wl = s.wl ∧ (into rg s).df = [] := by
  obtain ⟨_, hp, nx, lim, rl, wl, df⟩ := s
  exact ⟨rfl, rfl, rfl, rfl, rfl, rfl, rfl⟩
theorem back_eq (s s' : St) : (back s s').rg = s.rg ∧ (back s s').hp = s'.hp ∧ (back s s').nx = s'.nx ∧ (back s s').lim = s'.lim ∧ (back s s').rl = s'.rl ∧ (back s s').wl = s'.wl ∧ (back s s').df = s.df := by
  obtain ⟨rg, _, _, _, _, _, df⟩ := s
  obtain ⟨_, hp, nx, lim, rl, wl, _⟩ := s'
  exact ⟨rfl, rfl, rfl, rfl, rfl, rfl, rfl⟩
theorem Le.into (rg : Tr CV) (s : St) : Le s (into rg s) := by
  obtain ⟨_, h2, h3, h4, h5, h6, _⟩ := into_eq rg s
  exact Le.of h4 h3 h5 h6 h2
theorem Le.back (s0 s : St) : Le s (back s0 s) := by
  obtain ⟨_, h2, h3, h4, h5, h6, _⟩ := back_eq s0 s
  exact Le.of h4 h3 h5 h6 h2

/-- What holds from one moment to a later one counts the memory alone. -/
theorem Adv.same {E : En} {s s1 s' s1' : St} {β β' : Mp} {w w' : World} (h : Adv E s s1 β β' w w') (h1 : s'.nx = s.nx) (h2 : s1'.nx = s1.nx) (h3 : s1'.lim = s1.lim) (h4 : s1'.wl = s1.wl) : Adv E s' s1' β β' w w' := by
  have ht : ∀ i, Tch s1' i ↔ Tch s1 i := fun i => by unfold Tch; rw [h2, h3, h4]
  refine ⟨h.ext, fun i t b b0 => ?_, fun b hb hk => h.keep b hb fun i t h5 => hk i t ((ht i).2 h5), h.size, h.os, h.tape, h.output⟩
  obtain ⟨g1, g2, g3⟩ := h.fresh i t b b0
  exact ⟨by rw [h1]; exact g1, by rw [h2]; exact g2, g3.imp (fun h => h) fun ⟨i0, t0, q1, q2⟩ => ⟨i0, t0, (ht i0).2 q1, q2⟩⟩

theorem isRec_run {o : Oper} (h : isRec o = true) (ρ : Operand → Value) (P : Program) (w : World) : (execOp ρ o).run P w = .ok .recover w ∧ o.guard = none := by
  unfold isRec at h
  split at h
  · rename_i c hc
    split at h
    · rename_i hb
      obtain ⟨dst, op, ty, pos, after, guard⟩ := o
      simp only at hc
      subst hc
      obtain ⟨callee, args, ats⟩ := c
      simp only at hb
      subst hb
      refine ⟨?_, by simpa using h⟩
      rfl
    · cases h
  · cases h

/-- The mode in which a deferred call begins; what recover answers it. -/
def ModeR (β : Mp) (rc : CV) (u : FrameMode) : Prop := (rc = .ni ∧ u = .returning) ∨ ∃ v, V β rc v ∧ u = .panicking [{ v := v, recovered := false }]

theorem runD_ok (hP : ProgOK C) (hD : DrawOK C) (hK : CallOK C call) {clo rc : CV} (h : runD C call clo rc s = some s') : Le s s' ∧ ∀ (E : En) (β : Mp) (w : World) (u : FrameMode) (d : Deferred), Cov E s' → HR E β s.hp s.nx w → (∀ g, V β (gl1 C.gl g) (.pointer (some ⟨g, 0, none⟩))) → DfR β [clo] [d] → ModeR β rc u →
    ∃ (fv : Fn) (cap : Array Value) (f : Nat) (args : Array Value), d.target = .fn fv cap ∧ (invoke d.target d.args).run C.P w = .ok (.enter f args) w ∧ CallsD C.P f args u w fun e u' w' => ∃ v, e = .returned v ∧ settle u' = .returning ∧ ∃ β', HR E β' s'.hp s'.nx w' ∧ Adv E s s' β β' w w' := by
  unfold runD at h
  split at h
  · rename_i g first caps
    split at h
    · rename_i fn hfn
      split at h
      · rename_i ri ops c hb
        split at h
        · rename_i o hops
          split at h
          · rename_i dd hdst
            obtain ⟨h1, h⟩ := Dp.bif_some h
            obtain ⟨h1, hres⟩ := Dp.and2 h1
            obtain ⟨h1, hlen⟩ := Dp.and2 h1
            obtain ⟨hrec, hdn⟩ := Dp.and2 h1
            have hdn := Dp.bltN hdn
            have hlen := Nat.le_of_ble_eq_true hlen
            have key : ∃ e, exec C call fn.ntmps c ((into (argR 0 (first.app caps) .lf) s).set dd rc) = some e ∧ (e = .nor s' ∨ e = .ret s') ∧ s'.df = [] := by
              split at h
              · rename_i s1 hx
                obtain ⟨h2, h⟩ := Dp.bif_some h
                cases h
                exact ⟨_, hx, .inl rfl, by simpa using h2⟩
              · rename_i s1 hx
                obtain ⟨h2, h⟩ := Dp.bif_some h
                cases h
                exact ⟨_, hx, .inr rfl, by simpa using h2⟩
              · cases h
            obtain ⟨e, hx, he, hdf⟩ := key
            have hst : e.st = s' := by rcases he with rfl | rfl <;> rfl
            obtain ⟨p1, p2⟩ := exec_ok hP.ctx hP.sp hD hK c _ e hx
            obtain ⟨q1, q2, q3, q4, q5, q6, q7⟩ := into_eq (argR 0 (first.app caps) .lf) s
            have hle0 : Le s ((into (argR 0 (first.app caps) .lf) s).set dd rc) := (Le.into _ s).trans (Le.set _ _ _)
            rw [hst] at p1
            refine ⟨hle0.trans p1, fun E β w u d hc hH hg hd hm => ?_⟩
            simp only [DfR, and_true] at hd
            obtain ⟨g', first', caps', x, y, e1, rfl, hx1, hy1⟩ := hd
            cases e1
            refine ⟨_, _, g, x ++ y, rfl, hP.enter g fn _ hfn hb (x ++ y) w, ?_⟩
            have hbody : C.P.funcs[g]? = some fn := hP.ctx.ft g fn hfn
            refine callsD_of_wpS hbody hb fun c0 cs hc0 => ?_
            have hargs : L β (first.app caps) (x ++ y).toList := by rw [Array.toList_append]; exact hx1.app hy1
            have hE := FR.enter (C := C) hH hg hargs hlen
            have hsz : ops.size = 1 := by rw [← Array.length_toList, hops]; rfl
            have ho : ops[0]? = some o := by
              have := congrArg (fun l => l[0]?) hops
              simpa using this
            refine wpS_seq (wpS_region ?_)
            rw [hsz]
            show wpOpsS C.P ops _ [0] _ _ _
            simp only [wpOpsS, ho]
            obtain ⟨r1, r2⟩ := isRec_run hrec (Act.eval { tmps := (x ++ y) ++ Array.replicate (fn.ntmps - (x ++ y).size) undef, defers := [] }) C.P w
            rw [if_pos (Dp.wanted_none r2), r1]
            -- what is left of it
            have rest : ∀ (v : Value) (c1 : Frame), V β rc v → c1 = { c0 with mode := c1.mode } → settle c1.mode = .returning →
                c.wpS C.P (bodyPostS C.P fn c0 cs fun e u' w' => ∃ v, e = .returned v ∧ settle u' = .returning ∧ ∃ β', HR E β' s'.hp s'.nx w' ∧ Adv E s s' β β' w w')
                  (Act.put { tmps := (x ++ y) ++ Array.replicate (fn.ntmps - (x ++ y).size) undef, defers := [] } o.dst v) (c1 :: cs) w := by
              intro v c1 hv hc1 hse
              refine wpS_of_wp ?_
              have hF := hE.set (d := dd) (x := rc) (v := v) hdn hv
              rw [hdst]
              refine wp_mono (p2 E β _ w (by rw [hst]; exact hc) hF) fun z a' w' hh => ?_
              have fin : ∀ (β' : Mp), FR C E fn.ntmps β' s' a' w' → Adv E ((into (argR 0 (first.app caps) .lf) s).set dd rc) s' β β' w w' → a'.defers = [] ∧ ∃ u', (c1 :: cs) = { c0 with mode := u' } :: cs ∧ ∃ v, (results fn a'.tmps).run C.P w' = .ok v w' ∧ ∃ v', Ending.returned v = .returned v' ∧ settle u' = .returning ∧ ∃ β', HR E β' s'.hp s'.nx w' ∧ Adv E s s' β β' w w' := by
                intro β' g1 g2
                have hdd : a'.defers = [] := by
                  have := g1.dfs
                  rw [hdf] at this
                  cases hq : a'.defers with
                  | nil => rfl
                  | cons _ _ => rw [hq] at this; exact this.elim
                refine ⟨hdd, c1.mode, by rw [← hc1], .tuple #[], ?_, _, rfl, hse, β', g1.heap, g2.same q3.symm rfl rfl rfl⟩
                have hre : fn.results = #[] := by simpa using hres
                unfold results
                rw [hre]
                simp
              cases z with
              | normal => obtain ⟨s2, β', e1, e2, e3⟩ := hh; subst e1; cases hst; exact fin β' e2 e3
              | ret => obtain ⟨s2, β', e1, e2, e3⟩ := hh; subst e1; cases hst; exact fin β' e2 e3
              | panic ch => obtain ⟨v, s2, u, β', e1, _⟩ := hh; subst e1; rcases he with he | he <;> cases he
              | exit i => obtain ⟨s2, β', e1, _⟩ := hh; subst e1; rcases he with he | he <;> cases he
              | _ => exact hh.elim
            rcases hm with ⟨rfl, rfl⟩ | ⟨v, hv, rfl⟩
            · have hr : recoverD (c0 :: cs) = none := by simp only [recoverD, hc0]
              simp only [hr]
              exact rest .nilIface c0 (by simp [R]) rfl (by rw [hc0]; rfl)
            · have hr : recoverD (c0 :: cs) = some (v, { c0 with mode := .panicking [{ v := v, recovered := true }] } :: cs) := by simp only [recoverD, hc0]
              simp only [hr]
              exact rest v { c0 with mode := .panicking [{ v := v, recovered := true }] } hv rfl rfl
          · cases h
        · cases h
      · cases h
    · cases h
  · cases h

/-- What a call answers, when its deferred one has been run. -/
theorem ret_done (hP : ProgOK C) {fn : Func} {s0 s1 : St} {r : Bool × CV × St} (h : retC C fn s0 s1 = some r) : Le s1 r.2.2 ∧ r.1 = false ∧ r.2.2.rg = s0.rg ∧ r.2.2.df = s0.df ∧ r.2.2.hp = s1.hp ∧ r.2.2.nx = s1.nx ∧ r.2.2.lim = s1.lim ∧ r.2.2.wl = s1.wl ∧
    ∀ (E : En) (n : Nat) (β : Mp) (a : Act) (w : World), Cov E r.2.2 → FR C E n β s1 a w → ∃ v, (results fn a.tmps).run C.P w = .ok v w ∧ V β r.2.1 v := by
  obtain ⟨c, s2, rfl, g1, g2, g3, g4⟩ := retC_ok hP.ctx h
  obtain ⟨q1, q2, q3, q4, q5, q6, q7⟩ := back_eq s0 s2
  have hwl : s2.wl = s1.wl := by
    have : ∀ (l : List ResultVar) (s s' : St) (c : CV), resC C l s = some (c, s') → s'.wl = s.wl := by
      intro l
      induction l with
      | nil => intro s s' c h; cases h; rfl
      | cons x l ih =>
        intro s s' c h
        cases x with
        | tmp t =>
          simp only [resC] at h
          split at h
          · rename_i r s1 h1
            cases h
            exact ih _ _ _ h1
          · cases h
        | cell b t =>
          simp only [resC] at h
          split at h
          · rename_i v s1 h1
            split at h
            · rename_i r s2 h2
              cases h
              rw [ih _ _ _ h2]
              have lrw : ∀ (s : St) id, (s.lr id).wl = s.wl := fun s id => by obtain ⟨rg, hp, nx, lim, rl, wl, df⟩ := s; unfold St.lr; dsimp only; cases Nat.blt id lim <;> rfl
              unfold loadC at h1
              split at h1
              · split at h1
                · split at h1
                  · obtain ⟨_, h1⟩ := Dp.bif_some h1; cases h1; exact lrw _ _
                  · obtain ⟨_, h1⟩ := Dp.bif_some h1; cases h1; exact lrw _ _
                  · cases h1
                · cases h1
              · cases h1
            · cases h
          · cases h
    unfold retC at h
    split at h
    · rename_i c' s3 h3
      simp only [Option.some.injEq, Prod.mk.injEq, true_and] at h
      obtain ⟨_, h⟩ := h
      have e6 := congrArg St.wl h
      rw [(back_eq s0 s3).2.2.2.2.2.1, q6] at e6
      rw [← e6]
      exact this _ _ _ _ h3
    · cases h
  refine ⟨g1.trans (Le.back _ _), rfl, q1, q7, by show (back s0 s2).hp = _; rw [q2, g2], by show (back s0 s2).nx = _; rw [q3, g3], by show (back s0 s2).lim = _; rw [q4, g1.lim], by show (back s0 s2).wl = _; rw [q6, hwl], fun E n β a w hc hF => ?_⟩
  exact g4 E n β a w (hc.le (Le.back _ _)) hF

/-- The end of a function's run. -/
theorem endF_ok (hP : ProgOK C) (hD : DrawOK C) (hK : CallOK C call) {fn : Func} {s0 : St} {e : Ex} {r : Bool × CV × St} (h : endF C call fn s0 (some e) = some r) :
    Le e.st r.2.2 ∧ r.2.2.rg = s0.rg ∧ r.2.2.df = s0.df ∧ ∀ (E : En) (s1 : St) (β1 : Mp) (w1 : World), Cov E r.2.2 → Le s1 e.st → (∀ id t, β1 id = some t → t.blk < w1.heap.size) → ∀ z a w, XP C E fn.ntmps s1 β1 w1 e z a w →
      bodyPostD C.P fn (fun e' w' => ∃ (v : Value) (β' : Mp), V β' r.2.1 v ∧ HR E β' r.2.2.hp r.2.2.nx w' ∧ Adv E s1 r.2.2 β1 β' w1 w' ∧ e' = bif r.1 then .panicked [{ v := v, recovered := false }] else .returned v) z a w := by
  -- without a deferred call
  have plain : ∀ (s : St), s.df = [] → retC C fn s0 s = some r → Le s r.2.2 ∧ r.2.2.rg = s0.rg ∧ r.2.2.df = s0.df ∧ ∀ (E : En) (s1 : St) (β1 β : Mp) (w1 : World), Cov E r.2.2 → Le s1 s → ∀ a w, FR C E fn.ntmps β s a w → Adv E s1 s β1 β w1 w →
      Leaves C.P fn a.tmps (fun e' w' => ∃ (v : Value) (β' : Mp), V β' r.2.1 v ∧ HR E β' r.2.2.hp r.2.2.nx w' ∧ Adv E s1 r.2.2 β1 β' w1 w' ∧ e' = bif r.1 then .panicked [{ v := v, recovered := false }] else .returned v) a.defers .returning w := by
    intro s hdf hr
    obtain ⟨g1, g2, g3, g4, g5, g6, g7, g8, g9⟩ := ret_done hP hr
    refine ⟨g1, g3, g4, fun E s1 β1 β w1 hc hl a w hF hA => ?_⟩
    have hd := hF.dfs
    rw [hdf] at hd
    obtain ⟨v, q1, q2⟩ := g9 E _ β a w hc hF
    cases hq : a.defers with
    | cons _ _ => rw [hq] at hd; exact hd.elim
    | nil => exact ⟨v, q1, v, β, q2, by rw [g5, g6]; exact hF.heap, hA.same rfl g6 g7 g8, by rw [g2]; rfl⟩
  -- with one
  have one : ∀ (s s' : St) (clo rc : CV), s.df = [clo] → runD C call clo rc s = some s' → retC C fn s0 (back s s') = some r → Le s r.2.2 ∧ r.2.2.rg = s0.rg ∧ r.2.2.df = s0.df ∧ ∀ (E : En) (s1 : St) (β1 β : Mp) (w1 : World) (u : FrameMode), Cov E r.2.2 → Le s1 s → (∀ id t, β1 id = some t → t.blk < w1.heap.size) → ModeR β rc u → u ≠ .run → ∀ a w, FR C E fn.ntmps β s a w → Adv E s1 s β1 β w1 w →
      Leaves C.P fn a.tmps (fun e' w' => ∃ (v : Value) (β' : Mp), V β' r.2.1 v ∧ HR E β' r.2.2.hp r.2.2.nx w' ∧ Adv E s1 r.2.2 β1 β' w1 w' ∧ e' = bif r.1 then .panicked [{ v := v, recovered := false }] else .returned v) a.defers u w := by
    intro s s' clo rc hdf hrun hr
    obtain ⟨g1, g2, g3, g4, g5, g6, g7, g8, g9⟩ := ret_done hP hr
    obtain ⟨p1, p2⟩ := runD_ok hP hD hK hrun
    obtain ⟨b1, b2, b3, b4, b5, b6, b7⟩ := back_eq s s'
    have hl2 := (Le.back s s').trans g1
    refine ⟨p1.trans hl2, g3, g4, fun E s1 β1 β w1 u hc hl hdom hm hu a w hF hA => ?_⟩
    have hd := hF.dfs
    rw [hdf] at hd
    cases hq : a.defers with
    | nil => rw [hq] at hd; exact hd.elim
    | cons d ds =>
      rw [hq] at hd
      cases ds with
      | cons _ _ => exact hd.2.elim
      | nil =>
        obtain ⟨fv, cap, f, args, r1, r2, r3⟩ := p2 E β w u d (hc.le hl2) hF.heap hF.gl hd hm
        refine ⟨hu, fv, cap, f, args, r1, r2, fun c cs hcm => ?_⟩
        obtain ⟨e', u', w', fr, ⟨v, he, hse, β', hH', hA'⟩, hcomes⟩ := r3 c cs hcm
        subst he
        refine ⟨.returned v, u', w', fr, ?_, hcomes⟩
        show Leaves C.P fn a.tmps _ [] (settle u') w'
        rw [hse]
        have hF' : FR C E fn.ntmps β' (back s s') a w' :=
          ⟨hF.size, fun i => by rw [b1]; exact (hF.regs i).mono hA'.ext, by rw [b7]; exact hF.dfs.mono hA'.ext, by rw [b2, b3]; exact hH', fun g => (hF.gl g).mono hA'.ext⟩
        obtain ⟨v2, q1, q2⟩ := g9 E _ β' _ w' hc hF'
        have hA2 : Adv E s1 s' β1 β' w1 w' := hA.trans hA' hl p1 hdom
        exact ⟨v2, q1, v2, β', q2, by rw [g5, g6]; exact hF'.heap, hA2.same rfl (g6.trans b3) (g7.trans b4) (g8.trans b6), by rw [g2]; rfl⟩
  -- an end that is no panic
  have calm : ∀ (s : St), endR C call fn s0 s = some r → Le s r.2.2 ∧ r.2.2.rg = s0.rg ∧ r.2.2.df = s0.df ∧ ∀ (E : En) (s1 : St) (β1 β : Mp) (w1 : World), Cov E r.2.2 → Le s1 s → (∀ id t, β1 id = some t → t.blk < w1.heap.size) → ∀ a w, FR C E fn.ntmps β s a w → Adv E s1 s β1 β w1 w →
      Leaves C.P fn a.tmps (fun e' w' => ∃ (v : Value) (β' : Mp), V β' r.2.1 v ∧ HR E β' r.2.2.hp r.2.2.nx w' ∧ Adv E s1 r.2.2 β1 β' w1 w' ∧ e' = bif r.1 then .panicked [{ v := v, recovered := false }] else .returned v) a.defers .returning w := by
    intro s hr
    unfold endR at hr
    split at hr
    · rename_i hdf
      obtain ⟨g1, g2, g3, g4⟩ := plain s hdf hr
      exact ⟨g1, g2, g3, fun E s1 β1 β w1 hc hl _ a w hF hA => g4 E s1 β1 β w1 hc hl a w hF hA⟩
    · rename_i clo hdf
      split at hr
      · rename_i s' hrun
        obtain ⟨g1, g2, g3, g4⟩ := one s s' clo .ni hdf hrun hr
        exact ⟨g1, g2, g3, fun E s1 β1 β w1 hc hl hdom a w hF hA => g4 E s1 β1 β w1 .returning hc hl hdom (.inl ⟨rfl, rfl⟩) (by simp) a w hF hA⟩
      · cases hr
    · cases hr
  cases e with
  | nor s =>
    obtain ⟨g1, g2, g3, g4⟩ := calm s h
    refine ⟨g1, g2, g3, fun E s1 β1 w1 hc hl hdom z a w hz => ?_⟩
    cases z with
    | normal => obtain ⟨s', β', e1, e2, e3⟩ := hz; cases e1; exact g4 E s1 β1 β' w1 hc hl hdom a w e2 e3
    | exit i => obtain ⟨s', β', e1, _⟩ := hz; cases e1
    | ret => obtain ⟨s', β', e1, _⟩ := hz; cases e1
    | panic c => obtain ⟨v, s', u, β', e1, _⟩ := hz; cases e1
    | _ => exact hz.elim
  | ret s =>
    obtain ⟨g1, g2, g3, g4⟩ := calm s h
    refine ⟨g1, g2, g3, fun E s1 β1 w1 hc hl hdom z a w hz => ?_⟩
    cases z with
    | ret => obtain ⟨s', β', e1, e2, e3⟩ := hz; cases e1; exact g4 E s1 β1 β' w1 hc hl hdom a w e2 e3
    | exit i => obtain ⟨s', β', e1, _⟩ := hz; cases e1
    | normal => obtain ⟨s', β', e1, _⟩ := hz; cases e1
    | panic c => obtain ⟨v, s', u, β', e1, _⟩ := hz; cases e1
    | _ => exact hz.elim
  | pan v s =>
    have h : endP C call fn v s0 s = some r := h
    unfold endP at h
    split at h
    · rename_i hdf
      cases h
      obtain ⟨b1, b2, b3, b4, b5, b6, b7⟩ := back_eq s0 s
      refine ⟨Le.back _ _, b1, b7, fun E s1 β1 w1 hc hl hdom z a w hz => ?_⟩
      cases z with
      | panic c =>
        obtain ⟨v', s', u, β', e1, rfl, e2, e3, e4⟩ := hz
        cases e1
        have hd := e3.dfs
        rw [hdf] at hd
        show Leaves C.P fn a.tmps _ a.defers _ w
        cases hq : a.defers with
        | cons _ _ => rw [hq] at hd; exact hd.elim
        | nil => exact ⟨u, β', e2, by rw [b2, b3]; exact e3.heap, e4.same rfl b3 b4 b6, rfl⟩
      | exit i => obtain ⟨s', β', e1, _⟩ := hz; cases e1
      | normal => obtain ⟨s', β', e1, _⟩ := hz; cases e1
      | ret => obtain ⟨s', β', e1, _⟩ := hz; cases e1
      | _ => exact hz.elim
    · rename_i clo hdf
      split at h
      · rename_i s' hrun
        obtain ⟨g1, g2, g3, g4⟩ := one s s' clo v hdf hrun h
        refine ⟨g1, g2, g3, fun E s1 β1 w1 hc hl hdom z a w hz => ?_⟩
        cases z with
        | panic c =>
          obtain ⟨v', s', u, β', e1, rfl, e2, e3, e4⟩ := hz
          cases e1
          exact g4 E s1 β1 β' w1 _ hc hl hdom (.inr ⟨u, e2, rfl⟩) (by simp) a w e3 e4
        | exit i => obtain ⟨s', β', e1, _⟩ := hz; cases e1
        | normal => obtain ⟨s', β', e1, _⟩ := hz; cases e1
        | ret => obtain ⟨s', β', e1, _⟩ := hz; cases e1
        | _ => exact hz.elim
      · cases h
    · cases h
  | exit i s => cases h
  | goto i s => cases h

/-- One more level of calls. -/
noncomputable def levelF (C : Ctx) (call : CallT) : CallT := fun f args s => match C.ft.get f with
  | some fn => (match fn.body with
    | some c => bif Nat.ble args.len fn.ntmps then endF C call fn s (exec C call fn.ntmps c (into (argR 0 args .lf) s)) else fl 225
    | none => fl 164)
  | none => fl 165
theorem level_ok (hP : ProgOK C) (hK : CallOK C call) : CallOK C (levelF C call) := by
  have hD := drawC_ok hP.ctx hP.sp hP.mixed
  intro f args s r h
  unfold levelF at h
  split at h
  · rename_i fn hfn
    split at h
    · rename_i c hb
      obtain ⟨h1, h⟩ := Dp.bif_some h
      have hlen := Nat.le_of_ble_eq_true h1
      cases hx : exec C (call) fn.ntmps c (into (argR 0 args .lf) s) with
      | none => rw [hx] at h; cases h
      | some e =>
        rw [hx] at h
        obtain ⟨p1, p2⟩ := exec_ok hP.ctx hP.sp hD hK c _ e hx
        obtain ⟨g1, g2, g3, g4⟩ := endF_ok hP hD hK h
        obtain ⟨q1, q2, q3, q4, q5, q6, q7⟩ := into_eq (argR 0 args .lf) s
        refine ⟨((Le.into _ s).trans p1).trans g1, ⟨g2, g3⟩, hP.enter f fn c hfn hb, fun E β w vals hc hH hg ha => ?_⟩
        refine calls_of_wp_defers (hP.ctx.ft f fn hfn) hb ?_
        have hF := FR.enter (C := C) hH hg ha hlen
        refine wp_mono (p2 E β _ w (hc.le g1) hF) fun z a' w' hz => ?_
        have := g4 E _ β w hc p1 hF.dom z a' w' hz
        have conv : ∀ (e' : Ending) (w' : World), (∃ (v : Value) (β' : Mp), V β' r.2.1 v ∧ HR E β' r.2.2.hp r.2.2.nx w' ∧ Adv E (into (argR 0 args .lf) s) r.2.2 β β' w w' ∧ e' = bif r.1 then .panicked [{ v := v, recovered := false }] else .returned v) →
            ∃ (v : Value) (β' : Mp), V β' r.2.1 v ∧ HR E β' r.2.2.hp r.2.2.nx w' ∧ Adv E s r.2.2 β β' w w' ∧ e' = bif r.1 then .panicked [{ v := v, recovered := false }] else .returned v :=
          fun e' w' ⟨v, β', a1, a2, a3, a4⟩ => ⟨v, β', a1, a2, a3.same q3.symm rfl rfl rfl, a4⟩
        have he : (fun (e' : Ending) (w' : World) => ∃ (v : Value) (β' : Mp), V β' r.2.1 v ∧ HR E β' r.2.2.hp r.2.2.nx w' ∧ Adv E (into (argR 0 args .lf) s) r.2.2 β β' w w' ∧ e' = bif r.1 then .panicked [{ v := v, recovered := false }] else .returned v) =
            fun (e' : Ending) (w' : World) => ∃ (v : Value) (β' : Mp), V β' r.2.1 v ∧ HR E β' r.2.2.hp r.2.2.nx w' ∧ Adv E s r.2.2 β β' w w' ∧ e' = bif r.1 then .panicked [{ v := v, recovered := false }] else .returned v := by
          funext e' w'
          refine propext ⟨conv e' w', fun ⟨v, β', a1, a2, a3, a4⟩ => ⟨v, β', a1, a2, a3.same q3 rfl rfl rfl, a4⟩⟩
        rw [he] at this
        exact this
    · cases h
  · cases h

theorem callF_ok (hP : ProgOK C) : ∀ d, CallOK C (callF C d) := by
  intro d
  induction d with
  | zero => intro f args s r h; cases h
  | succ d ih => exact level_ok hP ih
end
end Go.Cm
/- Calls whose run is shown apart. -/
set_option autoImplicit false
set_option linter.unusedVariables false
set_option linter.unusedSimpArgs false
set_option linter.unusedSectionVars false
namespace Go.Cm
open Go Go.RowKit
noncomputable section

def eqN (x y : Option Nat) : Bool := match x, y with
  | none, none => true
  | some a, some b => Nat.beq a b
  | _, _ => false
def eqV : CV → CV → Bool
  | .u, .u => true
  | .nil, .nil => true
  | .cons a r, .cons b s => eqV a b && eqV r s
  | .b x, .b y => bif x then y else !y
  | .i k n, .i j m => decide (k = j) && decide (n = m)
  | .s x, .s y => sEq x y
  | .np, .np => true
  | .p a b, .p c d => Nat.beq a c && Nat.beq b d
  | .ns, .ns => true
  | .sl a b c d e, .sl a' b' c' d' e' => Nat.beq a a' && Nat.beq b b' && Nat.beq c c' && Nat.beq d d' && eqN e e'
  | .nm, .nm => true
  | .m a, .m b => Nat.beq a b
  | .nf, .nf => true
  | .f g a c, .f h b d => Nat.beq g h && eqV a b && eqV c d
  | .ni, .ni => true
  | .ifc t v, .ifc u w => Nat.beq t u && eqV v w
  | .agg a, .agg b => eqV a b
  | .tup a, .tup b => eqV a b
  | _, _ => false
theorem eqN_ok {x y : Option Nat} (h : eqN x y = true) : x = y := by
  unfold eqN at h
  split at h
  · rfl
  · rw [Dp.beqN h]
  · cases h
theorem sEqT : ∀ {x y : List UInt8}, sEq x y = true → x = y := by
  intro x
  induction x with
  | nil => intro y h; cases y with
    | nil => rfl
    | cons _ _ => cases h
  | cons a x ih => intro y h; cases y with
    | nil => cases h
    | cons b y =>
      simp only [sEq] at h
      obtain ⟨h1, h2⟩ := Dp.and2 h
      rw [ih h2, UInt8.toNat_inj.1 (Dp.beqN h1)]
theorem eqV_ok : ∀ {x y : CV}, eqV x y = true → x = y := by
  intro x
  induction x with
  | cons a r iha ihr =>
    intro y h
    cases y <;> simp only [eqV] at h <;> try (cases h; done)
    obtain ⟨h1, h2⟩ := Dp.and2 h
    rw [iha h1, ihr h2]
  | f g a c iha ihc =>
    intro y h
    cases y <;> simp only [eqV] at h <;> try (cases h; done)
    obtain ⟨h1, h2⟩ := Dp.and2 h
    obtain ⟨h0, h1⟩ := Dp.and2 h1
    rw [Dp.beqN h0, iha h1, ihc h2]
  | ifc t v ih =>
    intro y h
    cases y <;> simp only [eqV] at h <;> try (cases h; done)
    obtain ⟨h1, h2⟩ := Dp.and2 h
    rw [Dp.beqN h1, ih h2]
  | agg a ih =>
    intro y h
    cases y <;> simp only [eqV] at h <;> try (cases h; done)
    rw [ih h]
  | tup a ih =>
    intro y h
    cases y <;> simp only [eqV] at h <;> try (cases h; done)
    rw [ih h]
  | b x => intro y h; cases y <;> simp only [eqV] at h <;> try (cases h; done)
           cases x <;> simp_all
  | i k n =>
    intro y h
    cases y <;> simp only [eqV] at h <;> try (cases h; done)
    obtain ⟨h1, h2⟩ := Dp.and2 h
    rw [Dp.decT h1, Dp.decT h2]
  | s x => intro y h; cases y <;> simp only [eqV] at h <;> try (cases h; done)
           rw [sEqT h]
  | p a b =>
    intro y h
    cases y <;> simp only [eqV] at h <;> try (cases h; done)
    obtain ⟨h1, h2⟩ := Dp.and2 h
    rw [Dp.beqN h1, Dp.beqN h2]
  | sl a b c d e =>
    intro y h
    cases y <;> simp only [eqV] at h <;> try (cases h; done)
    obtain ⟨h, h5⟩ := Dp.and2 h
    obtain ⟨h, h4⟩ := Dp.and2 h
    obtain ⟨h, h3⟩ := Dp.and2 h
    obtain ⟨h, h2⟩ := Dp.and2 h
    rw [Dp.beqN h, Dp.beqN h2, Dp.beqN h3, Dp.beqN h4, eqN_ok h5]
  | m a => intro y h; cases y <;> simp only [eqV] at h <;> try (cases h; done)
           rw [Dp.beqN h]
  | _ => intro y h; cases y <;> first | rfl | (simp only [eqV] at h; cases h; done)

/-- The same cells, up to a number. -/
def eqR (a b : Tr CV) : Nat → Bool
  | 0 => true
  | n + 1 => eqV (gR a n) (gR b n) && eqR a b n
theorem eqR_ok {a b : Tr CV} : ∀ {n : Nat}, eqR a b n = true → ∀ j, j < n → gR a j = gR b j := by
  intro n
  induction n with
  | zero => intro _ j h; omega
  | succ n ih =>
    intro h j hj
    simp only [eqR] at h
    obtain ⟨h1, h2⟩ := Dp.and2 h
    by_cases e : j = n
    · subst e; exact eqV_ok h1
    · exact ih h2 j (by omega)
def eqM : List (CV × CV) → List (CV × CV) → Bool
  | [], [] => true
  | (a, b) :: l, (c, d) :: m => eqV a c && eqV b d && eqM l m
  | _, _ => false
theorem eqM_ok : ∀ {l m : List (CV × CV)}, eqM l m = true → l = m := by
  intro l
  induction l with
  | nil => intro m h; cases m with
    | nil => rfl
    | cons _ _ => cases h
  | cons p l ih =>
    intro m h
    obtain ⟨a, b⟩ := p
    cases m with
    | nil => cases h
    | cons q m =>
      obtain ⟨c, d⟩ := q
      simp only [eqM] at h
      obtain ⟨h, h3⟩ := Dp.and2 h
      obtain ⟨h1, h2⟩ := Dp.and2 h
      rw [eqV_ok h1, eqV_ok h2, ih h3]
/-- An object of which as much is known as of another one. -/
def likeO (o o' : CO) : Bool := match o, o' with
  | _, .none => true
  | .cells el cs n opn fz, .cells el' cs' n' opn' fz' => Nat.beq el el' && Nat.beq n n' && eqN opn opn' && Nat.beq fz fz' && eqR cs cs' n
  | .map es, .map es' => eqM es es'
  | .it s p, .it s' p' => sEq s s' && Nat.beq p p'
  | .num, .num => true
  | _, _ => false
theorem likeO_ok {o o' : CO} (h : likeO o o' = true) : (o = .none → o' = .none) ∧ ∀ B β w id, ObjR B β w id o → ObjR B β w id o' := by
  unfold likeO at h
  split at h
  · exact ⟨fun _ => rfl, fun _ _ _ _ _ => trivial⟩
  · rename_i el cs n opn fz el' cs' n' opn' fz'
    obtain ⟨h, h5⟩ := Dp.and2 h
    obtain ⟨h, h4⟩ := Dp.and2 h
    obtain ⟨h, h3⟩ := Dp.and2 h
    obtain ⟨h1, h2⟩ := Dp.and2 h
    obtain rfl := Dp.beqN h1
    obtain rfl := Dp.beqN h2
    obtain rfl := eqN_ok h3
    obtain rfl := Dp.beqN h4
    refine ⟨fun e => (by cases e), fun B β w id => ?_⟩
    rintro ⟨t, arr, fr, g1, g2, g3, g4, g5, g6⟩
    exact ⟨t, arr, fr, g1, g2, g3, g4, fun j hj hn => by rw [← eqR_ok h5 j hn]; exact g5 j hj hn, g6⟩
  · rw [eqM_ok h]; exact ⟨fun e => (by cases e), fun _ _ _ _ h => h⟩
  · obtain ⟨h1, h2⟩ := Dp.and2 h
    rw [sEqT h1, Dp.beqN h2]
    exact ⟨fun e => (by cases e), fun _ _ _ _ h => h⟩
  · exact ⟨fun e => (by cases e), fun _ _ _ _ h => h⟩
  · cases h

/-- Objects that are known. -/
def mkH : List (Nat × CO) → Tr CO
  | [] => .lf
  | (i, o) :: l => (mkH l).set i o
def likeH (hp : Tr CO) : List (Nat × CO) → Bool
  | [] => true
  | (i, o) :: l => likeO (gO hp i) o && likeH hp l
theorem mkH_at : ∀ (l : List (Nat × CO)) (id : Nat), gO (mkH l) id = .none ∨ (id, gO (mkH l) id) ∈ l := by
  intro l
  induction l with
  | nil => intro id; exact .inl rfl
  | cons p l ih =>
    intro id
    obtain ⟨i, o⟩ := p
    simp only [mkH, gO_set]
    by_cases e : id = i
    · subst e; rw [if_pos rfl]; exact .inr List.mem_cons_self
    · rw [if_neg e]; exact (ih id).imp_right (List.mem_cons_of_mem _)
theorem likeH_mem {hp : Tr CO} : ∀ {l : List (Nat × CO)}, likeH hp l = true → ∀ p ∈ l, likeO (gO hp p.1) p.2 = true := by
  intro l
  induction l with
  | nil => intro _ p hp; cases hp
  | cons q l ih =>
    intro h p hp
    simp only [likeH] at h
    obtain ⟨h1, h2⟩ := Dp.and2 h
    rcases List.mem_cons.1 hp with rfl | hp
    · exact h1
    · exact ih h2 p hp
theorem likeH_ok {hp : Tr CO} {l : List (Nat × CO)} (h : likeH hp l = true) (id : Nat) : (gO hp id = .none → gO (mkH l) id = .none) ∧ ∀ B β w, ObjR B β w id (gO hp id) → ObjR B β w id (gO (mkH l) id) := by
  rcases mkH_at l id with e | e
  · rw [e]; exact ⟨fun _ => rfl, fun _ _ _ _ => trivial⟩
  · have := likeO_ok (likeH_mem h _ e)
    exact ⟨this.1, fun B β w => this.2 B β w id⟩

/-- Less is known. -/
theorem HR.less {E : En} {β : Mp} {hp : Tr CO} {nx : Nat} {w : World} {l : List (Nat × CO)} (h : HR E β hp nx w) (hl : likeH hp l = true) : HR E β (mkH l) nx w :=
  ⟨h.dom, h.free, fun id hS => (likeH_ok hl id).2 _ _ _ (h.obj id hS),
    fun i j t u h1 h2 h3 h4 h5 h6 h7 => h.inj i j t u h1 h2 (fun e => h3 ((likeH_ok hl i).1 e)) (fun e => h4 ((likeH_ok hl j).1 e)) h5 h6 h7,
    h.base, fun id hi => (likeH_ok hl id).1 (h.top id hi)⟩

/-- Objects put over a memory; objects taken out of it. -/
def setAll (hp : Tr CO) : List (Nat × CO) → Tr CO
  | [] => hp
  | (i, o) :: l => (setAll hp l).set i o
def clear (hp : Tr CO) : List Nat → Tr CO
  | [] => hp
  | i :: l => (clear hp l).set i .none
theorem setAll_at (hp : Tr CO) : ∀ (l : List (Nat × CO)) (id : Nat), (gO (setAll hp l) id = gO hp id ∧ gO (mkH l) id = .none ∧ ∀ p ∈ l, p.1 ≠ id) ∨ (gO (setAll hp l) id = gO (mkH l) id ∧ ∃ p ∈ l, p.1 = id) := by
  intro l
  induction l with
  | nil => intro id; exact .inl ⟨rfl, rfl, fun p h => by cases h⟩
  | cons p l ih =>
    intro id
    obtain ⟨i, o⟩ := p
    simp only [mkH, setAll, gO_set]
    by_cases e : id = i
    · subst e; rw [if_pos rfl, if_pos rfl]; exact .inr ⟨rfl, _, List.mem_cons_self, rfl⟩
    · rw [if_neg e, if_neg e]
      rcases ih id with ⟨h1, h2, h3⟩ | ⟨h1, p, h2, h3⟩
      · refine .inl ⟨h1, h2, fun p hp => ?_⟩
        rcases List.mem_cons.1 hp with rfl | hp
        · exact fun h => e h.symm
        · exact h3 p hp
      · exact .inr ⟨h1, p, List.mem_cons_of_mem _ h2, h3⟩
theorem clear_at (hp : Tr CO) : ∀ (l : List Nat) (id : Nat), (id ∉ l ∧ gO (clear hp l) id = gO hp id) ∨ (id ∈ l ∧ gO (clear hp l) id = .none) := by
  intro l
  induction l with
  | nil => intro id; exact .inl ⟨fun h => by (cases h), rfl⟩
  | cons i l ih =>
    intro id
    simp only [clear, gO_set]
    by_cases e : id = i
    · subst e; rw [if_pos rfl]; exact .inr ⟨List.mem_cons_self, rfl⟩
    · rw [if_neg e]
      rcases ih id with ⟨h1, h2⟩ | ⟨h1, h2⟩
      · exact .inl ⟨fun h => (List.mem_cons.1 h).elim e h1, h2⟩
      · exact .inr ⟨List.mem_cons_of_mem _ h1, h2⟩

/-- A call, and what it comes to: its function, arguments, what it looks at; its answer, what it writes and makes. -/
structure Ent where
  f : Nat
  args : CV
  nx : Nat
  hp : List (Nat × CO)
  b : Bool
  v : CV
  nx' : Nat
  hp' : List (Nat × CO)
  rl : List Nat
  wl : List Nat

def Ent.s0 (e : Ent) : St := ⟨.lf, mkH e.hp, e.nx, e.nx, [], [], []⟩
def Ent.s1 (e : Ent) : St := ⟨.lf, mkH e.hp', e.nx', e.nx, e.rl, e.wl, []⟩

structure EntOK (C : Ctx) (e : Ent) : Prop where
  enter : Dp.EnterOK C.P e.f
  nx : e.nx ≤ e.nx'
  ids : ∀ p ∈ e.hp', p.1 ∈ e.wl ∨ e.nx ≤ p.1
  dead : ∀ id, e.nx' ≤ id → gO (mkH e.hp) id = .none → gO (mkH e.hp') id = .none
  wlv : ∀ id ∈ e.wl, id < e.nx ∧ gO (mkH e.hp) id ≠ .none
  run : ∀ (E : En) (β : Mp) (w : World) (vals : Array Value), (∀ id, e.nx ≤ id → E.S id) → (∀ id ∈ e.rl, E.S id) → (∀ id ∈ e.wl, E.S id) → e.nx' ≤ E.hi → HR E β (mkH e.hp) e.nx w → (∀ g, V β (gl1 C.gl g) (.pointer (some ⟨g, 0, none⟩))) → L β e.args vals.toList →
    Calls C.P e.f vals w fun x w' => ∃ (v : Value) (β' : Mp), V β' e.v v ∧ HR E β' (mkH e.hp') e.nx' w' ∧ Adv E e.s0 e.s1 β β' w w' ∧ x = bif e.b then .panicked [{ v := v, recovered := false }] else .returned v

def tfind : List Ent → Nat → Nat → Option Ent
  | [], _, _ => none
  | e :: l, f, nx => bif Nat.beq e.f f && Nat.beq e.nx nx then some e else tfind l f nx
theorem tfind_mem {f nx : Nat} {e : Ent} : ∀ {l : List Ent}, tfind l f nx = some e → e ∈ l ∧ e.f = f ∧ e.nx = nx := by
  intro l
  induction l with
  | nil => intro h; cases h
  | cons x l ih =>
    intro h
    simp only [tfind] at h
    cases hb : Nat.beq x.f f && Nat.beq x.nx nx with
    | true =>
      rw [hb] at h
      cases h
      obtain ⟨h1, h2⟩ := Dp.and2 hb
      exact ⟨List.mem_cons_self, Dp.beqN h1, Dp.beqN h2⟩
    | false =>
      rw [hb] at h
      obtain ⟨h1, h2⟩ := ih h
      exact ⟨List.mem_cons_of_mem _ h1, h2⟩

/-- What a call that stands in a table leaves. -/
def Ent.post (e : Ent) (s : St) : St := match s with
  | ⟨rg, hp, _, lim, rl, wl, df⟩ => ⟨rg, setAll (clear hp e.wl) e.hp', e.nx', lim, sub lim e.rl rl, sub lim e.wl wl, df⟩
/-- A call that may stand in a table. -/
def tcall (T : List Ent) (call : CallT) : CallT := fun f args s => match tfind T f s.nx with
  | some e => bif Nat.ble s.lim s.nx && eqV args e.args && likeH s.hp e.hp then some (e.b, e.v, e.post s) else call f args s
  | none => call f args s

def callM (C : Ctx) (T : List Ent) (d : Nat) : CallT :=
  Nat.rec (motive := fun _ => CallT) (fun _ _ _ => fl 162) (fun _ ih => levelF C (tcall T ih)) d

section
variable {C : Ctx} {T : List Ent} {call : CallT}

theorem tcall_ok (hT : ∀ e ∈ T, EntOK C e) (hK : CallOK C call) : CallOK C (tcall T call) := by
  intro f args s r h
  unfold tcall at h
  split at h
  · rename_i e he
    obtain ⟨h1, rfl, h2⟩ := tfind_mem he
    cases hb : Nat.ble s.lim s.nx && eqV args e.args && likeH s.hp e.hp with
    | false => rw [hb] at h; exact hK _ _ _ _ h
    | true =>
      rw [hb] at h
      cases h
      obtain ⟨hb, h5⟩ := Dp.and2 hb
      obtain ⟨h3, h4⟩ := Dp.and2 hb
      have h3 := Nat.le_of_ble_eq_true h3
      obtain rfl := eqV_ok h4
      have hE := hT e h1
      obtain ⟨rg, hp, nx, lim, rl, wl, df⟩ := s
      simp only at h2 h3 h5
      subst h2
      have hlike := likeH_ok h5
      have live : ∀ id ∈ e.wl, gO hp id ≠ .none := fun id hi e0 => (hE.wlv id hi).2 ((hlike id).1 e0)
      -- an object that is neither written nor made
      have old : ∀ id, id < e.nx → id ∉ e.wl → gO (setAll (clear hp e.wl) e.hp') id = gO hp id := fun id hi hw => by
        rcases setAll_at (clear hp e.wl) e.hp' id with ⟨q, _⟩ | ⟨_, p, q1, q2⟩
        · rw [q]
          rcases clear_at hp e.wl id with ⟨_, q⟩ | ⟨q, _⟩
          · exact q
          · exact absurd q hw
        · rcases hE.ids p q1 with q | q
          · rw [q2] at q; exact absurd q hw
          · omega
      have top : ∀ id, e.nx' ≤ id → gO hp id = .none → gO (setAll (clear hp e.wl) e.hp') id = .none := fun id hi h0 => by
        rcases setAll_at (clear hp e.wl) e.hp' id with ⟨q, _⟩ | ⟨q, _⟩
        · rw [q]
          rcases clear_at hp e.wl id with ⟨_, q⟩ | ⟨_, q⟩
          · rw [q]; exact h0
          · exact q
        · rw [q]; exact hE.dead id hi ((hlike id).1 h0)
      have tch : ∀ id, Tch e.s1 id → Tch (e.post ⟨rg, hp, e.nx, lim, rl, wl, df⟩) id := fun id ht => by
        rcases ht with ht | ht
        · have a1 : e.nx ≤ id := ht.1
          exact .inl ⟨Nat.le_trans h3 a1, ht.2⟩
        · have ht : id ∈ e.wl := ht
          by_cases hl : id < lim
          · exact .inr (sub_mem.2 (.inr ⟨ht, hl⟩))
          · exact .inl ⟨Nat.not_lt.1 hl, Nat.lt_of_lt_of_le (hE.wlv id ht).1 hE.nx⟩
      refine ⟨⟨rfl, hE.nx, fun id h => sub_mem.2 (.inl h), fun id h => sub_mem.2 (.inl h), fun id h6 h7 h8 => old id h7 fun hw => h8 (sub_mem.2 (.inr ⟨hw, h6⟩)), fun id h6 h7 => ?_, fun id h => ?_⟩, ⟨rfl, rfl⟩, hE.enter, fun E β w vals hc hH hg ha => ?_⟩
      · rcases h6 with h6 | h6
        · have h6 : id < e.nx := h6
          have : id ∉ e.wl := fun hw => live id hw h7
          show gO (setAll (clear hp e.wl) e.hp') id = .none
          rw [old id h6 this]; exact h7
        · exact top id h6 h7
      · rcases sub_mem.1 h with h | ⟨h, hl⟩
        · exact .inl h
        · exact .inr ⟨hl, .inr (live id h)⟩
      · have inS : ∀ id, (id ∈ e.rl ∨ id ∈ e.wl ∨ e.nx ≤ id) → E.S id := fun id h => by
          by_cases hl : id < lim
          · rcases h with h | h | h
            · exact hc.rl id (sub_mem.2 (.inr ⟨h, hl⟩))
            · exact hc.wl id (sub_mem.2 (.inr ⟨h, hl⟩))
            · omega
          · exact hc.lim id (Nat.not_lt.1 hl)
        have hH : HR E β hp e.nx w := hH
        have hhi : e.nx' ≤ E.hi := hc.hi
        let E1 : En := ⟨fun id => id ∈ e.rl ∨ id ∈ e.wl ∨ e.nx ≤ id, E.hi, E.B⟩
        have hH1 : HR E1 β (mkH e.hp) e.nx w :=
          have hl := hH.less h5
          ⟨hl.dom, hl.free, fun id hS => hl.obj id (inS id hS), fun i j t u q1 q2 => hl.inj i j t u (inS i q1) (inS j q2), hl.base, hl.top⟩
        refine (hE.run E1 β w vals (fun id h => .inr (.inr h)) (fun id h => .inl h) (fun id h => .inr (.inl h)) hhi hH1 hg ha).mono ?_
        rintro x w' ⟨v, β', g1, g2, g3, g4⟩
        have bound : ∀ id, gO hp id ≠ .none → E.S id → ∃ t, β id = some t ∧ β' id = some t := fun id h0 hS => by
          obtain ⟨t, _, q, _⟩ := (hH.obj id hS).blk h0
          exact ⟨t, q, g3.ext _ _ q⟩
        have wS : ∀ id, id ∈ e.wl → E.S id := fun id h => inS id (.inr (.inl h))
        -- what an old object's block is apart from
        have apart : ∀ id t, id < e.nx → id ∉ e.wl → E.S id → gO hp id ≠ .none → β id = some t → ∀ id0 t0, Tch e.s1 id0 → β id0 = some t0 → t0.blk ≠ t.blk := fun id t hi hw hS h0 hb id0 t0 ht hb0 eq => by
          rcases ht with ht | ht
          · have a1 : e.nx ≤ id0 := ht.1
            have a2 : id0 < e.nx' := ht.2
            have := hH.free id0 a1 (by omega)
            rw [hb0] at this
            cases this
          · have ht : id0 ∈ e.wl := ht
            have := hH.inj id0 id t0 t (wS _ ht) hS (live _ ht) h0 hb0 hb eq
            subst this
            exact hw ht
        have new : ∀ id, ¬ (id < e.nx ∧ id ∉ e.wl) → (gO (setAll (clear hp e.wl) e.hp') id = .none ∨ gO (setAll (clear hp e.wl) e.hp') id = gO (mkH e.hp') id) ∧ E1.S id := fun id hn => by
          have hS : id ∈ e.wl ∨ e.nx ≤ id := by
            by_cases hw : id ∈ e.wl
            · exact .inl hw
            · exact .inr (Nat.not_lt.1 fun h => hn ⟨h, hw⟩)
          refine ⟨?_, .inr hS⟩
          rcases setAll_at (clear hp e.wl) e.hp' id with ⟨q, _⟩ | ⟨q, _⟩
          · rw [q]
            rcases clear_at hp e.wl id with ⟨q1, q2⟩ | ⟨_, q2⟩
            · rcases hS with hS | hS
              · exact absurd hS q1
              · exact .inl (by rw [q2]; exact hH.top id hS)
            · exact .inl q2
          · exact .inr q
        have hHR : HR E β' (setAll (clear hp e.wl) e.hp') e.nx' w' := by
          refine ⟨g2.dom, fun id q1 q2 => g2.free id q1 q2, fun id hS => ?_, fun i j t u hSi hSj hi hj ht hu eq => ?_, g2.base, fun id q1 => ?_⟩
          · by_cases hn : id < e.nx ∧ id ∉ e.wl
            · rw [old id hn.1 hn.2]
              refine ((hH.obj id hS).same (w' := w') fun t ht h0 => ?_).mono g3.ext
              exact g3.keep t.blk (hH.dom id t ht) fun id0 t0 q1 q2 _ => apart id t hn.1 hn.2 hS h0 ht id0 t0 q1 q2
            · obtain ⟨q1, q2⟩ := new id hn
              rcases q1 with q1 | q1
              · rw [q1]; trivial
              · rw [q1]; exact g2.obj id q2
          · by_cases ni : i < e.nx ∧ i ∉ e.wl
            · rw [old i ni.1 ni.2] at hi
              obtain ⟨ti, b1, b2⟩ := bound i hi hSi
              rw [ht] at b2; cases b2
              by_cases nj : j < e.nx ∧ j ∉ e.wl
              · rw [old j nj.1 nj.2] at hj
                obtain ⟨tj, b3, b4⟩ := bound j hj hSj
                rw [hu] at b4; cases b4
                exact hH.inj i j t u hSi hSj hi hj b1 b3 eq
              · exfalso
                by_cases hw : j ∈ e.wl
                · obtain ⟨tj, b3, b4⟩ := bound j (live j hw) hSj
                  rw [hu] at b4; cases b4
                  exact apart i t ni.1 ni.2 hSi hi b1 j u (.inr hw) b3 eq.symm
                · have hge : e.nx ≤ j := Nat.not_lt.1 fun h => nj ⟨h, hw⟩
                  have hlt : j < e.nx' := Nat.not_le.1 fun h => hj (top j h (hH.top j hge))
                  have b0 := hH.free j hge (by omega)
                  obtain ⟨_, _, q⟩ := g3.fresh j u hu b0
                  rcases q with q | ⟨id0, t0, q1, q2, q3, q4⟩
                  · have := hH.dom i t b1; omega
                  · exact apart i t ni.1 ni.2 hSi hi b1 id0 t0 q1 q2 (q4.trans eq.symm)
            · by_cases nj : j < e.nx ∧ j ∉ e.wl
              · rw [old j nj.1 nj.2] at hj
                obtain ⟨tj, b1, b2⟩ := bound j hj hSj
                rw [hu] at b2; cases b2
                exfalso
                by_cases hw : i ∈ e.wl
                · obtain ⟨ti, b3, b4⟩ := bound i (live i hw) hSi
                  rw [ht] at b4; cases b4
                  exact apart j u nj.1 nj.2 hSj hj b1 i t (.inr hw) b3 eq
                · have hge : e.nx ≤ i := Nat.not_lt.1 fun h => ni ⟨h, hw⟩
                  have hlt : i < e.nx' := Nat.not_le.1 fun h => hi (top i h (hH.top i hge))
                  have b0 := hH.free i hge (by omega)
                  obtain ⟨_, _, q⟩ := g3.fresh i t ht b0
                  rcases q with q | ⟨id0, t0, q1, q2, q3, q4⟩
                  · have := hH.dom j u b1; omega
                  · exact apart j u nj.1 nj.2 hSj hj b1 id0 t0 q1 q2 (q4.trans eq)
              · obtain ⟨a1, a2⟩ := new i ni
                obtain ⟨a3, a4⟩ := new j nj
                refine g2.inj i j t u a2 a4 (fun e0 => ?_) (fun e0 => ?_) ht hu eq
                · rcases a1 with a1 | a1
                  · exact hi a1
                  · exact hi (a1.trans e0)
                · rcases a3 with a3 | a3
                  · exact hj a3
                  · exact hj (a3.trans e0)
          · exact top id q1 (hH.top id (Nat.le_trans hE.nx q1))
        refine ⟨v, β', g1, hHR, ⟨g3.ext, fun id t b b0 => ?_, fun b hb hk => g3.keep b hb fun id t ht => hk id t (tch id ht), g3.size, g3.os, g3.tape, g3.output⟩, g4⟩
        obtain ⟨q1, q2, q3⟩ := g3.fresh id t b b0
        refine ⟨q1, q2, q3.imp (fun h => h) ?_⟩
        rintro ⟨i0, t0, r1, r2⟩
        exact ⟨i0, t0, tch i0 r1, r2⟩
  · exact hK _ _ _ _ h

theorem callM_ok (hP : ProgOK C) (hT : ∀ e ∈ T, EntOK C e) : ∀ d, CallOK C (callM C T d) := by
  intro d
  induction d with
  | zero => intro f args s r h; cases h
  | succ d ih => exact level_ok hP (tcall_ok hT ih)

/-- The run of an entry. -/
def isO : CO → Bool
  | .none => false
  | _ => true
def entB (e : Ent) (r : Option (Bool × CV × St)) : Bool := match r with
  | some (b, v, s) => (bif b then e.b else !e.b) && eqV v e.v && Nat.beq s.nx e.nx' && likeH s.hp e.hp' && s.rl.all (Dp.memN e.rl) && s.wl.all (Dp.memN e.wl) && e.hp'.all (fun p => Dp.memN e.wl p.1 || Nat.ble e.nx p.1) && e.wl.all (fun id => Nat.blt id e.nx && isO (gO (mkH e.hp) id))
  | none => false
theorem ent_ok (hP : ProgOK C) (hT : ∀ e ∈ T, EntOK C e) {e : Ent} {d : Nat} (h : entB e (callM C T d e.f e.args e.s0) = true) : EntOK C e := by
  unfold entB at h
  split at h
  · rename_i b v s hr
    obtain ⟨h, h8⟩ := Dp.and2 h
    obtain ⟨h, h7⟩ := Dp.and2 h
    obtain ⟨h, h6⟩ := Dp.and2 h
    obtain ⟨h, h5⟩ := Dp.and2 h
    obtain ⟨h, h4⟩ := Dp.and2 h
    obtain ⟨h, h3⟩ := Dp.and2 h
    obtain ⟨h1, h2⟩ := Dp.and2 h
    have hb : b = e.b := by revert h1; cases b <;> cases e.b <;> simp
    have hv := eqV_ok h2
    have h3 := Dp.beqN h3
    obtain ⟨p1, p2, p3, p4⟩ := callM_ok hP hT d _ _ _ _ hr
    have hlim : s.lim = e.nx := p1.lim
    have hrl : ∀ id ∈ s.rl, id ∈ e.rl := fun id hi => memN_in (List.all_eq_true.1 h5 id hi)
    have hwl : ∀ id ∈ s.wl, id ∈ e.wl := fun id hi => memN_in (List.all_eq_true.1 h6 id hi)
    have hnx : e.nx ≤ s.nx := p1.nx
    have tch : ∀ id, Tch s id → Tch e.s1 id := fun id ht => ht.imp (fun q => ⟨(by show e.nx ≤ id; rw [← hlim]; exact q.1), (by show id < e.nx'; rw [← h3]; exact q.2)⟩) (hwl id)
    refine ⟨p3, by rw [← h3]; exact hnx, fun p hp => ?_, fun id q1 q2 => (likeH_ok h4 id).1 (p1.dead id (.inr (by rw [h3]; exact q1)) q2), fun id hi => ?_, fun E β w vals hS hSr hSw hi hH hg ha => ?_⟩
    · have := List.all_eq_true.1 h7 p hp
      rcases Bool.or_eq_true _ _ ▸ this with q | q
      · exact .inl (memN_in q)
      · exact .inr (Nat.le_of_ble_eq_true q)
    · obtain ⟨q1, q2⟩ := Dp.and2 (List.all_eq_true.1 h8 id hi)
      exact ⟨Dp.bltN q1, fun e0 => by rw [e0] at q2; cases q2⟩
    refine (p4 E β w vals ⟨fun id q => hS id (by rw [← hlim]; exact q), fun id q => hSr id (hrl id q), fun id q => hSw id (hwl id q), by show s.nx ≤ E.hi; rw [h3]; exact hi⟩ hH hg ha).mono ?_
    rintro x w' ⟨v', β', g1, g2, g3, g4⟩
    refine ⟨v', β', by rw [← hv]; exact g1, ?_, ⟨g3.ext, fun id t b b0 => ?_, fun b hb hk => g3.keep b hb fun id t ht => hk id t (tch id ht), g3.size, g3.os, g3.tape, g3.output⟩, by rw [← hb]; exact g4⟩
    · have := g2.less h4
      have e3 : s.nx = e.nx' := h3
      rw [← e3]; exact this
    · obtain ⟨q1, q2, q3⟩ := g3.fresh id t b b0
      refine ⟨q1, (by show id < e.nx'; rw [← h3]; exact q2), q3.imp (fun h => h) ?_⟩
      rintro ⟨i0, t0, r1, r2⟩
      exact ⟨i0, t0, tch i0 r1, r2⟩
  · cases h
end
end
end Go.Cm
/- A closed function that the machine runs: a contract. -/
set_option autoImplicit false
set_option linter.unusedVariables false
set_option linter.unusedSimpArgs false
set_option linter.unusedSectionVars false
namespace Go.Cm
open Go Go.RowKit

def cvA {α : Type} (f : α → Option (List CV)) : List α → Option (List CV)
  | [] => some []
  | x :: l => match f x, cvA f l with
    | some a, some b => some (a ++ b)
    | _, _ => none
/-- The cells of a typed value. -/
def cvT : (t : Dp.Ty) → t.den → Option (List CV)
  | .int k, n => some [.i k n]
  | .bool, b => some [.b b]
  | .str, s => some [.s s]
  | .snil, _ => some []
  | .scons a r, x => match cvT a x.1, cvT r x.2 with
    | some l, some m => some (l ++ m)
    | _, _ => none
  | .arr _ e, xs => cvA (cvT e) xs
  | _, _ => none
def cvV : Dp.TV → Option (List CV)
  | ⟨.ref t, x⟩ => cvT t x
  | _ => none
def cvG (gl : List (Nat × Dp.TV)) (g : Nat) : Option (List CV) := cvV (Dp.lookTV gl g)
def rowO (l : List CV) : CO := .cells 0 (Tr.mk l) l.length none l.length
/-- A variable of which it is only known that it holds a number. -/
def isNum : Dp.TV → Bool
  | ⟨.ref (.sint .i64), _⟩ => true
  | _ => false
def objG (gl : List (Nat × Dp.TV)) (g : Nat) : Option CO := bif isNum (Dp.lookTV gl g) then some .num else (match cvG gl g with
  | some l => some (rowO l)
  | none => none)
noncomputable def h0 (gl : List (Nat × Dp.TV)) : List Nat → Tr CO
  | [] => .lf
  | g :: l => match objG gl g with
    | some o => (h0 gl l).set g o
    | none => h0 gl l
noncomputable def st0 (gl : List (Nat × Dp.TV)) (ids : List Nat) (nx : Nat) : St := ⟨.lf, h0 gl ids, nx, 0, [], [], []⟩
def glC : List Nat → List (Nat × CV)
  | [] => []
  | g :: l => (g, .p g 0) :: glC l
def idsOK (gl : List (Nat × Dp.TV)) (ids : List Nat) (nx : Nat) : Bool := ids.all fun g => (objG gl g).isSome && Nat.blt g nx
def okT : Option (Bool × CV × St) → Bool
  | some (false, .b true, _) => true
  | _ => false

theorem ofL_app {β : Mp} : ∀ {a b : List CV} {l m : List Value}, L β (ofL a) l → L β (ofL b) m → L β (ofL (a ++ b)) (l ++ m) := by
  intro a
  induction a with
  | nil => intro b l m h1 h2; simp only [ofL, R] at h1; subst h1; simpa using h2
  | cons x a ih =>
    intro b l m h1 h2
    simp only [ofL, R] at h1
    obtain ⟨v, l2, rfl, g1, g2⟩ := h1
    simp only [List.cons_append, ofL, R]
    exact ⟨v, l2 ++ m, rfl, g1, ih g2 h2⟩

theorem cvT_ok {β : Mp} {w : World} {U : Nat → Prop} : ∀ (t : Dp.Ty) (x : t.den) (l : List Value) (c : List CV), cvT t x = some c → Dp.EncM w U Dp.noB [] false t x l → L β (ofL c) l := by
  intro t
  induction t with
  | int k => intro x l c h he; simp only [cvT, Option.some.injEq] at h; subst h; simp only [Dp.EncM] at he; subst he; simp [ofL, R]
  | bool => intro x l c h he; simp only [cvT, Option.some.injEq] at h; subst h; simp only [Dp.EncM] at he; subst he; simp [ofL, R]
  | str => intro x l c h he; simp only [cvT, Option.some.injEq] at h; subst h; simp only [Dp.EncM] at he; subst he; simp [ofL, R]
  | snil => intro x l c h he; simp only [cvT, Option.some.injEq] at h; subst h; simp only [Dp.EncM] at he; subst he; simp [ofL, R]
  | scons a r iha ihr =>
    intro x l c h he
    simp only [cvT] at h
    split at h
    · rename_i l1 l2 h1 h2
      cases h
      simp only [Dp.EncM] at he
      obtain ⟨m1, m2, rfl, e1, e2⟩ := he
      exact ofL_app (iha _ _ _ h1 e1) (ihr _ _ _ h2 e2)
    · cases h
  | arr n e ih =>
    intro x l c h he
    simp only [cvT] at h
    simp only [Dp.EncM] at he
    obtain ⟨_, h1, h2, h3⟩ := he
    have key : ∀ (xs : List e.den) (l : List Value) (c : List CV), cvA (cvT e) xs = some c → l.length = xs.length * e.csize → (∀ i (h : i < xs.length), Dp.EncM w U Dp.noB [] false e xs[i] ((l.drop (i * e.csize)).take e.csize)) → L β (ofL c) l := by
      intro xs
      induction xs with
      | nil =>
        intro l c h hl _
        simp only [cvA, Option.some.injEq] at h
        subst h
        have : l = [] := List.eq_nil_of_length_eq_zero (by simpa using hl)
        subst this
        simp [ofL, R]
      | cons x xs ihx =>
        intro l c h hl hi
        simp only [cvA] at h
        split at h
        · rename_i a b ha hb
          cases h
          have e1 := ih x (l.take e.csize) _ ha (by have := hi 0 (by simp); rw [Nat.zero_mul, List.drop_zero] at this; exact this)
          have hl2 : (l.drop e.csize).length = xs.length * e.csize := by
            rw [List.length_drop, hl, List.length_cons, Nat.succ_mul]; omega
          have e2 := ihx (l.drop e.csize) b hb hl2 fun i hx => by
            have := hi (i + 1) (by simpa using hx)
            rw [List.drop_drop]
            rw [show e.csize + i * e.csize = (i + 1) * e.csize by rw [Nat.succ_mul]; omega]
            exact this
          have := ofL_app e1 e2
          rwa [List.take_append_drop] at this
        · cases h
    exact key x l c h (by rw [h1, h2]) h3
  | _ => intro x l c h; simp [cvT] at h

theorem ofL_at : ∀ (c : List CV) (j : Nat), (ofL c).at j = c[j]? := by
  intro c
  induction c with
  | nil => intro j; cases j <;> rfl
  | cons a c ih => intro j; cases j with
    | zero => rfl
    | succ j => simp only [ofL, CV.at, List.getElem?_cons_succ, ih]
theorem ofL_len : ∀ (c : List CV), (ofL c).len = c.length := by
  intro c
  induction c with
  | nil => rfl
  | cons a c ih => simp only [ofL, CV.len, ih, List.length_cons]

theorem h0_at {gl : List (Nat × Dp.TV)} : ∀ (ids : List Nat) (id : Nat), gO (h0 gl ids) id = .none ∨ (id ∈ ids ∧ ∃ o, objG gl id = some o ∧ gO (h0 gl ids) id = o) := by
  intro ids
  induction ids with
  | nil => intro id; exact .inl rfl
  | cons g l ih =>
    intro id
    have old : gO (h0 gl l) id = .none ∨ (id ∈ g :: l ∧ ∃ o, objG gl id = some o ∧ gO (h0 gl l) id = o) := (ih id).imp_right fun h => ⟨List.mem_cons_of_mem _ h.1, h.2⟩
    simp only [h0]
    split
    · rename_i o ho
      rw [gO_set]
      by_cases e : id = g
      · subst e
        rw [if_pos rfl]
        exact .inr ⟨List.mem_cons_self, o, ho, rfl⟩
      · rw [if_neg e]; exact old
    · exact old

theorem glC_at : ∀ (ids : List Nat) (g : Nat), gl1 (glC ids) g = .u ∨ (g ∈ ids ∧ gl1 (glC ids) g = .p g 0) := by
  intro ids
  induction ids with
  | nil => intro g; exact .inl rfl
  | cons i l ih =>
    intro g
    unfold gl1
    simp only [glC, Dp.look]
    cases h : Nat.beq i g with
    | true =>
      have := Dp.beqN h
      subst this
      exact .inr ⟨List.mem_cons_self, rfl⟩
    | false =>
      simp only [cond_false]
      exact (ih g).imp_right fun h => ⟨List.mem_cons_of_mem _ h.1, h.2⟩

def spec0 : Dp.Spec := { args := .snil, res := .bool, own := false, F := fun _ _ => some true }

/-- A global's block. -/
theorem glob_blk {gl : List (Nat × Dp.TV)} {w : World} {U : Nat → Prop} {g : Nat} {cs : List CV} (hg : Dp.GlobOK gl w U) (h : cvG gl g = some cs) : ∃ arr el fr l, w.heap[g]? = some (.cells arr el fr) ∧ arr.size = l.length ∧ (∀ β : Mp, L β (ofL cs) l) ∧ ∀ j (hj : j < arr.size) (hl : j < l.length), arr[j] = l[j] := by
  have h1 := hg g _ rfl
  unfold cvG at h
  generalize Dp.lookTV gl g = x at h h1
  obtain ⟨t, v⟩ := x
  cases t <;> simp only [cvV] at h <;> try (cases h; done)
  rename_i T
  rcases h1 with h1 | ⟨_, _, h1, h2⟩
  · cases h1
  · simp only [Dp.EncM] at h1
    obtain ⟨b, off, l, e, hb, he, hc⟩ := h1
    simp only [Value.pointer.injEq, Option.some.injEq, Addr.mk.injEq, List.cons.injEq, and_true] at e
    obtain ⟨rfl, rfl⟩ := e
    simp only [Dp.Whole] at h2
    obtain ⟨arr, el, fr, h3, h4⟩ := h2
    refine ⟨arr, el, fr, l, h3, by rw [h4, ← he.len], fun β => cvT_ok _ _ _ _ h he, fun j hj hl => ?_⟩
    have := hc j hl
    rw [Nat.zero_add, cell_at h3, Array.getElem?_eq_getElem hj, Option.some.injEq] at this
    exact this

theorem isNum_ok {x : Dp.TV} (h : isNum x = true) : x = ⟨.ref (.sint .i64), ()⟩ := by
  unfold isNum at h
  split at h
  · rfl
  · cases h
theorem objG_some {gl : List (Nat × Dp.TV)} {g : Nat} {o : CO} (h : objG gl g = some o) : (o = .num ∧ Dp.lookTV gl g = ⟨.ref (.sint .i64), ()⟩) ∨ ∃ cs, cvG gl g = some cs ∧ o = rowO cs := by
  unfold objG at h
  cases hb : isNum (Dp.lookTV gl g) with
  | true => rw [hb] at h; cases h; exact .inl ⟨rfl, isNum_ok hb⟩
  | false =>
    rw [hb] at h
    have h : (match cvG gl g with | some l => some (rowO l) | none => none) = some o := h
    split at h
    · rename_i l hl; cases h; exact .inr ⟨l, hl, rfl⟩
    · cases h
theorem num_blk {gl : List (Nat × Dp.TV)} {w : World} {U : Nat → Prop} {g : Nat} (hg : Dp.GlobOK gl w U) (h : Dp.lookTV gl g = ⟨.ref (.sint .i64), ()⟩) : ∃ arr el fr m, w.heap[g]? = some (.cells arr el fr) ∧ arr[0]? = some (.int .i64 m) := by
  rcases hg g _ h with h1 | ⟨_, _, h1, h2⟩
  · cases h1
  · simp only [Dp.EncM] at h1
    obtain ⟨b, off, l, e, hb, ⟨n, rfl⟩, hj⟩ := h1
    cases e
    simp only [Dp.Whole] at h2
    obtain ⟨arr, el, fr, h3, h4⟩ := h2
    refine ⟨arr, el, fr, n, h3, ?_⟩
    have := hj 0 (by simp)
    rw [cell_at h3] at this
    simpa using this

theorem closed_call {P : Program} {gl : List (Nat × Dp.TV)} {C : Ctx} {call : CallT} {f nx : Nat} {ids : List Nat} (hK : CallOK C call) (hp : C.P = P) (hcg : C.gl = glC ids) (hi : idsOK gl ids nx = true) (hrun : okT (call f .nil (st0 gl ids nx)) = true) : Dp.Contract P gl f spec0 := by
  subst hp
  obtain ⟨s', hr⟩ : ∃ s', call f .nil (st0 gl ids nx) = some (false, .b true, s') := by
    unfold okT at hrun
    split at hrun
    · rename_i s' h; exact ⟨s', h⟩
    · cases hrun
  obtain ⟨p1, p2, p3, p4⟩ := hK f .nil _ _ hr
  have hid : ∀ g ∈ ids, (∃ o, objG gl g = some o) ∧ g < nx := fun g hg => by
    have := List.all_eq_true.1 hi g hg
    obtain ⟨a, b⟩ := Dp.and2 this
    exact ⟨Option.isSome_iff_exists.1 a, Dp.bltN b⟩
  refine ⟨rfl, rfl, fun K x r hx w U vals hU hg he => .inl ⟨p3, ?_⟩⟩
  have hx : some true = some r := hx
  cases hx
  have hv : vals.toList = [] := by simpa only [spec0, Dp.EncM] using he
  let β : Mp := fun id => if id ∈ ids then some ⟨id, 0⟩ else none
  have hβ : ∀ id t, β id = some t → id ∈ ids ∧ t = ⟨id, 0⟩ := fun id t h => by
    by_cases e : id ∈ ids
    · simp only [β, e, if_true, Option.some.injEq] at h; exact ⟨e, h.symm⟩
    · simp only [β, e, if_false] at h; cases h
  have hβ' : ∀ id, id ∈ ids → β id = some ⟨id, 0⟩ := fun id e => by simp only [β, e, if_true]
  have hlt : ∀ id, id ∈ ids → id < w.heap.size := fun id e => by
    obtain ⟨⟨o, ho⟩, _⟩ := hid id e
    rcases objG_some ho with ⟨_, hn⟩ | ⟨cs, hcs, _⟩
    · obtain ⟨arr, el, fr, m, h1, _⟩ := num_blk hg hn
      exact (Array.getElem?_eq_some_iff.1 h1).1
    · obtain ⟨arr, el, fr, l, h1, _⟩ := glob_blk hg hcs
      exact (Array.getElem?_eq_some_iff.1 h1).1
  let E : En := ⟨fun _ => True, s'.nx, w.heap.size⟩
  have hc : Cov E s' := ⟨fun _ _ => trivial, fun _ _ => trivial, fun _ _ => trivial, Nat.le_refl _⟩
  have hH : HR E β (st0 gl ids nx).hp (st0 gl ids nx).nx w := by
    refine ⟨fun id t h => ?_, fun id h1 h2 => ?_, fun id _ => ?_, fun i j t u _ _ _ _ ht hu e => ?_, Nat.le_refl _, fun id h => ?_⟩
    · obtain ⟨h1, rfl⟩ := hβ id t h; exact hlt id h1
    · have : id ∉ ids := fun e => by have := (hid id e).2; have h1 : nx ≤ id := h1; omega
      simp only [β, this, if_false]
    · show ObjR w.heap.size β w id (gO (h0 gl ids) id)
      rcases h0_at (gl := gl) ids id with h | ⟨h1, o, ho, h3⟩
      · rw [h]; trivial
      · rw [h3]
        rcases objG_some ho with ⟨rfl, hn⟩ | ⟨cs, h2, rfl⟩
        · obtain ⟨arr, el, fr, m, q1, q2⟩ := num_blk hg hn
          exact ⟨⟨id, 0⟩, arr, el, fr, m, hβ' id h1, q1, q2⟩
        obtain ⟨arr, el, fr, l, q1, q2, q3, q4⟩ := glob_blk hg h2
        have hlen := (q3 β).len
        rw [ofL_len] at hlen
        refine ⟨⟨id, 0⟩, arr, fr, hβ' id h1, el_put0 q1, by omega, .inr (.inl ⟨Nat.le_refl _, rfl⟩), fun j hj hn => ?_, fun sz hs => by cases hs⟩
        have hjl : j < l.length := by omega
        obtain ⟨x, g1, g2⟩ := L.get hjl (q3 β)
        rw [gR_eq, Tr.get_mk, ← ofL_at, g1, q4 j hj hjl]
        exact g2
    · obtain ⟨_, rfl⟩ := hβ i t ht
      obtain ⟨_, rfl⟩ := hβ j u hu
      exact e
    · rcases h0_at (gl := gl) ids id with h' | ⟨h1, _⟩
      · exact h'
      · have := (hid id h1).2
        have h : nx ≤ id := h
        omega
  have hgv : ∀ g, V β (gl1 C.gl g) (.pointer (some ⟨g, 0, none⟩)) := fun g => by
    rw [hcg]
    rcases glC_at ids g with h | ⟨h1, h⟩
    · rw [h]; simp [R]
    · rw [h]; simp only [R]; exact ⟨_, hβ' g h1, rfl⟩
  refine (p4 E β w vals hc hH hgv (by rw [hv]; simp [R])).mono ?_
  rintro e w' ⟨v, β', h1, _, hA, rfl⟩
  refine ⟨v, U, rfl, ⟨hA.os, hA.tape, hA.output, hA.size, fun b hb => hA.keep b hb fun id t _ ht hB => ?_⟩, fun b => ⟨.inl, fun h => h.elim (fun h => h) fun h => h.2.2⟩, ?_⟩
  · have hB : w.heap.size ≤ t.blk := hB
    omega
  · rw [V.bool h1]
    exact Dp.EncV.mk_bool true

theorem closed_contract {P : Program} {gl : List (Nat × Dp.TV)} {C : Ctx} {f d nx : Nat} {ids : List Nat} (hP : ProgOK C) (hp : C.P = P) (hcg : C.gl = glC ids) (hi : idsOK gl ids nx = true) (hrun : okT (callF C d f .nil (st0 gl ids nx)) = true) : Dp.Contract P gl f spec0 := closed_call (callF_ok hP d) hp hcg hi hrun
theorem closed_table {P : Program} {gl : List (Nat × Dp.TV)} {C : Ctx} {T : List Ent} {f d nx : Nat} {ids : List Nat} (hP : ProgOK C) (hT : ∀ e ∈ T, EntOK C e) (hp : C.P = P) (hcg : C.gl = glC ids) (hi : idsOK gl ids nx = true) (hrun : okT (callM C T d f .nil (st0 gl ids nx)) = true) : Dp.Contract P gl f spec0 := closed_call (callM_ok hP hT d) hp hcg hi hrun
end Go.Cm
/- Functions that are not walked. -/
set_option autoImplicit false
set_option linter.unusedVariables false
set_option linter.unusedSimpArgs false
set_option linter.unusedSectionVars false
namespace Go.Cm
open Go Go.RowKit

/-- The argument itself. -/
def sameF : CV → Option CV
  | .cons x .nil => some x
  | _ => none

theorem same_is {C : Ctx} {f : Nat} {fn : Func} (hf : C.P.funcs[f]? = some fn) (hn : (fn.name == "runtime.NumGoroutine") = false) (hb : fn.body = none) (h1 : (Extern.findNext fn).isNone = true)
    (h2 : Extern.find fn = some Extern.AbiNoEscape.same) : SpIs C f (.pure sameF) := by
  intro args v hF β w vals hv _
  unfold sameF at hF
  split at hF
  · rename_i x
    cases hF
    simp only [R] at hv
    obtain ⟨u, l2, e, g1, g2⟩ := hv
    have e3 : vals = #[u] := by apply Array.ext'; rw [e, g2]
    subst e3
    refine .inl ⟨u, w, ?_, g1, Below.refl _ _⟩
    rw [Dp.callFunc_extern hf hn hb h1 h2, Lib.run_noEscape]
    rfl
  · cases hF

theorem mkz_is {C : Ctx} {f t e : Nat} {ps : Array TypeId} {fn : Func} (hf : C.P.funcs[f]? = some fn) (hn : (fn.name == "runtime.NumGoroutine") = false) (hb : fn.body = none) (h1 : (Extern.findNext fn).isNone = true)
    (h2 : Extern.find fn = some (Extern.BytealgMakeNoZero.makeNoZero ps #[t])) (ht : C.P.underlying t = some (.slice e)) : SpIs C f (.mkz e) := by
  intro w n hle
  obtain ⟨cs, g1, g2, _⟩ := Lib.run_makeNoZero (P := C.P) w ps t e ht n (by unfold Dp.maxRoom at hle; omega)
  refine .inl ⟨.slice (some ⟨w.heap.size, 0, none⟩) n cs.size, w.drew.drew.alloc (.cells cs e), ?_, cs.size, cs, g2, rfl, rfl, rfl, rfl, rfl, rfl⟩
  rw [Dp.callFunc_extern hf hn hb h1 h2, g1]
  rfl

theorem after_of {P : Program} {f : Nat} {vals : Array Value} {w : World} {R : Value → World → Prop} (h : Dp.CallsV P f vals w fun e w' => ∃ u, e = .returned u ∧ R u w') : After P f vals w R := by
  rcases h with ⟨h1, h2⟩ | ⟨v, w', h1, u, h2, h3⟩
  · exact .inr ⟨h1 vals w, h2⟩
  · cases h2
    exact .inl ⟨v, w', h1, h3⟩
theorem callsV_mono {P : Program} {f : Nat} {vals : Array Value} {w : World} {R R' : Ending → World → Prop} (h : Dp.CallsV P f vals w R) (hR : ∀ e w', R e w' → R' e w') : Dp.CallsV P f vals w R' := by
  rcases h with ⟨h1, h2⟩ | ⟨v, w', h1, h2⟩
  · exact .inl ⟨h1, h2.mono hR⟩
  · exact .inr ⟨v, w', h1, hR _ _ h2⟩

theorem row_is {C : Ctx} {f : Nat} {G : Nat → List Int → Option Bool} {F : List UInt8 → Option CV} (hc : Dp.Contract C.P [] f { args := .scons (.list (.int .u8)) .snil, res := .bool, own := false, F := fun K x => G K x.1 })
    (hG : ∀ bs v, F bs = some v → ∃ K b, G K (bs.map fun x => (x.toNat : Int)) = some b ∧ v = .b b) : SpIs C f (.row F) := by
  intro bs v hF w b off cap hb hcells hle
  obtain ⟨K, r, g1, rfl⟩ := hG bs v hF
  refine after_of (callsV_mono (hc.calls K (bs.map fun x => (x.toNat : Int), ()) r g1 w (fun c => c = b) _ (fun c h => by subst h; exact hb) (fun g x e => .inl (by subst e; rfl)) ?_) ?_)
  · simp only [Dp.EncM]
    refine ⟨_, [], rfl, .inr ⟨rfl, ?_⟩, rfl⟩
    simp only [Dp.EncM, Value.cells, List.length_map]
    refine ⟨_, _, rfl, hle, fun _ => ⟨b, off, rfl, rfl, fun i hi => ⟨[.int .u8 ((bs[i]'(by simpa using hi)).toNat : Int)], by simp, fun j hj => ?_⟩⟩⟩
    simp only [List.length_singleton] at hj
    obtain rfl : j = 0 := by omega
    have hi' : i < bs.length := by simpa using hi
    have := hcells i bs[i] (by simp [hi'])
    simpa [Dp.Ty.csize] using this
  · rintro e w' ⟨u, U', rfl, h1, _, h2⟩
    refine ⟨u, rfl, fun β => ?_, h1⟩
    rw [h2.bool]
    simp [R]

/-- Bytes that are all 255. -/
def repC1 : Nat → CV
  | 0 => .nil
  | n + 1 => .cons (.i .u8 255) (repC1 n)
def blankF : CV → Option CV
  | .cons (.i .i64 n) .nil => bif decide (0 < n) && decide (n ≤ 65536) then some (repC1 n.toNat) else none
  | _ => none
theorem repC1_len : ∀ n, (repC1 n).len = n := by
  intro n
  induction n with
  | zero => rfl
  | succ n ih => simp only [repC1, CV.len, ih]
theorem repC1_at : ∀ (n j : Nat) (x : CV), (repC1 n).at j = some x → x = .i .u8 255 ∧ j < n := by
  intro n
  induction n with
  | zero => intro j x h; cases j <;> cases h
  | succ n ih =>
    intro j x h
    cases j with
    | zero => simp only [repC1, CV.at, Option.some.injEq] at h; exact ⟨h.symm, by omega⟩
    | succ j => obtain ⟨h1, h2⟩ := ih j x h; exact ⟨h1, by omega⟩

theorem blank_is {C : Ctx} {f : Nat} {G : Nat → Int → Option (List Int)} (hc : Dp.OContract C.P [] f { args := .scons (.int .i64) .snil, e := .int .u8, F := fun K x => G K x.1 })
    (hG : ∀ n : Int, 0 < n → n ≤ 65536 → ∃ K, G K n = some (List.replicate n.toNat 255)) : SpIs C f (.mkr blankF) := by
  intro args c hF β w vals hv
  unfold blankF at hF
  split at hF
  · rename_i n
    obtain ⟨h, hF⟩ := Dp.bif_some hF
    obtain ⟨h1, h2⟩ := Dp.and2 h
    have h1 : (0 : Int) < n := Dp.decT h1
    have h2 : n ≤ 65536 := Dp.decT h2
    cases hF
    obtain ⟨K, hK⟩ := hG n h1 h2
    simp only [R] at hv
    obtain ⟨u, l2, e, g1, g2⟩ := hv
    have e3 : vals = #[.int .i64 n] := by
      apply Array.ext'; rw [e, g2]
      simpa using g1
    subst e3
    refine .inr ⟨hc.enter _ _, (hc.calls K (n, ()) _ hK w (fun _ => False) _ (fun _ h => h.elim) (fun g x e => .inl (by subst e; rfl)) (by simp [Dp.EncM, Dp.aggV, Dp.Ty.isAgg, Value.cells])).mono ?_⟩
    rintro e w' ⟨bl, rfl, q1, q2⟩
    rcases q2 with ⟨_, _, q2⟩ | ⟨b, arr, el, fr, q2, q3, q4, q5, q6, q7, q8⟩
    · exfalso
      have := congrArg List.length q2
      simp at this
      omega
    · rw [List.length_replicate] at q6
      simp only [Dp.Ty.csize, Nat.mul_one] at q5
      refine ⟨_, rfl, q1, b, arr, el, fr, bl.cap, by rw [q2, repC1_len, List.length_replicate]; rfl, by rw [repC1_len]; exact q6, q3, q4, by rw [repC1_len, q5]; exact q6, q7, fun j x hx hj β => ?_⟩
      obtain ⟨rfl, hjn⟩ := repC1_at _ _ _ hx
      obtain ⟨cs, r1, r2⟩ := q8 j (by rw [List.length_replicate]; exact hjn)
      simp only [Dp.EncM, List.getElem_replicate] at r1
      subst r1
      have := r2 0 (by simp)
      simp only [Dp.Ty.csize, Nat.mul_one, Nat.add_zero, List.getElem_cons_zero] at this
      rw [Array.getElem?_eq_getElem hj, Option.some.injEq] at this
      rw [this]
      simp [R]
  · cases hF

/-- Where a byte stands in a text. -/
def ibN (n : Nat) : Nat → List UInt8 → Option Nat
  | _, [] => none
  | i, x :: r => bif Nat.beq x.toNat n then some i else ibN n (Nat.succ i) r
def ibR : Option Nat → Option CV
  | some i => fN i fun i => some (.i .i64 (i : Int))
  | none => some (.i .i64 (-1))
def ibF : CV → Option CV
  | .cons (.s b) (.cons (.i .u8 n) .nil) => bif decide (0 ≤ n) && Nat.blt n.toNat 256 then ibR (ibN n.toNat 0 b) else none
  | _ => none
theorem ibN_ok (c : UInt8) : ∀ (l : List UInt8) (i : Nat), (ibN c.toNat i l = none ∧ Lib.indexByte l c = -1) ∨ ∃ k : Nat, ibN c.toNat i l = some (i + k) ∧ Lib.indexByte l c = (k : Int) := by
  intro l
  induction l with
  | nil => intro i; exact .inl ⟨rfl, rfl⟩
  | cons x r ih =>
    intro i
    simp only [ibN, Lib.indexByte]
    by_cases h : x = c
    · subst h
      exact .inr ⟨0, by simp, by simp⟩
    · have h1 : Nat.beq x.toNat c.toNat = false := by
        cases hb : Nat.beq x.toNat c.toNat with
        | true => exact absurd (UInt8.toNat_inj.1 (Nat.eq_of_beq_eq_true hb)) h
        | false => rfl
      have h2 : (x == c) = false := by simpa using h
      simp only [h1, h2, cond_false, Bool.false_eq_true, if_false]
      rcases ih (Nat.succ i) with ⟨g1, g2⟩ | ⟨k, g1, g2⟩
      · exact .inl ⟨g1, by rw [g2]; rfl⟩
      · refine .inr ⟨k + 1, by rw [g1]; congr 1; omega, ?_⟩
        rw [g2]
        have : ((k : Int) == -1) = false := by simp
        rw [this]
        simp
theorem ib_is {C : Ctx} {f : Nat} {fn : Func} (hf : C.P.funcs[f]? = some fn) (hn : (fn.name == "runtime.NumGoroutine") = false) (hb : fn.body = none) (h1 : (Extern.findNext fn).isNone = true)
    (h2 : Extern.find fn = some Extern.BytealgIndexByte.indexByte) : SpIs C f (.pure ibF) := by
  intro args v hF β w vals hv _
  unfold ibF at hF
  split at hF
  · rename_i b n
    obtain ⟨h, hF⟩ := Dp.bif_some hF
    obtain ⟨g1, g2⟩ := Dp.and2 h
    have g1 : (0 : Int) ≤ n := Dp.decT g1
    have g2 := Dp.bltN g2
    simp only [R] at hv
    obtain ⟨u, l2, e, q1, u2, l3, rfl, q2, rfl⟩ := hv
    obtain rfl := (List.cons.inj q1).1
    obtain rfl := (List.cons.inj q2).1
    have e3 : vals = #[.string ⟨b.toArray⟩, .int .u8 n] := by apply Array.ext'; rw [e]
    subst e3
    have hc : n.toNat.toUInt8.toNat = n.toNat := by
      simp only [Nat.toUInt8, UInt8.toNat_ofNat', Nat.reducePow]
      exact Nat.mod_eq_of_lt g2
    refine .inl ⟨.int .i64 (Lib.indexByte b n.toNat.toUInt8), w, ?_, ?_, Below.refl _ _⟩
    · rw [Dp.callFunc_extern hf hn hb h1 h2, Lib.run_indexByteString]
      rfl
    · have := ibN_ok n.toNat.toUInt8 b 0
      rw [hc] at this
      rcases this with ⟨p1, p2⟩ | ⟨k, p1, p2⟩
      · rw [p1] at hF
        simp only [ibR, Option.some.injEq] at hF
        subst hF
        rw [p2]; simp [R]
      · rw [p1] at hF
        simp only [ibR, fN_eq, Option.some.injEq, Nat.zero_add] at hF
        subst hF
        rw [p2]; simp [R]
  · cases hF

/-- How often a byte stands in a text. -/
def ctN (n : Nat) : List UInt8 → Nat
  | [] => 0
  | x :: r => bif Nat.beq x.toNat n then Nat.succ (ctN n r) else ctN n r
def ctF : CV → Option CV
  | .cons (.s b) (.cons (.i .u8 n) .nil) => bif decide (0 ≤ n) && Nat.blt n.toNat 256 then fN (ctN n.toNat b) fun k => some (.i .i64 (k : Int)) else none
  | _ => none
theorem ctN_ok (c : UInt8) : ∀ l : List UInt8, ctN c.toNat l = Lib.countByte l c := by
  intro l
  induction l with
  | nil => rfl
  | cons x l ih =>
    unfold Lib.countByte at ih ⊢
    simp only [ctN, List.count_cons, ih]
    by_cases e : x = c
    · subst e; simp
    · have : Nat.beq x.toNat c.toNat = false := by
        cases h : Nat.beq x.toNat c.toNat with
        | false => rfl
        | true => exact absurd (UInt8.toNat_inj.1 (Dp.beqN h)) e
      rw [this]; simp [e]
theorem ct_is {C : Ctx} {f : Nat} {fn : Func} (hf : C.P.funcs[f]? = some fn) (hn : (fn.name == "runtime.NumGoroutine") = false) (hb : fn.body = none) (h1 : (Extern.findNext fn).isNone = true)
    (h2 : Extern.find fn = some Extern.BytealgCount.count) : SpIs C f (.pure ctF) := by
  intro args v hF β w vals hv _
  unfold ctF at hF
  split at hF
  · rename_i b n
    obtain ⟨h, hF⟩ := Dp.bif_some hF
    obtain ⟨g1, g2⟩ := Dp.and2 h
    have g1 : (0 : Int) ≤ n := Dp.decT g1
    have g2 := Dp.bltN g2
    simp only [R] at hv
    obtain ⟨u, l2, e, q1, u2, l3, rfl, q2, rfl⟩ := hv
    obtain rfl := (List.cons.inj q1).1
    obtain rfl := (List.cons.inj q2).1
    have e3 : vals = #[.string ⟨b.toArray⟩, .int .u8 n] := by apply Array.ext'; rw [e]
    subst e3
    have hc : n.toNat.toUInt8.toNat = n.toNat := by
      simp only [Nat.toUInt8, UInt8.toNat_ofNat', Nat.reducePow]
      exact Nat.mod_eq_of_lt g2
    have hk := ctN_ok n.toNat.toUInt8 b
    rw [hc] at hk
    rw [fN_eq] at hF
    cases hF
    refine .inl ⟨.int .i64 (Lib.countByte b n.toNat.toUInt8 : Nat), w, ?_, ?_, Below.refl _ _⟩
    · rw [Dp.callFunc_extern hf hn hb h1 h2, Lib.run_countString]
      rfl
    · rw [hk]; simp [R]
  · cases hF

/-- Where a text first stands in another one. -/
def preF : List UInt8 → List UInt8 → Bool
  | [], _ => true
  | _ :: _, [] => false
  | a :: l, b :: r => Nat.beq a.toNat b.toNat && preF l r
def ixN (b : List UInt8) : Nat → List UInt8 → Option Nat
  | i, [] => bif preF b [] then some i else none
  | i, x :: r => bif preF b (x :: r) then some i else ixN b (i + 1) r
def ixF : CV → Option CV
  | .cons (.s a) (.cons (.s b) .nil) => bif Nat.blt a.length 4294967281 then ibR (ixN b 0 a) else none
  | _ => none
theorem preF_ok : ∀ a b : List UInt8, preF a b = a.isPrefixOf b := by
  intro a
  induction a with
  | nil => intro b; cases b <;> rfl
  | cons x a ih =>
    intro b
    cases b with
    | nil => rfl
    | cons y b =>
      simp only [preF, List.isPrefixOf, ih]
      congr 1
      by_cases e : x = y
      · subst e; simp
      · have : Nat.beq x.toNat y.toNat = false := by
          cases h : Nat.beq x.toNat y.toNat with
          | false => rfl
          | true => exact absurd (UInt8.toNat_inj.1 (Dp.beqN h)) e
        rw [this]; simp [e]
theorem ixN_ok (b : List UInt8) : ∀ (l : List UInt8) (i : Nat), (ixN b i l = none ∧ Lib.index l b = -1) ∨ ∃ k : Nat, ixN b i l = some (i + k) ∧ Lib.index l b = (k : Int) := by
  intro l
  induction l with
  | nil =>
    intro i
    simp only [ixN, preF_ok, Lib.index]
    cases b with
    | nil => exact .inr ⟨0, rfl, rfl⟩
    | cons x b => exact .inl ⟨rfl, rfl⟩
  | cons x l ih =>
    intro i
    simp only [ixN, preF_ok, Lib.index]
    cases h : b.isPrefixOf (x :: l) with
    | true => exact .inr ⟨0, rfl, by simp⟩
    | false =>
      simp only [cond_false, Bool.false_eq_true, if_false]
      rcases ih (i + 1) with ⟨h1, h2⟩ | ⟨k, h1, h2⟩
      · exact .inl ⟨h1, by rw [h2]; rfl⟩
      · refine .inr ⟨k + 1, by rw [h1]; congr 1; omega, ?_⟩
        rw [h2]
        have : ((k : Int) == -1) = false := by rw [beq_eq_false_iff_ne]; omega
        rw [this]
        simp
theorem ix_is {C : Ctx} {f g : Nat} (hent : Dp.EnterOK C.P f) (hc : ∀ (s sub : ByteArray) (m : Int) (w : World), s.size < 4294967281 → w.cell? ⟨g, 0, none⟩ = some (.int .i64 m) →
    Calls C.P f #[.string s, .string sub] w fun e w' => e = .returned (.int .i64 (Lib.index s.data.toList sub.data.toList)) ∧ w' = w) : SpIs C f (.gpure g ixF) := by
  intro args v hF β w vals m hv hm
  unfold ixF at hF
  split at hF
  · rename_i a b
    obtain ⟨h, hF⟩ := Dp.bif_some hF
    have h := Dp.bltN h
    simp only [R] at hv
    obtain ⟨u, l2, e, q1, u2, l3, rfl, q2, rfl⟩ := hv
    obtain rfl := (List.cons.inj q1).1
    obtain rfl := (List.cons.inj q2).1
    have e3 : vals = #[.string ⟨a.toArray⟩, .string ⟨b.toArray⟩] := by apply Array.ext'; rw [e]
    subst e3
    refine .inr ⟨hent _ w, (hc ⟨a.toArray⟩ ⟨b.toArray⟩ m w (by simpa [ByteArray.size] using h) hm).mono ?_⟩
    rintro e w' ⟨rfl, rfl⟩
    refine ⟨_, rfl, ?_, Below.refl _ _⟩
    rcases ixN_ok b a 0 with ⟨p1, p2⟩ | ⟨k, p1, p2⟩
    · rw [p1] at hF
      simp only [ibR, Option.some.injEq] at hF
      subst hF
      show V β _ (.int .i64 (Lib.index a b))
      rw [p2]; simp [R]
    · rw [p1] at hF
      simp only [ibR, fN_eq, Option.some.injEq, Nat.zero_add] at hF
      subst hF
      show V β _ (.int .i64 (Lib.index a b))
      rw [p2]; simp [R]
  · cases hF
end Go.Cm
/- The functions that a function leads to, reckoned with a tree. No condition. -/
set_option autoImplicit false
set_option linter.unusedVariables false
namespace Go.Dp
open Go

def leads (P : Program) (f : Nat) : List Nat := (P.funcs[f]?).elim [] P.leadsTo
noncomputable def cvT (G : Nat → List Nat) : Nat → List Nat → List Nat → Cm.Tr Nat → Option (List Nat)
  | _, [], seen, _ => some seen
  | 0, _ :: _, _, _ => none
  | n + 1, f :: todo, seen, t => match t.get f with
    | some _ => cvT G n todo seen t
    | none => cvT G n (G f ++ todo) (f :: seen) (t.set f 0)

theorem cvT_ok {P : Program} : ∀ (n : Nat) (todo seen : List Nat) (t : Cm.Tr Nat) (L : List Nat), cvT (leads P) n todo seen t = some L → (∀ g, seen.contains g = (t.get g).isSome) → ∀ m, n ≤ m → P.closureVia m todo seen = L.reverse := by
  intro n
  induction n with
  | zero =>
    intro todo seen t L h hs m hm
    cases todo with
    | nil =>
      simp only [cvT, Option.some.injEq] at h
      subst h
      cases m <;> simp [Program.closureVia]
    | cons f todo => simp [cvT] at h
  | succ n ih =>
    intro todo seen t L h hs m hm
    cases todo with
    | nil =>
      simp only [cvT, Option.some.injEq] at h
      subst h
      cases m <;> simp [Program.closureVia]
    | cons f todo =>
      cases m with
      | zero => omega
      | succ m =>
        simp only [cvT] at h
        simp only [Program.closureVia]
        cases hg : t.get f with
        | some x =>
          rw [hg] at h
          have : seen.contains f = true := by rw [hs f, hg]; rfl
          rw [if_pos this]
          exact ih _ _ _ _ h hs m (by omega)
        | none =>
          rw [hg] at h
          have : ¬ seen.contains f = true := by rw [hs f, hg]; simp
          rw [if_neg this]
          refine ih _ _ _ _ h (fun g => ?_) m (by omega)
          rw [Cm.Tr.get_set, List.contains_cons, hs g]
          by_cases e : g = f
          · subst e; simp
          · simp [e]

/-- The functions that a function leads to. -/
theorem closure_of {P : Program} {f n : Nat} {L : List Nat} (h : cvT (leads P) n [f] [] .lf = some L) (hn : Nat.ble n (1 + (P.funcs.toList.map fun g => (P.leadsTo g).length + 1).sum) = true) : P.closure f = L.reverse := by
  unfold Program.closure
  exact cvT_ok n _ _ _ _ h (fun g => rfl) _ (Nat.le_of_ble_eq_true hn)
end Go.Dp
