/-
  A part of the proof. No condition.
-/
import Derived.Test.YtkfffmpnmoiikaaGreatDoorOPr
/- Chapter 19 (conds): what the laws lean on. No condition but on sizes. -/
set_option linter.unusedSimpArgs false
set_option linter.unusedVariables false
namespace Go.Proofs.X
open Go Go.Dp
theorem wer (K : Nat) (r : Rep) (hK : 1000 ≤ K) : ∃ b, wC_ K r 500 = some b ∧ (b = true → few r.2.2.2.1 70) := by
  obtain ⟨q, h1, h2⟩ := wcV K r.2.2.2.1 70 500 (by decide) (by omega)
  have h1 : wq_ K r.2.2.2.1 70 500 = some q := h1
  by_cases c1 : (r.2.1.length : Int) ≤ 500
  · by_cases c2 : (r.2.2.2.2.1.length : Int) ≤ 500
    · refine ⟨q, ?_, h2⟩
      simp only [wC_, c1, c2, h1, za', zb', zc', zd', ze', zf', zg', zh', zi', zj', zk', zl', zm', zn', zo', zp', zq', zr', zs', zt']
    · refine ⟨false, ?_, fun h => by cases h⟩
      simp only [wC_, c1, c2, za', zb', zc', zd', ze', zf', zg', zh', zi', zj', zk', zl', zm', zn', zo', zp', zq', zr', zs', zt']
  · refine ⟨false, ?_, fun h => by cases h⟩
    simp only [wC_, c1, za', zb', zc', zd', ze', zf', zg', zh', zi', zj', zk', zl', zm', zn', zo', zp', zq', zr', zs', zt']
theorem wdJ (K : Nat) (r : Req) (hK : 1000 ≤ K) : ∃ b, wK_ K r 500 = some b ∧ (b = true → few r.2.2.2.1 70) := by
  obtain ⟨q, h1, h2⟩ := wcV K r.2.2.2.1 70 500 (by decide) (by omega)
  have h1 : wq_ K r.2.2.2.1 70 500 = some q := h1
  by_cases c0 : (r.1.length : Int) ≤ 500
  · by_cases c1 : (r.2.1.length : Int) ≤ 500
    · by_cases c2 : (r.2.2.2.2.1.length : Int) ≤ 500
      · refine ⟨q, ?_, h2⟩
        simp only [wK_, c0, c1, c2, h1, za', zb', zc', zd', ze', zf', zg', zh', zi', zj', zk', zl', zm', zn', zo', zp', zq', zr', zs', zt']
      · refine ⟨false, ?_, fun h => by cases h⟩
        simp only [wK_, c0, c1, c2, za', zb', zc', zd', ze', zf', zg', zh', zi', zj', zk', zl', zm', zn', zo', zp', zq', zr', zs', zt']
    · refine ⟨false, ?_, fun h => by cases h⟩
      simp only [wK_, c0, c1, za', zb', zc', zd', ze', zf', zg', zh', zi', zj', zk', zl', zm', zn', zo', zp', zq', zr', zs', zt']
  · refine ⟨false, ?_, fun h => by cases h⟩
    simp only [wK_, c0, za', zb', zc', zd', ze', zf', zg', zh', zi', zj', zk', zl', zm', zn', zo', zp', zq', zr', zs', zt']
theorem wfn {K : Nat} (hK : 300 ≤ K) : wO_ K = some true := by
  have : ∀ K, wO_ (K + 300) = some true := fun K => by kernel_rfl
  have h := this (K - 300)
  rwa [Nat.sub_add_cancel hK] at h
/-! A tag's text. -/
theorem wfe {s : List UInt8} (h : (parT s).2.1 = true) : quoT (restT s) = true ∧ (innT (restT s)).all tagIn = true ∧ (parT s).1 = (wkT s, innT (restT s), ()) := by
  unfold parT at h ⊢
  split at h
  · rename_i c
    simp only [Bool.and_eq_true] at c
    rw [if_pos (by simp only [c, Bool.and_self])]
    exact ⟨c.1, c.2, rfl⟩
  · cases h
theorem wfJ {r : List UInt8} (h : quoT r = true) : [34] ++ innT r ++ [34] = r := by
  simp only [quoT, Bool.and_eq_true, decide_eq_true_eq, beq_iff_eq] at h
  obtain ⟨⟨h1, h2⟩, h3⟩ := h
  have e1 : r = 34 :: r.drop 1 := by
    have := drop_get r 0 (i := 0) (by omega)
    rw [List.drop_zero, h2] at this
    exact this
  have e2 : r.drop (r.length - 1) = [34] := by
    rw [drop_get r 0 (by omega), h3, List.drop_eq_nil_of_le (by omega)]
  have e3 : innT r ++ [34] = r.drop 1 := by
    unfold innT cut
    have := List.take_append_drop (r.length - 1 - 1) (r.drop 1)
    rw [List.drop_drop, show 1 + (r.length - 1 - 1) = r.length - 1 by omega, e2] at this
    exact this
  rw [List.append_assoc, e3]
  exact e1.symm
theorem wdY {s : List UInt8} (h : (parT s).2.1 = true) : txtT (parT s).1 = s := by
  obtain ⟨h1, _, h3⟩ := wfe h
  rw [h3]
  have e := wfJ h1
  unfold txtT
  simp only
  rw [e]
  unfold restT
  cases c : wkT s with
  | false => simp
  | true =>
    simp only [if_true]
    have : s.take 2 = [87, 47] := by simpa [wkT] using c
    rw [← this]; exact List.take_append_drop 2 s
theorem weq : ∀ (x rest cur : List UInt8) (out : List Tg) (q : Bool), (∀ b ∈ x, b ≠ 34) → (q = true ∨ ∀ b ∈ x, b ≠ 44) → tlS (x ++ rest) q cur out = tlS rest q (cur ++ x) out := by
  intro x
  induction x with
  | nil => intro rest cur out q _ _; simp
  | cons b x ih =>
    intro rest cur out q h1 h2
    have hb := h1 b List.mem_cons_self
    have hc : ¬ (b = 44 ∧ q = false) := by
      rintro ⟨e1, e2⟩
      rcases h2 with h2 | h2
      · rw [e2] at h2; cases h2
      · exact h2 b List.mem_cons_self e1
    rw [List.cons_append]
    simp only [tlS]
    rw [if_neg hc]
    have hq : qT q b = q := by unfold qT; rw [if_neg hb]
    rw [hq, ih rest _ out q (fun b hb => h1 b (List.mem_cons_of_mem _ hb)) (h2.imp_right fun h b hb => h b (List.mem_cons_of_mem _ hb))]
    simp
theorem weB {b : UInt8} (h : tagIn b = true) : b ≠ 34 := by
  intro e; subst e; revert h; decide
theorem weW {s : List UInt8} (h : (parT s).2.1 = true) : lisT s = ([(parT s).1], false, 0, ()) := by
  obtain ⟨h1, h2, h3⟩ := wfe h
  have e := wdY h
  rw [h3] at e
  have hs : s = (if wkT s then [87, 47] else []) ++ ([34] ++ innT (restT s) ++ [34]) := by
    refine e.symm.trans ?_
    unfold txtT
    cases wkT s <;> rfl
  have hin : ∀ b ∈ innT (restT s), b ≠ 34 := fun b hb => weB (List.all_eq_true.1 h2 b hb)
  have htrim : trim s = s := by
    have hl : s = ((if wkT s then [87, 47] else []) ++ ([34] ++ innT (restT s))) ++ [34] := hs.trans (by simp only [List.append_assoc])
    have hr : rdw blank s = s := by
      have h5 := rdw_snoc blank ((if wkT s then [87, 47] else []) ++ ([34] ++ innT (restT s))) 34
      rw [← hl, if_neg (by decide)] at h5
      exact h5
    unfold trim
    rw [hr]
    cases c : wkT s with
    | true => rw [c] at hs; rw [hs]; simp only [if_true, List.cons_append, List.nil_append]; rw [dw_cons, if_neg (by decide)]
    | false => rw [c] at hs; rw [hs]; simp only [Bool.false_eq_true, if_false, List.cons_append, List.nil_append]; rw [dw_cons, if_neg (by decide)]
  have hne : s ≠ [42] := by
    intro e2
    cases c : wkT s with
    | true => rw [c, e2] at hs; simp at hs
    | false => rw [c, e2] at hs; simp at hs
  have hne0 : s ≠ [] := by
    intro e2
    have := congrArg List.length hs
    rw [e2] at this
    simp at this
  have ht : tlS s false [] [] = some [(parT s).1] := by
    have hgo : tlS ((if wkT s then [87, 47] else []) ++ ([34] ++ innT (restT s) ++ [34])) false [] [] = some [(parT s).1] := by
     rw [List.append_assoc [34], weq _ _ [] [] false (by split <;> simp) (.inr (by split <;> simp))]
     simp only [List.singleton_append, List.cons_append, List.nil_append, tlS]
     rw [if_neg (by simp), show qT false 34 = true from rfl, weq _ [34] _ [] true hin (.inl rfl)]
     simp only [tlS]
     rw [if_neg (by simp)]
     have e5 : (if wkT s then [87, 47] else []) ++ [34] ++ innT (restT s) ++ [34] = s := by
       exact (hs.trans (by simp only [List.append_assoc, List.nil_append])).symm
     rw [e5]
     unfold addT
     rw [htrim, if_neg hne0, if_pos h]
     rfl
    rw [← hs] at hgo
    exact hgo
  unfold lisT
  rw [htrim, if_neg hne, ht]
  rfl
theorem weS {s : List UInt8} (h : (parT s).2.1 = true) : matT s (parT s).1 = true := by
  unfold matT
  rw [weW h]
  simp only [Bool.false_or, List.any_cons, List.any_nil, Bool.or_false, weakT, beq_self_eq_true]
/-! Fields that are dropped and found. -/
theorem wdf (a b : List Fld) (n : List UInt8) : allOf (a ++ b) n = allOf a n ++ allOf b n := by simp only [allOf, List.filter_append, List.map_append]
theorem drop_append (a b : List Fld) (ns : List (List UInt8)) : dropOf (a ++ b) ns = dropOf a ns ++ dropOf b ns := by simp only [dropOf, List.filter_append]
theorem drop_drop (a : List Fld) (ns : List (List UInt8)) : dropOf (dropOf a ns) ns = dropOf a ns := by simp only [dropOf, List.filter_filter, Bool.and_self]
theorem wdR (l : List Fld) {ns : List (List UInt8)} {n : List UInt8} (h : n ∈ ns) : allOf (dropOf l ns) n = [] := by
  unfold allOf dropOf
  rw [List.map_eq_nil_iff, List.filter_eq_nil_iff]
  intro f hf e
  have h1 := (List.mem_filter.1 hf).2
  have h2 : anySame f.1 ns = true := List.any_eq_true.2 ⟨n, h, e⟩
  rw [h2] at h1; cases h1
theorem weR (x : List UInt8) : Lib.join [x] sep2 = x := by simp [Lib.join, Lib.joinTail]
theorem wfv (q l : List Fld) : getOf (askF q l) nINM = if (tagO l).2.1 then (txtT (tagO l).1, true, ()) else ([], false, ()) := by
  have h1 : allOf (dropOf q [nINM, nIMS]) nINM = [] := wdR q List.mem_cons_self
  have s1 : same nINM nINM = true := by decide
  have s2 : same nIMS nINM = false := by decide
  have h2 : ∀ x : List UInt8, allOf [(nINM, x, ())] nINM = [x] := fun x => by simp only [allOf, List.filter_cons, s1, if_true, List.filter_nil, List.map_cons, List.map_nil]
  have h3 : ∀ x : List UInt8, allOf [(nIMS, x, ())] nINM = [] := fun x => by simp only [allOf, List.filter_cons, s2, Bool.false_eq_true, if_false, List.filter_nil, List.map_nil]
  have h4 : allOf ([] : List Fld) nINM = [] := rfl
  unfold getOf askF
  rw [wdf, wdf, h1]
  cases (tagO l).2.1 with
  | true =>
    cases (whenO l nMod).2.1 <;> simp only [if_true, Bool.false_eq_true, if_false, h2, h3, h4, List.nil_append, List.append_nil, weR] <;> rfl
  | false =>
    cases (whenO l nMod).2.1 <;> simp only [if_true, Bool.false_eq_true, if_false, h2, h3, h4, List.nil_append, List.append_nil, Lib.join_nil] <;> rfl
theorem we9 (q l : List Fld) : dropOf (askF q l) [nINM, nIMS] = dropOf q [nINM, nIMS] := by
  have s1 : anySame nINM [nINM, nIMS] = true := by decide
  have s2 : anySame nIMS [nINM, nIMS] = true := by decide
  have h2 : ∀ x : List UInt8, dropOf [(nINM, x, ())] [nINM, nIMS] = [] := fun x => by simp only [dropOf, List.filter_cons, s1, Bool.not_true, Bool.false_eq_true, if_false, List.filter_nil]
  have h3 : ∀ x : List UInt8, dropOf [(nIMS, x, ())] [nINM, nIMS] = [] := fun x => by simp only [dropOf, List.filter_cons, s2, Bool.not_true, Bool.false_eq_true, if_false, List.filter_nil]
  have h4 : dropOf ([] : List Fld) [nINM, nIMS] = [] := rfl
  unfold askF
  rw [drop_append, drop_append, drop_drop]
  cases (tagO l).2.1 <;> cases (whenO l nMod).2.1 <;> simp only [if_true, Bool.false_eq_true, if_false, h2, h3, h4, List.append_nil]
theorem wd9 (l : List Fld) : allOf (onlyOf l nn) nTag = allOf l nTag := by
  unfold allOf onlyOf
  rw [List.filter_filter]
  congr 1
  apply List.filter_congr
  intro f _
  cases c : same f.1 nTag with
  | false => rfl
  | true =>
    have : anySame f.1 nn = true := List.any_eq_true.2 ⟨nTag, by decide, c⟩
    rw [this]; rfl
theorem web {l : List Fld} (h : (tagO l).2.1 = true) : ∃ s, allOf l nTag = [s] ∧ (parT s).2.1 = true ∧ tagO l = parT s := by
  unfold tagO at h ⊢
  split at h
  · rename_i c
    rw [if_pos c]
    obtain ⟨s, hs⟩ := List.length_eq_one_iff.1 c
    rw [hs] at h ⊢
    exact ⟨s, rfl, h, rfl⟩
  · cases h
/-! Merging twice. -/
end Go.Proofs.X
