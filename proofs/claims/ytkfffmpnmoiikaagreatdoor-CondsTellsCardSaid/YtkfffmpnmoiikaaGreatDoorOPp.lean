/-
  A part of the proof. No condition.
-/
import Derived.Test.YtkfffmpnmoiikaaGreatDoorOPo
/- Chapter 14 (etag): the document's lists; matches. No condition but on sizes. -/
set_option linter.unusedSimpArgs false
set_option linter.unusedVariables false
namespace Go.Proofs.X
open Go Go.Dp
theorem wdY {K : Nat} (s : List UInt8) (hs : s.length < 100000) (hK : 1000000 ≤ K) :
    ∃ r, wn_.l0 K K ((s, ((), ([], (false, (0, ()))))), ([], ([], ()))) = some r ∧ resT (tlS s false [] []) r := by
  generalize hF : tlS s false [] [] = F
  refine loop_ex (l := wn_.l0 K) (wn_.t0 K) (fun _ _ => rfl)
    (fun x => ∃ (i : Nat) (pt : List UInt8) (q : Bool) (out : List Tg), x = ((s, ((), (pt, (q, ((i : Int), ()))))), ([], (out, ()))) ∧ out.length ≤ i ∧ pt.length ≤ i ∧ ((i ≤ s.length ∧ tlS (s.drop i) q pt out = F) ∨ (i = s.length + 1 ∧ F = some out)))
    (fun x => s.length + 1 - x.1.2.2.2.2.1.toNat) (resT F) ?_ K _ ⟨0, [], false, [], rfl, Nat.zero_le _, Nat.zero_le _, .inl ⟨Nat.zero_le _, by simpa using hF⟩⟩ (by simp; omega)
  rintro x rec ⟨i, pt, q, out, rfl, ho, hp, hc⟩ ih
  have ih' : ∀ (pt' : List UInt8) (q' : Bool) (out' : List Tg), i ≤ s.length → out'.length ≤ i + 1 → pt'.length ≤ i + 1 → ((i + 1 ≤ s.length ∧ tlS (s.drop (i + 1)) q' pt' out' = F) ∨ (i + 1 = s.length + 1 ∧ F = some out')) →
      ∃ r, rec ((s, ((), (pt', (q', (((i + 1 : Nat) : Int), ()))))), ([], (out', ()))) = some r ∧ resT F r := fun pt' q' out' hi h1 h2 h3 =>
    ih _ ⟨i + 1, pt', q', out', rfl, h1, h2, h3⟩ (by show s.length + 1 - (((i + 1 : Nat) : Int)).toNat < s.length + 1 - ((i : Nat) : Int).toNat; omega)
  rcases hc with ⟨hi, ht⟩ | ⟨hi, hF'⟩
  · have c1 : (i : Int) ≤ (s.length : Int) := by omega
    have w1 := wrapSucc (show i < 9223372036854775807 by omega)
    have htr : wd_ K pt = some (trim pt) := wc2 (by omega) (by omega)
    have hpa : wk_ K (trim pt) = some (parT (trim pt)) := wcN (by have := wdn pt; omega) (by omega)
    have hmax : (out.length + 1) * 24 ≤ maxRoom := by simp only [maxRoom]; omega
    by_cases h : i < s.length
    · have c2 : (i : Int) < (s.length : Int) := by omega
      have c3 : ((i + 1 : Nat) : Int) ≤ (s.length : Int) := by omega
      have c4 : (i : Int) ≤ ((i + 1 : Nat) : Int) := by omega
      have hcut : cut s i (i + 1) = [s.getD i 0] := by rw [cut_succ s 0 (Nat.le_refl i) h, cut_self]; rfl
      have hroom : pt.length + [s.getD i 0].length ≤ maxRoom := by simp [maxRoom]; omega
      rw [wd7 s h] at ht
      by_cases b2 : s.getD i 0 = 44
      · have b2' := (byte44 _).2 b2
        cases q with
        | true =>
          simp only [tlS, b2, Bool.true_eq_false, and_false, if_false, qT, show ¬ (44 : UInt8) = 34 by decide] at ht
          have := ih' (pt ++ [s.getD i 0]) true out hi (by omega) (by rw [List.length_append, List.length_singleton]; omega) (.inl ⟨by omega, by rw [b2]; exact ht⟩)
          simp only [wn_.t0, za', zb', zc', zd', ze', zf', zg', zh', zi', zj', zk', zl', zm', zn', zo', zp', zq', zr', zs', zt', c1, c2, c3, c4, b2', hcut, hroom, show ¬ (44 : Int) = 34 by decide, w1]
          exact this
        | false =>
          simp only [tlS, b2, and_self, if_true] at ht
          by_cases e : trim pt = []
          · have ha : addT out pt = some out := by unfold addT; rw [if_pos e]
            rw [ha] at ht
            have := ih' [] false out hi (by omega) (Nat.zero_le _) (.inl ⟨by omega, ht⟩)
            simp only [wn_.t0, za', zb', zc', zd', ze', zf', zg', zh', zi', zj', zk', zl', zm', zn', zo', zp', zq', zr', zs', zt', c1, c2, b2', w1, htr, e, beq_self_eq_true]
            exact this
          · have e' : (trim pt == ([] : List UInt8)) = false := beq_eq_false_iff_ne.2 e
            cases d : (parT (trim pt)).2.1 with
            | false =>
              have ha : addT out pt = none := by unfold addT; rw [if_neg e, d, if_neg (by decide)]
              rw [ha] at ht
              subst ht
              simp only [wn_.t0, za', zb', zc', zd', ze', zf', zg', zh', zi', zj', zk', zl', zm', zn', zo', zp', zq', zr', zs', zt', c1, c2, b2', w1, htr, e', hpa, d]
              exact ⟨_, rfl, _, _, rfl⟩
            | true =>
              have ha : addT out pt = some (out ++ [(parT (trim pt)).1]) := by unfold addT; rw [if_neg e, d, if_pos rfl]
              rw [ha] at ht
              have := ih' [] false (out ++ [(parT (trim pt)).1]) hi (by rw [List.length_append, List.length_singleton]; omega) (Nat.zero_le _) (.inl ⟨by omega, ht⟩)
              simp only [wn_.t0, za', zb', zc', zd', ze', zf', zg', zh', zi', zj', zk', zl', zm', zn', zo', zp', zq', zr', zs', zt', c1, c2, b2', w1, htr, e', hpa, d, hmax]
              exact this
      · have b2' : ¬ ((s.getD i 0).toNat : Int) = 44 := fun h => b2 ((byte44 _).1 h)
        simp only [tlS, b2, false_and, if_false] at ht
        by_cases b1 : s.getD i 0 = 34
        · have b1' := (byte34 _).2 b1
          simp only [qT, b1, if_true] at ht
          have := ih' (pt ++ [s.getD i 0]) (!q) out hi (by omega) (by rw [List.length_append, List.length_singleton]; omega) (.inl ⟨by omega, by rw [b1]; exact ht⟩)
          simp only [wn_.t0, za', zb', zc', zd', ze', zf', zg', zh', zi', zj', zk', zl', zm', zn', zo', zp', zq', zr', zs', zt', c1, c2, c3, c4, b1', b2', hcut, hroom, show ¬ (34 : Int) = 44 by decide, w1]
          exact this
        · have b1' : ¬ ((s.getD i 0).toNat : Int) = 34 := fun h => b1 ((byte34 _).1 h)
          simp only [qT, b1, if_false] at ht
          have := ih' (pt ++ [s.getD i 0]) q out hi (by omega) (by rw [List.length_append, List.length_singleton]; omega) (.inl ⟨by omega, ht⟩)
          simp only [wn_.t0, za', zb', zc', zd', ze', zf', zg', zh', zi', zj', zk', zl', zm', zn', zo', zp', zq', zr', zs', zt', c1, c2, c3, c4, b1', b2', hcut, hroom, w1]
          exact this
    · have h0 : i = s.length := by omega
      have c2 : ¬ (i : Int) < (s.length : Int) := by omega
      have hd : s.drop i = [] := List.drop_eq_nil_of_le (by omega)
      rw [hd] at ht
      simp only [tlS] at ht
      by_cases e : trim pt = []
      · have ha : addT out pt = some out := by unfold addT; rw [if_pos e]
        rw [ha] at ht
        have := ih' [] q out hi (by omega) (Nat.zero_le _) (.inr ⟨by omega, ht.symm⟩)
        simp only [wn_.t0, za', zb', zc', zd', ze', zf', zg', zh', zi', zj', zk', zl', zm', zn', zo', zp', zq', zr', zs', zt', c1, c2, w1, htr, e, beq_self_eq_true]
        exact this
      · have e' : (trim pt == ([] : List UInt8)) = false := beq_eq_false_iff_ne.2 e
        cases d : (parT (trim pt)).2.1 with
        | false =>
          have ha : addT out pt = none := by unfold addT; rw [if_neg e, d, if_neg (by decide)]
          rw [ha] at ht
          subst ht
          simp only [wn_.t0, za', zb', zc', zd', ze', zf', zg', zh', zi', zj', zk', zl', zm', zn', zo', zp', zq', zr', zs', zt', c1, c2, w1, htr, e', hpa, d]
          exact ⟨_, rfl, _, _, rfl⟩
        | true =>
          have ha : addT out pt = some (out ++ [(parT (trim pt)).1]) := by unfold addT; rw [if_neg e, d, if_pos rfl]
          rw [ha] at ht
          have := ih' [] q (out ++ [(parT (trim pt)).1]) hi (by rw [List.length_append, List.length_singleton]; omega) (Nat.zero_le _) (.inr ⟨by omega, ht.symm⟩)
          simp only [wn_.t0, za', zb', zc', zd', ze', zf', zg', zh', zi', zj', zk', zl', zm', zn', zo', zp', zq', zr', zs', zt', c1, c2, w1, htr, e', hpa, d, hmax]
          exact this
  · have c1 : ¬ (i : Int) ≤ (s.length : Int) := by omega
    simp only [wn_.t0, za', zb', zc', zd', ze', zf', zg', zh', zi', zj', zk', zl', zm', zn', zo', zp', zq', zr', zs', zt', c1]
    exact ⟨_, rfl, by rw [hF']; rfl⟩
theorem wc1 {K : Nat} {s : List UInt8} (hs : s.length < 100000) (hK : 1000000 ≤ K) : wn_ K s = some (lisT s) := by
  obtain ⟨r, h1, h2⟩ := wdY (K := K) s hs hK
  have htr : wd_ K s = some (trim s) := wc2 (by omega) (by omega)
  simp only [wn_, wn_.tr, htr, za', zb', zc', zd', ze', zf', zg', zh', zi', zj', zk', zl', zm', zn', zo', zp', zq', zr', zs', zt']
  unfold lisT
  by_cases e : trim s = [42]
  · simp only [e, if_true, beq_self_eq_true, za', zb', zc', zd', ze', zf', zg', zh', zi', zj', zk', zl', zm', zn', zo', zp', zq', zr', zs', zt']
  · have e' : (trim s == ([42] : List UInt8)) = false := beq_eq_false_iff_ne.2 e
    rw [if_neg e]
    simp only [e', za', zb', zc', zd', ze', zf', zg', zh', zi', zj', zk', zl', zm', zn', zo', zp', zq', zr', zs', zt', h1]
    cases hF : tlS s false [] [] with
    | some o =>
      rw [hF] at h2
      simp only [resT] at h2
      subst h2
      by_cases c : o.length = 0
      · have c' : (o.length : Int) = 0 := by omega
        simp only [c, c', if_true, za', zb', zc', zd', ze', zf', zg', zh', zi', zj', zk', zl', zm', zn', zo', zp', zq', zr', zs', zt']
      · have c' : ¬ (o.length : Int) = 0 := by omega
        simp only [c, c', if_false, za', zb', zc', zd', ze', zf', zg', zh', zi', zj', zk', zl', zm', zn', zo', zp', zq', zr', zs', zt']
    | none =>
      rw [hF] at h2
      obtain ⟨o, t, rfl⟩ := h2
      rfl
theorem weV {out o : List Tg} {cur : List UInt8} (h : addT out cur = some o) : o.length ≤ out.length + 1 := by
  unfold addT at h
  split at h
  · cases h; omega
  · split at h
    · cases h; simp
    · cases h
theorem wgg : ∀ (s : List UInt8) (q : Bool) (cur : List UInt8) (out o : List Tg), tlS s q cur out = some o → o.length ≤ out.length + s.length + 1 := by
  intro s
  induction s with
  | nil => intro q cur out o h; have := weV h; simp; omega
  | cons b r ih =>
    intro q cur out o h
    simp only [tlS] at h
    split at h
    · split at h
      · rename_i o1 h1
        have := weV h1
        have := ih _ _ _ _ h
        simp only [List.length_cons]; omega
      · cases h
    · have := ih _ _ _ _ h
      simp only [List.length_cons]; omega
theorem we0 (s : List UInt8) : (lisT s).1.length ≤ s.length + 1 := by
  unfold lisT
  split
  · simp
  · split
    · rename_i o h
      have := wgg s false [] [] o h
      split
      · simp
      · simpa using this
    · simp
def matT (s : List UInt8) (t : Tg) : Bool := (lisT s).2.1 || (lisT s).1.any fun x => weakT x t
theorem wdL {K : Nat} {s : List UInt8} (t : Tg) (hs : s.length < 100000) (hK : 1000000 ≤ K) : wba K s t = some (matT s t) := by
  have hl := we0 s
  have H := idx_rule (l := wba.l0 K) (wba.t0 K) (fun _ _ => rfl) (lisT s).1.length
    (fun i => ((t, (((lisT s).2.1 || ((lisT s).1.take i).any fun x => weakT x t), ((lisT s).1, (((lisT s).1.length : Int), ((i : Int), ()))))), ())) (fun _ => ((matT s t, ()), ())) ?_ K 0 (by omega) (by omega)
  · simp only [List.take_zero, List.any_nil, Bool.or_false, Int.natCast_zero] at H
    simp only [wba, wba.tr, wdf hs hK, za', zb', zc', zd', ze', zf', zg', zh', zi', zj', zk', zl', zm', zn', zo', zp', zq', zr', zs', zt', H]
  · unfold matT
    generalize (lisT s).1 = l at hl ⊢
    generalize (lisT s).2.1 = a
    intro i rec hi ih
    by_cases h : i < l.length
    · have hh : (i : Int) < (l.length : Int) := by omega
      have w1 := wrapSucc (show i < 9223372036854775807 by omega)
      have ih' := ih h
      rw [take_get l (false, [], ()) h, List.any_append, List.any_cons, List.any_nil, Bool.or_false, ← Bool.or_assoc] at ih'
      have hw : wb6 K ((l.getD i (false, ([], ()))).1, ((l.getD i (false, ([], ()))).2.1, ())) (t.1, (t.2.1, ())) = some (weakT (l.getD i (false, ([], ()))) t) := wen K _ _
      cases c : (a || (l.take i).any fun x => weakT x t) with
      | true =>
        rw [c, Bool.true_or] at ih'
        simp only [wba.t0, za', zb', zc', zd', ze', zf', zg', zh', zi', zj', zk', zl', zm', zn', zo', zp', zq', zr', zs', zt', hh, c, w1]
        exact ih'
      | false =>
        rw [c, Bool.false_or] at ih'
        simp only [wba.t0, za', zb', zc', zd', ze', zf', zg', zh', zi', zj', zk', zl', zm', zn', zo', zp', zq', zr', zs', zt', hh, c, w1, hw]
        exact ih'
    · have h2 : i = l.length := by omega
      subst h2
      simp only [wba.t0, za', zb', zc', zd', ze', zf', zg', zh', zi', zj', zk', zl', zm', zn', zo', zp', zq', zr', zs', zt', Int.lt_irrefl, List.take_length]
theorem wdw {K : Nat} {s : List UInt8} (t : Tg) (hs : s.length < 100000) (hK : 1000000 ≤ K) : wu_ K s t = some (matT s t) := by
  have hl := we0 s
  have H := idx_rule (l := wu_.l0 K) (wu_.t0 K) (fun _ _ => rfl) (lisT s).1.length
    (fun i => ((t, ((lisT s).1, (((lisT s).2.1 || ((lisT s).1.take i).any fun x => weakT x t), ((i : Int), ())))), ())) (fun _ => ((matT s t, ()), ())) ?_ K 0 (by omega) (by omega)
  · simp only [List.take_zero, List.any_nil, Bool.or_false, Int.natCast_zero] at H
    simp only [wu_, wu_.tr, wc1 hs hK, za', zb', zc', zd', ze', zf', zg', zh', zi', zj', zk', zl', zm', zn', zo', zp', zq', zr', zs', zt', H]
  · unfold matT
    generalize (lisT s).1 = l at hl ⊢
    generalize (lisT s).2.1 = a
    intro i rec hi ih
    by_cases h : i < l.length
    · have hh : (i : Int) < (l.length : Int) := by omega
      have w1 := wrapSucc (show i < 9223372036854775807 by omega)
      have ih' := ih h
      rw [take_get l (false, [], ()) h, List.any_append, List.any_cons, List.any_nil, Bool.or_false, ← Bool.or_assoc] at ih'
      have hw : wbx K ((l.getD i (false, ([], ()))).1, ((l.getD i (false, ([], ()))).2.1, ())) (t.1, (t.2.1, ())) = some (weakT (l.getD i (false, ([], ()))) t) := wd1 K _ _
      cases c : (a || (l.take i).any fun x => weakT x t) with
      | true =>
        rw [c, Bool.true_or] at ih'
        simp only [wu_.t0, za', zb', zc', zd', ze', zf', zg', zh', zi', zj', zk', zl', zm', zn', zo', zp', zq', zr', zs', zt', hh, c, w1]
        exact ih'
      | false =>
        rw [c, Bool.false_or] at ih'
        simp only [wu_.t0, za', zb', zc', zd', ze', zf', zg', zh', zi', zj', zk', zl', zm', zn', zo', zp', zq', zr', zs', zt', hh, c, w1, hw]
        exact ih'
    · have h2 : i = l.length := by omega
      subst h2
      simp only [wu_.t0, za', zb', zc', zd', ze', zf', zg', zh', zi', zj', zk', zl', zm', zn', zo', zp', zq', zr', zs', zt', Int.lt_irrefl, List.take_length]
end Go.Proofs.X
