/-
  A part of the proof. No condition.
-/
import Derived.Test.YtkfffmpnmoiikaaGreatDoorOPo
/- Chapter 14 (etag): the document's lists; matches. No condition but on sizes. -/
set_option linter.unusedSimpArgs false
set_option linter.unusedVariables false
namespace Go.Proofs.X
open Go Go.Dp
theorem wd6 {out o : List Tg} {cur : List UInt8} (h : addT out cur = some o) : o.length ≤ out.length + 1 := by
  unfold addT at h
  split at h
  · cases h; omega
  · split at h
    · cases h; simp
    · cases h
theorem wfo : ∀ (s : List UInt8) (q : Bool) (cur : List UInt8) (out o : List Tg), tlS s q cur out = some o → o.length ≤ out.length + s.length + 1 := by
  intro s
  induction s with
  | nil => intro q cur out o h; have := wd6 h; simp; omega
  | cons b r ih =>
    intro q cur out o h
    simp only [tlS] at h
    split at h
    · split at h
      · rename_i o1 h1
        have := wd6 h1
        have := ih _ _ _ _ h
        simp only [List.length_cons]; omega
      · cases h
    · have := ih _ _ _ _ h
      simp only [List.length_cons]; omega
theorem we3 (s : List UInt8) : (lisT s).1.length ≤ s.length + 1 := by
  unfold lisT
  split
  · simp
  · split
    · rename_i o h
      have := wfo s false [] [] o h
      split
      · simp
      · simpa using this
    · simp
def matT (s : List UInt8) (t : Tg) : Bool := (lisT s).2.1 || (lisT s).1.any fun x => weakT x t
theorem wdj {K : Nat} {s : List UInt8} (t : Tg) (hs : s.length < 100000) (hK : 1000000 ≤ K) : w7_ K s t = some (matT s t) := by
  have hl := we3 s
  have H := idx_rule (l := w7_.l0 K) (w7_.t0 K) (fun _ _ => rfl) (lisT s).1.length
    (fun i => ((t, (((lisT s).2.1 || ((lisT s).1.take i).any fun x => weakT x t), ((lisT s).1, (((lisT s).1.length : Int), ((i : Int), ()))))), ())) (fun _ => ((matT s t, ()), ())) ?_ K 0 (by omega) (by omega)
  · simp only [List.take_zero, List.any_nil, Bool.or_false, Int.natCast_zero] at H
    simp only [w7_, w7_.tr, wcW hs hK, za', zb', zc', zd', ze', zf', zg', zh', zi', zj', zk', zl', zm', zn', zo', zp', zq', zr', zs', zt', H]
  · unfold matT
    generalize (lisT s).1 = l at hl ⊢
    generalize (lisT s).2.1 = a
    intro i rec hi ih
    by_cases h : i < l.length
    · have hh : (i : Int) < (l.length : Int) := by omega
      have w1 := wrapSucc (show i < 9223372036854775807 by omega)
      have ih' := ih h
      rw [take_get l (false, [], ()) h, List.any_append, List.any_cons, List.any_nil, Bool.or_false, ← Bool.or_assoc] at ih'
      have hw : wb2 K ((l.getD i (false, ([], ()))).1, ((l.getD i (false, ([], ()))).2.1, ())) (t.1, (t.2.1, ())) = some (weakT (l.getD i (false, ([], ()))) t) := wcX K _ _
      cases c : (a || (l.take i).any fun x => weakT x t) with
      | true =>
        rw [c, Bool.true_or] at ih'
        simp only [w7_.t0, za', zb', zc', zd', ze', zf', zg', zh', zi', zj', zk', zl', zm', zn', zo', zp', zq', zr', zs', zt', hh, c, w1]
        exact ih'
      | false =>
        rw [c, Bool.false_or] at ih'
        simp only [w7_.t0, za', zb', zc', zd', ze', zf', zg', zh', zi', zj', zk', zl', zm', zn', zo', zp', zq', zr', zs', zt', hh, c, w1, hw]
        exact ih'
    · have h2 : i = l.length := by omega
      subst h2
      simp only [w7_.t0, za', zb', zc', zd', ze', zf', zg', zh', zi', zj', zk', zl', zm', zn', zo', zp', zq', zr', zs', zt', Int.lt_irrefl, List.take_length]
end Go.Proofs.X
