/-
  A part of the proof. No condition.
-/
import Derived.Test.YtkfffmpnmoiikaaGreatDoorOPr
/- Chapter 19 (conds): what the laws lean on. No condition but on sizes. -/
set_option linter.unusedSimpArgs false
set_option linter.unusedVariables false
namespace Go.Proofs.X
open Go Go.Dp
def shortP (b : Nat) (x : Pk) : Bool := decide (x.1.length ≤ b) && decide (x.2.2.1.length ≤ b)
theorem wdO (K : Nat) (l : List Pk) (m b : Nat) (hm : m < 1000000) (hK : m + 2 < K) :
    ∃ r, ww_ K l (m : Int) (b : Int) = some r ∧ (r = true → l.length ≤ m ∧ ∀ x ∈ l, x.1.length ≤ b ∧ x.2.2.1.length ≤ b) := by
  have hN : (l.take (m + 1)).length = min (m + 1) l.length := by simp
  have H := idx_rule (l := ww_.l0 K) (ww_.t0 K) (fun _ _ => rfl) (l.take (m + 1)).length
    (fun i => ((l, ((m : Int), ((b : Int), ((i : Int), ())))), ())) (fun i => if ((l.take (m + 1)).drop i).all (shortP b) then .inl ((l, ((m : Int), ())), ()) else .inr ((false, ()), ())) ?_ K 0 (by omega) (by omega)
  · simp only [Int.natCast_zero, List.drop_zero] at H
    simp only [ww_, ww_.tr, H]
    by_cases hall : (l.take (m + 1)).all (shortP b) = true
    · simp only [hall, za', zb', zc', zd', ze', zf', zg', zh', zi', zj', zk', zl', zm', zn', zo', zp', zq', zr', zs', zt']
      refine ⟨_, rfl, fun hr => ?_⟩
      have hl : l.length ≤ m := by have := of_decide_eq_true hr; omega
      refine ⟨hl, fun s hs => ?_⟩
      rw [List.take_of_length_le (by omega)] at hall
      have h3 := List.all_eq_true.1 hall s hs
      simp only [shortP, Bool.and_eq_true, decide_eq_true_eq] at h3
      exact h3
    · simp only [hall, za', zb', zc', zd', ze', zf', zg', zh', zi', zj', zk', zl', zm', zn', zo', zp', zq', zr', zs', zt']
      exact ⟨false, rfl, fun h => by cases h⟩
  · intro i rec hi ih
    by_cases h : i < (l.take (m + 1)).length
    · have hil : i < l.length := by omega
      have him : i ≤ m := by omega
      have hh : (i : Int) < (l.length : Int) := by omega
      have hh2 : (i : Int) ≤ (m : Int) := by omega
      have w1 := wrapSucc (show i < 9223372036854775807 by omega)
      have ih' := ih h
      have hd : (l.take (m + 1)).drop i = l.getD i ([], false, [], ()) :: (l.take (m + 1)).drop (i + 1) := by
        rw [List.drop_eq_getElem_cons h]
        simp [List.getD_eq_getElem?_getD, hil]
      rw [hd, List.all_cons]
      by_cases c : (l.getD i ([], false, [], ())).1.length ≤ b
      · have c2 : ¬ ((l.getD i ([], false, [], ())).1.length : Int) > (b : Int) := by omega
        by_cases d : (l.getD i ([], false, [], ())).2.2.1.length ≤ b
        · have d2 : ¬ ((l.getD i ([], false, [], ())).2.2.1.length : Int) > (b : Int) := by omega
          have c3 : shortP b (l.getD i ([], false, [], ())) = true := by simp only [shortP, c, d, decide_true, Bool.and_self]
          simp only [ww_.t0, za', zb', zc', zd', ze', zf', zg', zh', zi', zj', zk', zl', zm', zn', zo', zp', zq', zr', zs', zt', hh, hh2, c2, d2, c3, w1]
          exact ih'
        · have d2 : ((l.getD i ([], false, [], ())).2.2.1.length : Int) > (b : Int) := by omega
          have c3 : shortP b (l.getD i ([], false, [], ())) = false := by simp only [shortP, d, decide_false, Bool.and_false]
          simp only [ww_.t0, za', zb', zc', zd', ze', zf', zg', zh', zi', zj', zk', zl', zm', zn', zo', zp', zq', zr', zs', zt', hh, hh2, c2, d2, c3]
      · have c2 : ((l.getD i ([], false, [], ())).1.length : Int) > (b : Int) := by omega
        have c3 : shortP b (l.getD i ([], false, [], ())) = false := by simp only [shortP, c, decide_false, Bool.false_and]
        simp only [ww_.t0, za', zb', zc', zd', ze', zf', zg', zh', zi', zj', zk', zl', zm', zn', zo', zp', zq', zr', zs', zt', hh, hh2, c2, c3]
    · have h2 : i = (l.take (m + 1)).length := by omega
      have hd : (l.take (m + 1)).drop i = [] := List.drop_eq_nil_of_le (by omega)
      rw [hd, List.all_nil]
      by_cases c : l.length ≤ m
      · have hh : ¬ (i : Int) < (l.length : Int) := by omega
        simp only [ww_.t0, za', zb', zc', zd', ze', zf', zg', zh', zi', zj', zk', zl', zm', zn', zo', zp', zq', zr', zs', zt', hh]
      · by_cases hh : (i : Int) < (l.length : Int)
        · have hh2 : ¬ (i : Int) ≤ (m : Int) := by omega
          simp only [ww_.t0, za', zb', zc', zd', ze', zf', zg', zh', zi', zj', zk', zl', zm', zn', zo', zp', zq', zr', zs', zt', hh, hh2]
        · simp only [ww_.t0, za', zb', zc', zd', ze', zf', zg', zh', zi', zj', zk', zl', zm', zn', zo', zp', zq', zr', zs', zt', hh]
theorem wc9 {K : Nat} (l : List Pk) (hl : l.length < 1000000) (hK : 1000000 ≤ K) : wx_ K l l = some true := by
  have H := idx_rule (l := wx_.l0 K) (wx_.t0 K) (fun _ _ => rfl) l.length
    (fun i => ((l, (l, ((i : Int), ()))), ())) (fun i => .inl ((), ())) ?_ K 0 (by omega) (by omega)
  · simp only [Int.natCast_zero] at H
    simp only [wx_, wx_.tr, H, za', zb', zc', zd', ze', zf', zg', zh', zi', zj', zk', zl', zm', zn', zo', zp', zq', zr', zs', zt']
  · intro i rec hi ih
    by_cases h : i < l.length
    · have hh : (i : Int) < (l.length : Int) := by omega
      have w1 := wrapSucc (show i < 9223372036854775807 by omega)
      simp only [wx_.t0, za', zb', zc', zd', ze', zf', zg', zh', zi', zj', zk', zl', zm', zn', zo', zp', zq', zr', zs', zt', hh, beq_self_eq_true, w1]
      exact ih h
    · have h2 : i = l.length := by omega
      subst h2
      simp only [wx_.t0, za', zb', zc', zd', ze', zf', zg', zh', zi', zj', zk', zl', zm', zn', zo', zp', zq', zr', zs', zt', Int.lt_irrefl]
theorem wdW (K : Nat) (r : Rep) (hK : 1000 ≤ K) : ∃ b, wA_ K r 500 = some b ∧ (b = true → few r.2.2.2.1 70) := by
  obtain ⟨q, h1, h2⟩ := wdI K r.2.2.2.1 70 500 (by decide) (by omega)
  have h1 : wz_ K r.2.2.2.1 70 500 = some q := h1
  by_cases c1 : (r.2.1.length : Int) ≤ 500
  · by_cases c2 : (r.2.2.2.2.1.length : Int) ≤ 500
    · refine ⟨q, ?_, h2⟩
      simp only [wA_, c1, c2, h1, za', zb', zc', zd', ze', zf', zg', zh', zi', zj', zk', zl', zm', zn', zo', zp', zq', zr', zs', zt']
    · refine ⟨false, ?_, fun h => by cases h⟩
      simp only [wA_, c1, c2, za', zb', zc', zd', ze', zf', zg', zh', zi', zj', zk', zl', zm', zn', zo', zp', zq', zr', zs', zt']
  · refine ⟨false, ?_, fun h => by cases h⟩
    simp only [wA_, c1, za', zb', zc', zd', ze', zf', zg', zh', zi', zj', zk', zl', zm', zn', zo', zp', zq', zr', zs', zt']
theorem we4 {K : Nat} (hK : 300 ≤ K) : wP_ K = some true := by
  have : ∀ K, wP_ (K + 300) = some true := fun K => by kernel_rfl
  have h := this (K - 300)
  rwa [Nat.sub_add_cancel hK] at h
theorem wdo {K : Nat} (r : Rep) (hl : r.2.2.2.1.length < 1000000) (hK : 1000000 ≤ K) : wN_ K r r = some true := by
  simp only [wN_, eq_self, beq_self_eq_true, za', zb', zc', zd', ze', zf', zg', zh', zi', zj', zk', zl', zm', zn', zo', zp', zq', zr', zs', zt', wcV _ hl hK]
/-! A tag's text. -/
/-! Fields that are dropped and found. -/
theorem drop_append (a b : List Fld) (ns : List (List UInt8)) : dropOf (a ++ b) ns = dropOf a ns ++ dropOf b ns := by simp only [dropOf, List.filter_append]
theorem drop_drop (a : List Fld) (ns : List (List UInt8)) : dropOf (dropOf a ns) ns = dropOf a ns := by simp only [dropOf, List.filter_filter, Bool.and_self]
theorem join_one (x : List UInt8) : Lib.join [x] sep2 = x := by simp [Lib.join, Lib.joinTail]
/-! Merging twice. -/
end Go.Proofs.X
