/-
  A part of the proof. No condition.
-/
import Derived.Test.YtkfffmpnmoiikaaGreatDoorOPr
/- Chapter 19 (conds): what the laws lean on. No condition but on sizes. -/
set_option linter.unusedSimpArgs false
set_option linter.unusedVariables false
namespace Go.Proofs.X
open Go Go.Dp
def shortP (b : Nat) (x : Pk) : Bool := decide (x.1.length ≤ b) && decide (x.2.2.1.length ≤ b)
theorem wde (K : Nat) (l : List Pk) (m b : Nat) (hm : m < 1000000) (hK : m + 2 < K) :
    ∃ r, wq_ K l (m : Int) (b : Int) = some r ∧ (r = true → l.length ≤ m ∧ ∀ x ∈ l, x.1.length ≤ b ∧ x.2.2.1.length ≤ b) := by
  have hN : (l.take (m + 1)).length = min (m + 1) l.length := by simp
  have H := idx_rule (l := wq_.l0 K) (wq_.t0 K) (fun _ _ => rfl) (l.take (m + 1)).length
    (fun i => ((l, ((m : Int), ((b : Int), ((i : Int), ())))), ())) (fun i => if ((l.take (m + 1)).drop i).all (shortP b) then .inl ((l, ((m : Int), ())), ()) else .inr ((false, ()), ())) ?_ K 0 (by omega) (by omega)
  · simp only [Int.natCast_zero, List.drop_zero] at H
    simp only [wq_, wq_.tr, H]
    by_cases hall : (l.take (m + 1)).all (shortP b) = true
    · simp only [hall, za', zb', zc', zd', ze', zf', zg', zh', zi', zj', zk', zl', zm', zn', zo', zp', zq', zr', zs', zt']
      refine ⟨_, rfl, fun hr => ?_⟩
      have hl : l.length ≤ m := by have := of_decide_eq_true hr; omega
      refine ⟨hl, fun s hs => ?_⟩
      rw [List.take_of_length_le (by omega)] at hall
      have h3 := List.all_eq_true.1 hall s hs
      simp only [shortP, Bool.and_eq_true, decide_eq_true_eq] at h3
      exact h3
    · simp only [hall, za', zb', zc', zd', ze', zf', zg', zh', zi', zj', zk', zl', zm', zn', zo', zp', zq', zr', zs', zt']
      exact ⟨false, rfl, fun h => by cases h⟩
  · intro i rec hi ih
    by_cases h : i < (l.take (m + 1)).length
    · have hil : i < l.length := by omega
      have him : i ≤ m := by omega
      have hh : (i : Int) < (l.length : Int) := by omega
      have hh2 : (i : Int) ≤ (m : Int) := by omega
      have w1 := wrapSucc (show i < 9223372036854775807 by omega)
      have ih' := ih h
      have hd : (l.take (m + 1)).drop i = l.getD i ([], false, [], ()) :: (l.take (m + 1)).drop (i + 1) := by
        rw [List.drop_eq_getElem_cons h]
        simp [List.getD_eq_getElem?_getD, hil]
      rw [hd, List.all_cons]
      by_cases c : (l.getD i ([], false, [], ())).1.length ≤ b
      · have c2 : ¬ ((l.getD i ([], false, [], ())).1.length : Int) > (b : Int) := by omega
        by_cases d : (l.getD i ([], false, [], ())).2.2.1.length ≤ b
        · have d2 : ¬ ((l.getD i ([], false, [], ())).2.2.1.length : Int) > (b : Int) := by omega
          have c3 : shortP b (l.getD i ([], false, [], ())) = true := by simp only [shortP, c, d, decide_true, Bool.and_self]
          simp only [wq_.t0, za', zb', zc', zd', ze', zf', zg', zh', zi', zj', zk', zl', zm', zn', zo', zp', zq', zr', zs', zt', hh, hh2, c2, d2, c3, w1]
          exact ih'
        · have d2 : ((l.getD i ([], false, [], ())).2.2.1.length : Int) > (b : Int) := by omega
          have c3 : shortP b (l.getD i ([], false, [], ())) = false := by simp only [shortP, d, decide_false, Bool.and_false]
          simp only [wq_.t0, za', zb', zc', zd', ze', zf', zg', zh', zi', zj', zk', zl', zm', zn', zo', zp', zq', zr', zs', zt', hh, hh2, c2, d2, c3]
      · have c2 : ((l.getD i ([], false, [], ())).1.length : Int) > (b : Int) := by omega
        have c3 : shortP b (l.getD i ([], false, [], ())) = false := by simp only [shortP, c, decide_false, Bool.false_and]
        simp only [wq_.t0, za', zb', zc', zd', ze', zf', zg', zh', zi', zj', zk', zl', zm', zn', zo', zp', zq', zr', zs', zt', hh, hh2, c2, c3]
    · have h2 : i = (l.take (m + 1)).length := by omega
      have hd : (l.take (m + 1)).drop i = [] := List.drop_eq_nil_of_le (by omega)
      rw [hd, List.all_nil]
      by_cases c : l.length ≤ m
      · have hh : ¬ (i : Int) < (l.length : Int) := by omega
        simp only [wq_.t0, za', zb', zc', zd', ze', zf', zg', zh', zi', zj', zk', zl', zm', zn', zo', zp', zq', zr', zs', zt', hh]
      · by_cases hh : (i : Int) < (l.length : Int)
        · have hh2 : ¬ (i : Int) ≤ (m : Int) := by omega
          simp only [wq_.t0, za', zb', zc', zd', ze', zf', zg', zh', zi', zj', zk', zl', zm', zn', zo', zp', zq', zr', zs', zt', hh, hh2]
        · simp only [wq_.t0, za', zb', zc', zd', ze', zf', zg', zh', zi', zj', zk', zl', zm', zn', zo', zp', zq', zr', zs', zt', hh]
theorem wcJ {K : Nat} (l : List Pk) (hl : l.length < 1000000) (hK : 1000000 ≤ K) : wr_ K l l = some true := by
  have H := idx_rule (l := wr_.l0 K) (wr_.t0 K) (fun _ _ => rfl) l.length
    (fun i => ((l, (l, ((i : Int), ()))), ())) (fun i => .inl ((), ())) ?_ K 0 (by omega) (by omega)
  · simp only [Int.natCast_zero] at H
    simp only [wr_, wr_.tr, H, za', zb', zc', zd', ze', zf', zg', zh', zi', zj', zk', zl', zm', zn', zo', zp', zq', zr', zs', zt']
  · intro i rec hi ih
    by_cases h : i < l.length
    · have hh : (i : Int) < (l.length : Int) := by omega
      have w1 := wrapSucc (show i < 9223372036854775807 by omega)
      simp only [wr_.t0, za', zb', zc', zd', ze', zf', zg', zh', zi', zj', zk', zl', zm', zn', zo', zp', zq', zr', zs', zt', hh, beq_self_eq_true, w1]
      exact ih h
    · have h2 : i = l.length := by omega
      subst h2
      simp only [wr_.t0, za', zb', zc', zd', ze', zf', zg', zh', zi', zj', zk', zl', zm', zn', zo', zp', zq', zr', zs', zt', Int.lt_irrefl]
theorem wdi (K : Nat) (r : Rep) (hK : 1000 ≤ K) : ∃ b, wv_ K r 500 = some b ∧ (b = true → few r.2.2.2.1 70) := by
  obtain ⟨q, h1, h2⟩ := wdc K r.2.2.2.1 70 500 (by decide) (by omega)
  have h1 : ws_ K r.2.2.2.1 70 500 = some q := h1
  by_cases c1 : (r.2.1.length : Int) ≤ 500
  · by_cases c2 : (r.2.2.2.2.1.length : Int) ≤ 500
    · refine ⟨q, ?_, h2⟩
      simp only [wv_, c1, c2, h1, za', zb', zc', zd', ze', zf', zg', zh', zi', zj', zk', zl', zm', zn', zo', zp', zq', zr', zs', zt']
    · refine ⟨false, ?_, fun h => by cases h⟩
      simp only [wv_, c1, c2, za', zb', zc', zd', ze', zf', zg', zh', zi', zj', zk', zl', zm', zn', zo', zp', zq', zr', zs', zt']
  · refine ⟨false, ?_, fun h => by cases h⟩
    simp only [wv_, c1, za', zb', zc', zd', ze', zf', zg', zh', zi', zj', zk', zl', zm', zn', zo', zp', zq', zr', zs', zt']
theorem wer {K : Nat} (hK : 300 ≤ K) : wP_ K = some true := by
  have : ∀ K, wP_ (K + 300) = some true := fun K => by kernel_rfl
  have h := this (K - 300)
  rwa [Nat.sub_add_cancel hK] at h
theorem wcX {K : Nat} (r : Rep) (hl : r.2.2.2.1.length < 1000000) (hK : 1000000 ≤ K) : wM_ K r r = some true := by
  simp only [wM_, eq_self, beq_self_eq_true, za', zb', zc', zd', ze', zf', zg', zh', zi', zj', zk', zl', zm', zn', zo', zp', zq', zr', zs', zt', wcF _ hl hK]
/-! A tag's text. -/
/-! Fields that are dropped and found. -/
theorem wdG (a b : List Fld) (n : List UInt8) : allOf (a ++ b) n = allOf a n ++ allOf b n := by simp only [allOf, List.filter_append, List.map_append]
theorem drop_append (a b : List Fld) (ns : List (List UInt8)) : dropOf (a ++ b) ns = dropOf a ns ++ dropOf b ns := by simp only [dropOf, List.filter_append]
theorem drop_drop (a : List Fld) (ns : List (List UInt8)) : dropOf (dropOf a ns) ns = dropOf a ns := by simp only [dropOf, List.filter_filter, Bool.and_self]
theorem wdM {a b c : List UInt8} (h1 : same a b = true) (h2 : same a c = true) : same b c = true := by
  simp only [same] at *
  have h1 := eq_of_beq h1
  have h2 := eq_of_beq h2
  simp [← h1, ← h2]
theorem wdV (a : List UInt8) : same a a = true := by simp [same]
/-! Merging twice. -/
theorem wdO (c : List Fld) : dropOf c (namesM c) = [] := by
  unfold dropOf
  rw [List.filter_eq_nil_iff]
  intro f hf e
  have : anySame f.1 (namesM c) = true := List.any_eq_true.2 ⟨f.1, List.mem_append.2 (.inr (List.mem_map.2 ⟨f, hf, rfl⟩)), wdV _⟩
  rw [this] at e; cases e
theorem wdq (s n : List Fld) : mergeF (mergeF s n) n = mergeF s n := by
  unfold mergeF
  rw [drop_append, drop_drop, wdO, List.append_nil]
theorem wdu {s n : List Fld} {name : List UInt8} (h1 : anySame name ageDate = false) (h2 : allOf n name = []) : allOf (mergeF s n) name = allOf s name := by
  have hn : ∀ f ∈ n, same f.1 name = false := fun f hf => by
    unfold allOf at h2
    rw [List.map_eq_nil_iff, List.filter_eq_nil_iff] at h2
    have := h2 f hf
    simpa using this
  unfold mergeF
  rw [wdG]
  have hc : allOf (comeO n) name = [] := by
    unfold allOf
    rw [List.map_eq_nil_iff, List.filter_eq_nil_iff]
    intro f hf e
    rw [hn f (wcw hf)] at e; cases e
  rw [hc, List.append_nil]
  unfold allOf dropOf
  rw [List.filter_filter]
  congr 1
  apply List.filter_congr
  intro f _
  cases c : same f.1 name with
  | false => rfl
  | true =>
    have : anySame f.1 (namesM (comeO n)) = false := by
      cases d : anySame f.1 (namesM (comeO n)) with
      | false => rfl
      | true =>
        obtain ⟨x, hx, e⟩ := List.any_eq_true.1 d
        have e2 := wdM c e
        rcases List.mem_append.1 hx with hx | hx
        · have : anySame name ageDate = true := List.any_eq_true.2 ⟨x, hx, e2⟩
          rw [h1] at this; cases this
        · obtain ⟨g, hg, rfl⟩ := List.mem_map.1 hx
          rw [wd3, hn g (wcw hg)] at e2; cases e2
    rw [this]; rfl
end Go.Proofs.X
