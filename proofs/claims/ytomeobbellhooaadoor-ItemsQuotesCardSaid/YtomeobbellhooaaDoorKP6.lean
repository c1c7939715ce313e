/-
  A part of the proof. No condition.
-/
import Derived.Test.YtomeobbellhooaaDoorKP5
import Derived.Test.YtomeobbellhooaaDoorFc
/- Chapter 06: the laws ItemsSplits, ItemsQuotes, ItemsBack and ItemsJoined, as plain Lean. -/
set_option linter.unusedSimpArgs false
set_option linter.unusedVariables false
namespace Go.Proofs.X
open Go Go.Dp

theorem splits_ok (K : Nat) (hK : 100 ≤ K) : depotlaw06_splits K = some true := by
  have : ∀ K, depotlaw06_splits (K + 100) = some true := fun K => by kernel_rfl
  have h := this (K - 100)
  rwa [Nat.sub_add_cancel hK] at h

theorem itemsSplits_pure (a0 a1 : List UInt8) : ∃ k, depotlaw06_ItemsSplits k a0 a1 = some true := by
  refine ⟨100000000, ?_⟩
  have hs := splits_ok 100000000 (by decide)
  by_cases h0 : (a0.length : Int) > 2000
  · simp only [depotlaw06_ItemsSplits, h0, hs, bind_some', cond_true, cond_false, decide_true, decide_false, Bool.not_true, Bool.not_false, Bool.true_and, Bool.and_true, Bool.and_false, Bool.false_and, Int.toNat_natCast, Int.natCast_nonneg, if_true, if_false, Bool.false_eq_true, Int.toNat_zero, Int.natCast_zero, not_false_eq_true, not_true_eq_false, ite_true, ite_false]
  by_cases h1 : (a1.length : Int) > 2000
  · simp only [depotlaw06_ItemsSplits, h0, h1, hs, bind_some', cond_true, cond_false, decide_true, decide_false, Bool.not_true, Bool.not_false, Bool.true_and, Bool.and_true, Bool.and_false, Bool.false_and, Int.toNat_natCast, Int.natCast_nonneg, if_true, if_false, Bool.false_eq_true, Int.toNat_zero, Int.natCast_zero, not_false_eq_true, not_true_eq_false, ite_true, ite_false]
  have hc := splitS_count a0
  have hi : ∀ v ∈ (splitS a0).1, v.length ≤ 2000 := fun v hv => by have := splitS_items a0 v hv; omega
  simp only [depotlaw06_ItemsSplits, h0, h1, hs, bind_some', cond_true, cond_false, decide_true, decide_false, Bool.not_true, Bool.not_false, Bool.true_and, Bool.and_true, Bool.and_false, Bool.false_and, Int.toNat_natCast, Int.natCast_nonneg, if_true, if_false, Bool.false_eq_true, Int.toNat_zero, Int.natCast_zero, not_false_eq_true, not_true_eq_false, ite_true, ite_false, items_Split_ok (K := 100000000) (s := a0) (by omega) (by omega), ref06_Split_ok (K := 100000000) (s := a0) (by omega) (by omega),
    ref06_Same_self (K := 100000000) (splitS a0).1 (by omega) (by omega), items_Has_ok (K := 100000000) (v := a0) (item := a1) (by omega) (by omega) (by omega), ref06_Has_ok (K := 100000000) (v := a0) (item := a1) (by omega) (by omega) (by omega),
    beq_self_eq_true, items_Join, joinS_eq (K := 100000000) (l := (splitS a0).1) (sep := [44, 32]) (by omega) 2000 (by omega) (by decide) hi, ref06_Join_ok (K := 100000000) (l := (splitS a0).1) (by omega) 2000 (by omega) hi (by omega), sep2, eq_self]

theorem itemsQuotes_pure (a0 : List UInt8) : ∃ k, depotlaw06_ItemsQuotes k a0 = some true := by
  refine ⟨100000000, ?_⟩
  have hs := splits_ok 100000000 (by decide)
  by_cases h0 : (a0.length : Int) > 1000
  · simp only [depotlaw06_ItemsQuotes, h0, hs, bind_some', cond_true, cond_false, decide_true, decide_false, Bool.not_true, Bool.not_false, Bool.true_and, Bool.and_true, Bool.and_false, Bool.false_and, Int.toNat_natCast, Int.natCast_nonneg, if_true, if_false, Bool.false_eq_true, Int.toNat_zero, Int.natCast_zero, not_false_eq_true, not_true_eq_false, ite_true, ite_false]
  simp only [depotlaw06_ItemsQuotes, h0, hs, bind_some', cond_true, cond_false, decide_true, decide_false, Bool.not_true, Bool.not_false, Bool.true_and, Bool.and_true, Bool.and_false, Bool.false_and, Int.toNat_natCast, Int.natCast_nonneg, if_true, if_false, Bool.false_eq_true, Int.toNat_zero, Int.natCast_zero, not_false_eq_true, not_true_eq_false, ite_true, ite_false, itemsUnquote_eq (K := 100000000) (s := a0) (by omega), ref06_Unquote_ok (K := 100000000) (s := a0) (by omega) (by omega), items_Param_ok (K := 100000000) (s := a0) (by omega) (by omega), ref06_Param_ok (K := 100000000) (s := a0) (by omega) (by omega),
    itemsQuote_eq (K := 100000000) (s := a0) (by omega), ref06_Quote_ok (K := 100000000) (s := a0) (by omega) (by omega), beq_self_eq_true, eq_self]

theorem paramS_quoted (s name : List UInt8) (h : isTok name = true) : paramS (name ++ 61 :: quoteL s) = (lower name, s, true, 0, ()) := by
  have h1 : name.all tok = true := by simp only [isTok, Bool.and_eq_true] at h; exact h.2
  have h2 : isTok (quoteL s) = false := by
    simp only [isTok, quoteL, List.all_cons, show tok 34 = false from by kernel_rfl, Bool.false_and, Bool.and_false]
  unfold paramS
  rw [cutAt_append _ _ _ (not_contains_tok h1)]
  simp only [h, h2, and_self, if_true, Bool.true_eq_false, if_false, unquote_quote]
theorem paramS_bad (s : List UInt8) : (paramS s).2.2.2.1 = 5 ∨ (paramS s).1 ≠ [] := by
  unfold paramS
  split
  · exact .inl rfl
  · rename_i h
    have hl : lower (cutAt s 61).1 ≠ [] := by
      intro e
      have : (cutAt s 61).1 = [] := by simpa [lower] using e
      rw [this] at h; exact h rfl
    split
    · split
      · exact .inr hl
      · rename_i h2
        rcases unquoteL_err (cutAt s 61).2.1 with h3 | h3
        · exact absurd h3 h2
        · left; rw [h3]
    · exact .inr hl

theorem itemsBack_pure (a0 a1 : List UInt8) : ∃ k, depotlaw06_ItemsBack k a0 a1 = some true := by
  refine ⟨100000000, ?_⟩
  have hs := splits_ok 100000000 (by decide)
  by_cases h0 : (a0.length : Int) > 500
  · simp only [depotlaw06_ItemsBack, h0, hs, bind_some', cond_true, cond_false, decide_true, decide_false, Bool.not_true, Bool.not_false, Bool.true_and, Bool.and_true, Bool.and_false, Bool.false_and, Int.toNat_natCast, Int.natCast_nonneg, if_true, if_false, Bool.false_eq_true, Int.toNat_zero, Int.natCast_zero, not_false_eq_true, not_true_eq_false, ite_true, ite_false]
  by_cases h1 : (a1.length : Int) > 500
  · simp only [depotlaw06_ItemsBack, h0, h1, hs, bind_some', cond_true, cond_false, decide_true, decide_false, Bool.not_true, Bool.not_false, Bool.true_and, Bool.and_true, Bool.and_false, Bool.false_and, Int.toNat_natCast, Int.natCast_nonneg, if_true, if_false, Bool.false_eq_true, Int.toNat_zero, Int.natCast_zero, not_false_eq_true, not_true_eq_false, ite_true, ite_false]
  have hq := quoteL_len a0
  have hq2 := quoteIn_len a0
  have e1 : (a1 ++ [61]) ++ quoteL a0 = a1 ++ 61 :: quoteL a0 := by simp
  have m1 : a1.length + 1 ≤ maxRoom := by simp only [maxRoom]; omega
  have m2 : (a1 ++ [61]).length + (quoteL a0).length ≤ maxRoom := by simp [maxRoom]; omega
  simp only [depotlaw06_ItemsBack, h0, h1, hs, bind_some', cond_true, cond_false, decide_true, decide_false, Bool.not_true, Bool.not_false, Bool.true_and, Bool.and_true, Bool.and_false, Bool.false_and, Int.toNat_natCast, Int.natCast_nonneg, if_true, if_false, Bool.false_eq_true, Int.toNat_zero, Int.natCast_zero, not_false_eq_true, not_true_eq_false, ite_true, ite_false, itemsQuote_eq (K := 100000000) (s := a0) (by omega), itemsUnquote_eq (K := 100000000) (s := quoteL a0) (by omega), unquote_quote, items_Split_ok (K := 100000000) (s := quoteL a0) (by omega) (by omega), splitS_one _ (goodI_quoteL a0),
    beq_self_eq_true, eq_self, List.length_cons, List.length_nil, Nat.zero_add, Int.natCast_one, Int.le_refl, Nat.le_refl, show (0 : Int) < 1 by decide, List.getD_cons_zero, m1, m2, e1,
    items_Param_ok (K := 100000000) (s := a1 ++ 61 :: quoteL a0) (by simp; omega) (by omega), octet_IsToken_ok (K := 100000000) (s := a1) (by omega) (by omega)]
  cases c : isTok a1
  · rcases paramS_bad (a1 ++ 61 :: quoteL a0) with h2 | h2
    · simp only [bind_some', cond_true, cond_false, decide_true, decide_false, Bool.not_true, Bool.not_false, Bool.true_and, Bool.and_true, Bool.and_false, Bool.false_and, Int.toNat_natCast, Int.natCast_nonneg, if_true, if_false, Bool.false_eq_true, Int.toNat_zero, Int.natCast_zero, not_false_eq_true, not_true_eq_false, ite_true, ite_false, h2, eq_self]
    · have h3 : ((paramS (a1 ++ 61 :: quoteL a0)).1 == []) = false := by simpa using h2
      by_cases h4 : (paramS (a1 ++ 61 :: quoteL a0)).2.2.2.1 = 5 <;> simp only [bind_some', cond_true, cond_false, decide_true, decide_false, Bool.not_true, Bool.not_false, Bool.true_and, Bool.and_true, Bool.and_false, Bool.false_and, Int.toNat_natCast, Int.natCast_nonneg, if_true, if_false, Bool.false_eq_true, Int.toNat_zero, Int.natCast_zero, not_false_eq_true, not_true_eq_false, ite_true, ite_false, h3, h4]
  · simp only [bind_some', cond_true, cond_false, decide_true, decide_false, Bool.not_true, Bool.not_false, Bool.true_and, Bool.and_true, Bool.and_false, Bool.false_and, Int.toNat_natCast, Int.natCast_nonneg, if_true, if_false, Bool.false_eq_true, Int.toNat_zero, Int.natCast_zero, not_false_eq_true, not_true_eq_false, ite_true, ite_false, paramS_quoted a0 a1 c, octet_Lower_ok (K := 100000000) (s := a1) (by omega) (by omega), beq_self_eq_true, eq_self]

def inn (l : List (List UInt8)) : List (List UInt8) := l.map fun x => if isTok x then x else quoteL x
theorem inn_good (l : List (List UInt8)) : ∀ x ∈ inn l, goodI x := by
  intro x hx
  obtain ⟨y, _, rfl⟩ := List.mem_map.1 hx
  by_cases h : isTok y = true
  · rw [if_pos h]; exact goodI_tok h
  · rw [if_neg h]; exact goodI_quoteL y
theorem inn_len (l : List (List UInt8)) (b : Nat) (h : ∀ x ∈ l, x.length ≤ b) : ∀ x ∈ inn l, x.length ≤ 2 * b + 2 := by
  intro x hx
  obtain ⟨y, hy, rfl⟩ := List.mem_map.1 hx
  have h1 := h y hy
  split
  · omega
  · have := quoteIn_len y
    rw [quoteL_len]; omega
theorem joined_l0 {K : Nat} (a0 a1 : List (List UInt8)) (e : Int) (hK : 1000000 ≤ K) (hl : a1.length < 100000) (hg : ∀ x ∈ a1, goodI x ∧ x.length < 100000) (he : a1 ≠ [] → e = 0) :
    depotlaw06_ItemsJoined.l0 K K ((a0, (a1, (e, (0, ())))), ()) = some (.inl ((a0, (a1, ())), ())) := by
  have H := idx_rule (l := depotlaw06_ItemsJoined.l0 K) (depotlaw06_ItemsJoined.t0 K) (fun _ _ => rfl) a1.length
    (fun i => ((a0, (a1, (e, ((i : Int), ())))), ())) (fun i => .inl ((a0, (a1, ())), ())) ?_ K 0 (by omega) (by omega)
  · exact H
  · intro i rec hi ih
    by_cases h : i < a1.length
    · have hh : (i : Int) < (a1.length : Int) := by omega
      have w1 := wrapSucc (show i < 9223372036854775807 by omega)
      obtain ⟨g, hb⟩ := hg _ (getD_mem a1 [] h)
      have e0 : e = 0 := he (by intro e; subst e; simp at h)
      have g2 : (a1.getD i [] == []) = false := by simpa using g.2.2
      simp only [depotlaw06_ItemsJoined.t0, bind_some', cond_true, cond_false, decide_true, decide_false, Bool.not_true, Bool.not_false, Bool.true_and, Bool.and_true, Bool.and_false, Bool.false_and, Int.toNat_natCast, Int.natCast_nonneg, if_true, if_false, Bool.false_eq_true, Int.toNat_zero, Int.natCast_zero, not_false_eq_true, not_true_eq_false, ite_true, ite_false, hh, octet_Trim_ok (K := K) (s := a1.getD i []) (by omega) (by omega), g.2.1, beq_self_eq_true, g2, e0, eq_self, w1]
      rw [e0] at ih
      exact ih h
    · have h2 : i = a1.length := by omega
      subst h2
      simp only [depotlaw06_ItemsJoined.t0, bind_some', cond_true, cond_false, decide_true, decide_false, Bool.not_true, Bool.not_false, Bool.true_and, Bool.and_true, Bool.and_false, Bool.false_and, Int.toNat_natCast, Int.natCast_nonneg, if_true, if_false, Bool.false_eq_true, Int.toNat_zero, Int.natCast_zero, not_false_eq_true, not_true_eq_false, ite_true, ite_false, Int.lt_irrefl]
theorem joined_l1 {K : Nat} (a0 a1 : List (List UInt8)) (hK : 1000000 ≤ K) (hl : a0.length ≤ 30) (hs : depotlaw06_splits K = some true) :
    ∃ r, depotlaw06_ItemsJoined.l1 K K ((a0, (a1, ((), (0, ())))), ([], ())) = some r ∧ ((r = .inl ((a1, ((), ())), (inn a0, ())) ∧ ∀ x ∈ a0, x.length ≤ 100) ∨ ∃ y, r = .inr ((true, ()), y)) := by
  have H := idx_ex (l := depotlaw06_ItemsJoined.l1 K) (depotlaw06_ItemsJoined.t1 K) (fun _ _ => rfl) a0.length
    (fun i => ((a0, (a1, ((), ((i : Int), ())))), (inn (a0.take i), ()))) (fun i => ∀ x ∈ a0.take i, x.length ≤ 100)
    (fun r => (r = .inl ((a1, ((), ())), (inn a0, ())) ∧ ∀ x ∈ a0, x.length ≤ 100) ∨ ∃ y, r = .inr ((true, ()), y)) ?_ K 0 (by omega) (by omega) (by simp)
  · exact H
  · intro i rec hi hI ih
    by_cases h : i < a0.length
    · have hh : (i : Int) < (a0.length : Int) := by omega
      have w1 := wrapSucc (show i < 9223372036854775807 by omega)
      have hmax : ((inn (a0.take i)).length + 1) * 16 ≤ maxRoom := by simp [inn, maxRoom]; omega
      by_cases c : ((a0.getD i []).length : Int) > 100
      · simp only [depotlaw06_ItemsJoined.t1, bind_some', cond_true, cond_false, decide_true, decide_false, Bool.not_true, Bool.not_false, Bool.true_and, Bool.and_true, Bool.and_false, Bool.false_and, Int.toNat_natCast, Int.natCast_nonneg, if_true, if_false, Bool.false_eq_true, Int.toNat_zero, Int.natCast_zero, not_false_eq_true, not_true_eq_false, ite_true, ite_false, hh, c, hs]
        exact ⟨_, rfl, .inr ⟨_, rfl⟩⟩
      · have ih' := ih h (by
          rw [take_get a0 [] h]
          intro x hx
          rcases List.mem_append.1 hx with hx | hx
          · exact hI x hx
          · obtain rfl := List.mem_singleton.1 hx; omega)
        rw [take_get a0 [] h] at ih'
        simp only [inn, List.map_append, List.map_cons, List.map_nil] at ih'
        simp only [inn, List.length_map] at hmax
        simp only [depotlaw06_ItemsJoined.t1, bind_some', cond_true, cond_false, decide_true, decide_false, Bool.not_true, Bool.not_false, Bool.true_and, Bool.and_true, Bool.and_false, Bool.false_and, Int.toNat_natCast, Int.natCast_nonneg, if_true, if_false, Bool.false_eq_true, Int.toNat_zero, Int.natCast_zero, not_false_eq_true, not_true_eq_false, ite_true, ite_false, hh, c, octet_IsToken_ok (K := K) (s := a0.getD i []) (by omega) (by omega), itemsQuote_eq (K := K) (s := a0.getD i []) (by omega), inn, List.length_map]
        cases c2 : isTok (a0.getD i [])
        · rw [c2] at ih'
          simp only [bind_some', cond_true, cond_false, decide_true, decide_false, Bool.not_true, Bool.not_false, Bool.true_and, Bool.and_true, Bool.and_false, Bool.false_and, Int.toNat_natCast, Int.natCast_nonneg, if_true, if_false, Bool.false_eq_true, Int.toNat_zero, Int.natCast_zero, not_false_eq_true, not_true_eq_false, ite_true, ite_false, hmax, w1]
          exact ih'
        · rw [c2] at ih'
          simp only [bind_some', cond_true, cond_false, decide_true, decide_false, Bool.not_true, Bool.not_false, Bool.true_and, Bool.and_true, Bool.and_false, Bool.false_and, Int.toNat_natCast, Int.natCast_nonneg, if_true, if_false, Bool.false_eq_true, Int.toNat_zero, Int.natCast_zero, not_false_eq_true, not_true_eq_false, ite_true, ite_false, hmax, w1]
          exact ih'
    · have h2 : i = a0.length := by omega
      subst h2
      simp only [depotlaw06_ItemsJoined.t1, bind_some', cond_true, cond_false, decide_true, decide_false, Bool.not_true, Bool.not_false, Bool.true_and, Bool.and_true, Bool.and_false, Bool.false_and, Int.toNat_natCast, Int.natCast_nonneg, if_true, if_false, Bool.false_eq_true, Int.toNat_zero, Int.natCast_zero, not_false_eq_true, not_true_eq_false, ite_true, ite_false, Int.lt_irrefl, List.take_length]
      exact ⟨_, rfl, .inl ⟨rfl, by simpa using hI⟩⟩
theorem itemsJoined_pure (a0 : List (List UInt8)) (a1 : List UInt8) : ∃ k, depotlaw06_ItemsJoined k a0 a1 = some true := by
  refine ⟨100000000, ?_⟩
  have hs := splits_ok 100000000 (by decide)
  by_cases h0 : (a0.length : Int) > 30
  · simp only [depotlaw06_ItemsJoined, depotlaw06_ItemsJoined.tr, h0, hs, bind_some', cond_true, cond_false, decide_true, decide_false, Bool.not_true, Bool.not_false, Bool.true_and, Bool.and_true, Bool.and_false, Bool.false_and, Int.toNat_natCast, Int.natCast_nonneg, if_true, if_false, Bool.false_eq_true, Int.toNat_zero, Int.natCast_zero, not_false_eq_true, not_true_eq_false, ite_true, ite_false]
  by_cases h1 : (a1.length : Int) > 1000
  · simp only [depotlaw06_ItemsJoined, depotlaw06_ItemsJoined.tr, h0, h1, hs, bind_some', cond_true, cond_false, decide_true, decide_false, Bool.not_true, Bool.not_false, Bool.true_and, Bool.and_true, Bool.and_false, Bool.false_and, Int.toNat_natCast, Int.natCast_nonneg, if_true, if_false, Bool.false_eq_true, Int.toNat_zero, Int.natCast_zero, not_false_eq_true, not_true_eq_false, ite_true, ite_false]
  have hc := splitS_count a1
  have hi : ∀ v ∈ (splitS a1).1, v.length ≤ 1000 := fun v hv => by have := splitS_items a1 v hv; omega
  have hg := splitS_good a1
  have H0 := joined_l0 (K := 100000000) a0 (splitS a1).1 (splitS a1).2.1 (by omega) (by omega) (fun x hx => ⟨hg x hx, by have := hi x hx; omega⟩) (fun hne => by
    rcases splitS_err a1 with h | h
    · exact h
    · exact absurd h.2 hne)
  obtain ⟨r, H1, hr⟩ := joined_l1 (K := 100000000) a0 (splitS a1).1 (by omega) (by omega) hs
  simp only [depotlaw06_ItemsJoined, depotlaw06_ItemsJoined.tr, h0, h1, hs, bind_some', cond_true, cond_false, decide_true, decide_false, Bool.not_true, Bool.not_false, Bool.true_and, Bool.and_true, Bool.and_false, Bool.false_and, Int.toNat_natCast, Int.natCast_nonneg, if_true, if_false, Bool.false_eq_true, Int.toNat_zero, Int.natCast_zero, not_false_eq_true, not_true_eq_false, ite_true, ite_false, items_Split_ok (K := 100000000) (s := a1) (by omega) (by omega), H0, H1]
  rcases hr with ⟨rfl, hr⟩ | ⟨y, rfl⟩
  · have hl := inn_len a0 100 hr
    have hn : (inn a0).length = a0.length := by simp [inn]
    have j1 := join_len (inn a0) sep2 202 (fun v hv => hl v hv)
    have j2 := join_len (splitS a1).1 sep2 1000 hi
    have es : sep2.length = 2 := rfl
    have b1 : (inn a0).length * (202 + sep2.length) ≤ 30 * 204 := Nat.mul_le_mul (by omega) (by omega)
    have b2 : (splitS a1).1.length * (1000 + sep2.length) ≤ 1001 * 1002 := Nat.mul_le_mul (by omega) (by omega)
    simp only [items_Join, joinS_eq (K := 100000000) (l := inn a0) (sep := [44, 32]) (by omega) 1000 (by omega) (by decide) (fun v hv => by have := hl v hv; omega), joinS_eq (K := 100000000) (l := (splitS a1).1) (sep := [44, 32]) (by omega) 1000 (by omega) (by decide) hi, bind_some', cond_true, cond_false, decide_true, decide_false, Bool.not_true, Bool.not_false, Bool.true_and, Bool.and_true, Bool.and_false, Bool.false_and, Int.toNat_natCast, Int.natCast_nonneg, if_true, if_false, Bool.false_eq_true, Int.toNat_zero, Int.natCast_zero, not_false_eq_true, not_true_eq_false, ite_true, ite_false]
    have k1 : items_Split 100000000 (Lib.join (inn a0) [44, 32]) = some (splitS (Lib.join (inn a0) sep2)) := items_Split_ok (K := 100000000) (s := Lib.join (inn a0) sep2) (by omega) (by omega)
    have k2 : items_Split 100000000 (Lib.join (splitS a1).1 [44, 32]) = some (splitS (Lib.join (splitS a1).1 sep2)) := items_Split_ok (K := 100000000) (s := Lib.join (splitS a1).1 sep2) (by omega) (by omega)
    simp only [k1, k2, bind_some', cond_true, cond_false, decide_true, decide_false, Bool.not_true, Bool.not_false, Bool.true_and, Bool.and_true, Bool.and_false, Bool.false_and, Int.toNat_natCast, Int.natCast_nonneg, if_true, if_false, Bool.false_eq_true, Int.toNat_zero, Int.natCast_zero, not_false_eq_true, not_true_eq_false, ite_true, ite_false, split_join _ (inn_good a0), split_join _ hg, eq_self, ref06_Same_self (K := 100000000) (inn a0) (by omega) (by omega), ref06_Same_self (K := 100000000) (splitS a1).1 (by omega) (by omega), hs]
  · simp only [bind_some', cond_true, cond_false, decide_true, decide_false, Bool.not_true, Bool.not_false, Bool.true_and, Bool.and_true, Bool.and_false, Bool.false_and, Int.toNat_natCast, Int.natCast_nonneg, if_true, if_false, Bool.false_eq_true, Int.toNat_zero, Int.natCast_zero, not_false_eq_true, not_true_eq_false, ite_true, ite_false]
end Go.Proofs.X
