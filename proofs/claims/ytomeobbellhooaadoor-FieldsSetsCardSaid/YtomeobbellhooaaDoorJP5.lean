/-
  A part of the proof. No condition.
-/
import Derived.Test.YtomeobbellhooaaDoorJP4
import Derived.Test.YtomeobbellhooaaDoorFc
/- Chapter 09: the laws FieldsParses, FieldsAsks, FieldsTurns, FieldsBack and FieldsSets, as plain Lean. -/
set_option linter.unusedSimpArgs false
set_option linter.unusedVariables false
namespace Go.Proofs.X
open Go Go.Dp

theorem heads_ok (K : Nat) (hK : 100 ≤ K) : depotlaw09_heads K = some true := by
  have : ∀ K, depotlaw09_heads (K + 100) = some true := fun K => by kernel_rfl
  have h := this (K - 100)
  rwa [Nat.sub_add_cancel hK] at h
theorem sized_of {l : List Fld} {m b : Nat} (h : l.length ≤ m ∧ ∀ f ∈ l, small b f) (hm : m < 1000000) (hb : b < 100000) : sized l :=
  ⟨by have := h.1; omega, fun f hf => by have := h.2 f hf; simp only [small] at this; omega⟩

theorem fieldsParses_pure (a0 : List UInt8) (a1 : List Fld) : ∃ k, depotlaw09_FieldsParses k a0 a1 = some true := by
  refine ⟨100000000, ?_⟩
  have hs := heads_ok 100000000 (by decide)
  by_cases h0 : (a0.length : Int) > 10000
  · simp only [depotlaw09_FieldsParses, depotlaw09_FieldsParses.tr, h0, hs, bind_some', cond_true, cond_false, decide_true, decide_false, Bool.not_true, Bool.not_false, Bool.true_and, Bool.and_true, Bool.and_false, Bool.false_and, Int.toNat_natCast, Int.natCast_nonneg, if_true, if_false, Bool.false_eq_true, Int.toNat_zero, Int.natCast_zero, not_false_eq_true, not_true_eq_false, ite_true, ite_false]
  obtain ⟨r, h1, h2⟩ := ref09_Few_ok 100000000 a1 70 9000 (by decide) (by decide)
  have h1 : depotref09_Few 100000000 a1 70 9000 = some r := h1
  cases r with
  | false => simp only [depotlaw09_FieldsParses, depotlaw09_FieldsParses.tr, h0, h1, hs, bind_some', cond_true, cond_false, decide_true, decide_false, Bool.not_true, Bool.not_false, Bool.true_and, Bool.and_true, Bool.and_false, Bool.false_and, Int.toNat_natCast, Int.natCast_nonneg, if_true, if_false, Bool.false_eq_true, Int.toNat_zero, Int.natCast_zero, not_false_eq_true, not_true_eq_false, ite_true, ite_false]
  | true =>
    have hz := sized_of (h2 rfl) (by decide) (by decide)
    have hl : ∀ (e1 e2 : Int) (p1 p2 : Fld), depotlaw09_FieldsParses.l0 100000000 100000000 ((a1, (0, (e1, (0, (e2, (0, ())))))), (p1, (p2, ()))) = some (.inl ((a1, (0, (e1, (0, (e2, ()))))), (p1, (p2, ())))) := by
      intro e1 e2 p1 p2
      have hlen := hz.1
      refine idx_rule (l := depotlaw09_FieldsParses.l0 100000000) (depotlaw09_FieldsParses.t0 100000000) (fun _ _ => rfl) a1.length
        (fun i => ((a1, (0, (e1, (0, (e2, ((i : Int), ())))))), (p1, (p2, ())))) (fun i => .inl ((a1, (0, (e1, (0, (e2, ()))))), (p1, (p2, ())))) ?_ 100000000 0 (by omega) (by omega)
      intro i rec hi ih
      by_cases h : i < a1.length
      · have hh : (i : Int) < (a1.length : Int) := by omega
        have w1 := wrapSucc (show i < 9223372036854775807 by omega)
        have hm := hz.2 _ (getD_mem a1 (([], [], ()) : Fld) h)
        simp only [depotlaw09_FieldsParses.t0, bind_some', cond_true, cond_false, decide_true, decide_false, Bool.not_true, Bool.not_false, Bool.true_and, Bool.and_true, Bool.and_false, Bool.false_and, Int.toNat_natCast, Int.natCast_nonneg, if_true, if_false, Bool.false_eq_true, Int.toNat_zero, Int.natCast_zero, not_false_eq_true, not_true_eq_false, ite_true, ite_false, hh, w1, fld_eta, fields_Line_ok (K := 100000000) (f := a1.getD i (([], [], ()) : Fld)) (by omega) (by omega), ref09_Line_ok (K := 100000000) (f := a1.getD i (([], [], ()) : Fld)) (by omega) (by omega), beq_self_eq_true]
        exact ih h
      · have h2 : i = a1.length := by omega
        subst h2
        simp only [depotlaw09_FieldsParses.t0, bind_some', cond_true, cond_false, decide_true, decide_false, Bool.not_true, Bool.not_false, Bool.true_and, Bool.and_true, Bool.and_false, Bool.false_and, Int.toNat_natCast, Int.natCast_nonneg, if_true, if_false, Bool.false_eq_true, Int.toNat_zero, Int.natCast_zero, not_false_eq_true, not_true_eq_false, ite_true, ite_false, Int.lt_irrefl]
    simp only [depotlaw09_FieldsParses, depotlaw09_FieldsParses.tr, h0, h1, hs, bind_some', cond_true, cond_false, decide_true, decide_false, Bool.not_true, Bool.not_false, Bool.true_and, Bool.and_true, Bool.and_false, Bool.false_and, Int.toNat_natCast, Int.natCast_nonneg, if_true, if_false, Bool.false_eq_true, Int.toNat_zero, Int.natCast_zero, not_false_eq_true, not_true_eq_false, ite_true, ite_false, fields_Parse_ok (K := 100000000) (s := a0) (by omega) (by decide), ref09_Parse_ok (K := 100000000) (s := a0) (by omega) (by decide), hl, beq_self_eq_true, fields_Check_ok hz (show 1000000 + 100 ≤ 100000000 by decide), ref09_Check_ok hz (show 1000000 + 100 ≤ 100000000 by decide)]

theorem fieldsAsks_pure (a0 : List Fld) (a1 a2 : List UInt8) : ∃ k, depotlaw09_FieldsAsks k a0 a1 a2 = some true := by
  refine ⟨100000000, ?_⟩
  have hs := heads_ok 100000000 (by decide)
  obtain ⟨r, h1, h2⟩ := ref09_Few_ok 100000000 a0 70 500 (by decide) (by decide)
  have h1 : depotref09_Few 100000000 a0 70 500 = some r := h1
  cases r with
  | false => simp only [depotlaw09_FieldsAsks, h1, hs, bind_some', cond_true, cond_false, decide_true, decide_false, Bool.not_true, Bool.not_false, Bool.true_and, Bool.and_true, Bool.and_false, Bool.false_and, Int.toNat_natCast, Int.natCast_nonneg, if_true, if_false, Bool.false_eq_true, Int.toNat_zero, Int.natCast_zero, not_false_eq_true, not_true_eq_false, ite_true, ite_false]
  | true =>
    have hz := sized_of (h2 rfl) (by decide) (by decide)
    by_cases h3 : (a1.length : Int) > 500
    · simp only [depotlaw09_FieldsAsks, h1, h3, hs, bind_some', cond_true, cond_false, decide_true, decide_false, Bool.not_true, Bool.not_false, Bool.true_and, Bool.and_true, Bool.and_false, Bool.false_and, Int.toNat_natCast, Int.natCast_nonneg, if_true, if_false, Bool.false_eq_true, Int.toNat_zero, Int.natCast_zero, not_false_eq_true, not_true_eq_false, ite_true, ite_false]
    · by_cases h4 : (a2.length : Int) > 500
      · simp only [depotlaw09_FieldsAsks, h1, h3, h4, hs, bind_some', cond_true, cond_false, decide_true, decide_false, Bool.not_true, Bool.not_false, Bool.true_and, Bool.and_true, Bool.and_false, Bool.false_and, Int.toNat_natCast, Int.natCast_nonneg, if_true, if_false, Bool.false_eq_true, Int.toNat_zero, Int.natCast_zero, not_false_eq_true, not_true_eq_false, ite_true, ite_false]
      · have hf : ∀ f ∈ a0, f.1.length < 1000000 := fun f hf => by have := (hz.2 f hf).1; omega
        have hal := allOf_len a0 a1
        have hzl := hz.1
        simp only [depotlaw09_FieldsAsks, h1, h3, h4, hs, bind_some', cond_true, cond_false, decide_true, decide_false, Bool.not_true, Bool.not_false, Bool.true_and, Bool.and_true, Bool.and_false, Bool.false_and, Int.toNat_natCast, Int.natCast_nonneg, if_true, if_false, Bool.false_eq_true, Int.toNat_zero, Int.natCast_zero, not_false_eq_true, not_true_eq_false, ite_true, ite_false, fields_Get_ok (K := 100000000) (name := a1) hz (by omega) (by decide), ref09_Get_ok (K := 100000000) (name := a1) hz (by omega) (by decide), fields_All_ok (K := 100000000) (name := a1) hz.1 hf (by omega) (by decide), ref09_All_ok (K := 100000000) (name := a1) hz.1 hf (by omega) (by decide),
          ref06_Same_self (K := 100000000) (allOf a0 a1) (by omega) (by decide), beq_self_eq_true, fields_Has_ok (K := 100000000) (name := a1) (item := a2) hz (by omega) (by omega) (by decide), ref09_Has_ok (K := 100000000) (name := a1) (item := a2) hz (by omega) (by omega) (by decide)]

theorem dropOf_len' (l : List Fld) (n : List (List UInt8)) : (dropOf l n).length ≤ l.length := List.length_filter_le _ _
theorem bound_of (l : List (List UInt8)) : ∃ M : Nat, ∀ n ∈ l, n.length < M := by
  induction l with
  | nil => exact ⟨0, fun n h => by cases h⟩
  | cons x l ih =>
    obtain ⟨M, h⟩ := ih
    refine ⟨M + x.length + 1, fun n hn => ?_⟩
    rcases List.mem_cons.1 hn with rfl | hn
    · omega
    · have := h n hn; omega
theorem sr_len (f : Fld) (l : List Fld) : ∀ p, (sr f p l).length ≤ l.length + 1 := by
  induction l with
  | nil => intro p; cases p <;> simp [sr]
  | cons x r ih =>
    intro p
    have h1 := ih p
    have h2 := ih true
    simp only [sr]
    split
    · split <;> simp <;> omega
    · simp; omega
theorem sr_mem (f : Fld) (l : List Fld) : ∀ p, ∀ x ∈ sr f p l, x = f ∨ x ∈ l := by
  induction l with
  | nil => intro p x hx; cases p <;> simp [sr] at hx; exact .inl hx
  | cons y r ih =>
    intro p x hx
    simp only [sr] at hx
    split at hx
    · split at hx
      · rcases ih _ x hx with h | h
        · exact .inl h
        · exact .inr (List.mem_cons_of_mem _ h)
      · rcases List.mem_cons.1 hx with rfl | hx
        · exact .inl rfl
        · rcases ih _ x hx with h | h
          · exact .inl h
          · exact .inr (List.mem_cons_of_mem _ h)
    · rcases List.mem_cons.1 hx with rfl | hx
      · exact .inr List.mem_cons_self
      · rcases ih _ x hx with h | h
        · exact .inl h
        · exact .inr (List.mem_cons_of_mem _ h)

theorem fieldsTurns_at (K : Nat) (hK1 : 100000000 ≤ K) (a0 : List Fld) (a1 : List (List UInt8)) (a2 : Fld) (a3 : List Fld) (hN : ∀ n ∈ a1, n.length < K ∧ n.length < 9223372036854775808) : depotlaw09_FieldsTurns K a0 a1 a2 a3 = some true := by
  have hs := heads_ok K (by omega)
  obtain ⟨r, h1, h2⟩ := ref09_Few_ok K a0 70 500 (by decide) (by omega)
  have h1 : depotref09_Few K a0 70 500 = some r := h1
  cases r with
  | false => simp only [depotlaw09_FieldsTurns, h1, hs, bind_some', cond_true, cond_false, decide_true, decide_false, Bool.not_true, Bool.not_false, Bool.true_and, Bool.and_true, Bool.and_false, Bool.false_and, Int.toNat_natCast, Int.natCast_nonneg, if_true, if_false, Bool.false_eq_true, Int.toNat_zero, Int.natCast_zero, not_false_eq_true, not_true_eq_false, ite_true, ite_false]
  | true =>
    obtain ⟨r3, h3, h4⟩ := ref09_Few_ok K a3 70 500 (by decide) (by omega)
    have h3 : depotref09_Few K a3 70 500 = some r3 := h3
    cases r3 with
    | false => simp only [depotlaw09_FieldsTurns, h1, h3, hs, bind_some', cond_true, cond_false, decide_true, decide_false, Bool.not_true, Bool.not_false, Bool.true_and, Bool.and_true, Bool.and_false, Bool.false_and, Int.toNat_natCast, Int.natCast_nonneg, if_true, if_false, Bool.false_eq_true, Int.toNat_zero, Int.natCast_zero, not_false_eq_true, not_true_eq_false, ite_true, ite_false]
    | true =>
      by_cases h5 : (a1.length : Int) > 20
      · simp only [depotlaw09_FieldsTurns, h1, h3, h5, hs, bind_some', cond_true, cond_false, decide_true, decide_false, Bool.not_true, Bool.not_false, Bool.true_and, Bool.and_true, Bool.and_false, Bool.false_and, Int.toNat_natCast, Int.natCast_nonneg, if_true, if_false, Bool.false_eq_true, Int.toNat_zero, Int.natCast_zero, not_false_eq_true, not_true_eq_false, ite_true, ite_false]
      · obtain ⟨r2, h6, h7⟩ := ref09_Few_ok K [a2] 1 500 (by decide) (by omega)
        have h6 : depotref09_Few K [a2] 1 500 = some r2 := h6
        cases r2 with
        | false => simp only [depotlaw09_FieldsTurns, h1, h3, h5, h6, hs, bind_some', cond_true, cond_false, decide_true, decide_false, Bool.not_true, Bool.not_false, Bool.true_and, Bool.and_true, Bool.and_false, Bool.false_and, Int.toNat_natCast, Int.natCast_nonneg, if_true, if_false, Bool.false_eq_true, Int.toNat_zero, Int.natCast_zero, not_false_eq_true, not_true_eq_false, ite_true, ite_false]
        | true =>
          have hz := sized_of (h2 rfl) (by decide) (by decide)
          have hz3 := sized_of (h4 rfl) (by decide) (by decide)
          have ha := (h7 rfl).2 a2 List.mem_cons_self
          have ha1 := ha.1
          have hf : ∀ f ∈ a0, f.1.length < 1000000 := fun f hf => by have := (hz.2 f hf).1; omega
          have hf3 : ∀ f ∈ a3, f.1.length < 1000000 := fun f hf => by have := (hz3.2 f hf).1; omega
          have hd := dropOf_len' a0 a1
          have hsl := sr_len a2 a0 false
          have hl := (h2 rfl).1
          simp only [depotlaw09_FieldsTurns, h1, h3, h5, h6, hs, bind_some', cond_true, cond_false, decide_true, decide_false, Bool.not_true, Bool.not_false, Bool.true_and, Bool.and_true, Bool.and_false, Bool.false_and, Int.toNat_natCast, Int.natCast_nonneg, if_true, if_false, Bool.false_eq_true, Int.toNat_zero, Int.natCast_zero, not_false_eq_true, not_true_eq_false, ite_true, ite_false, fields_Drop_ok (K := K) (names := a1) hz.1 hf (by omega) hN (by omega), ref09_Drop_ok (K := K) (names := a1) hz.1 hf (by omega) hN (by omega), ref09_Equal_self (K := K) (dropOf a0 a1) (by omega) (by omega), fld_eta,
            fields_Set_ok (K := K) (f := a2) hz.1 hf (by omega) (by omega), ref09_Set_ok (K := K) (f := a2) hz.1 hf (by omega) (by omega), ref09_Equal_self (K := K) (sr a2 false a0) (by omega) (by omega), fields_Same_ok (K := K) hz.1 hf hf3 (by omega), ref09_Same_ok (K := K) hz.1 hf hf3 (by omega), beq_self_eq_true]
theorem maxLen_lt {n : Nat} (h : n ≤ maxLen) : n < 9223372036854775808 := Nat.lt_of_le_of_lt h (by decide)
theorem fieldsTurns_pure (a0 : List Fld) (a1 : List (List UInt8)) (a2 : Fld) (a3 : List Fld) (hv : vok (.list .str) a1) : ∃ k, depotlaw09_FieldsTurns k a0 a1 a2 a3 = some true := by
  obtain ⟨M, hM⟩ := bound_of a1
  refine ⟨M + 100000000, fieldsTurns_at (M + 100000000) (Nat.le_add_left _ _) a0 a1 a2 a3 fun n hn => ⟨Nat.lt_of_lt_of_le (hM n hn) (Nat.le_add_right _ _), ?_⟩⟩
  obtain ⟨i, hi, rfl⟩ := List.getElem_of_mem hn
  exact maxLen_lt (hv.2 i hi)

/-! Lines there and back. -/
theorem tok_colon : tok 58 = false := by kernel_rfl
theorem isTok_no (s : List UInt8) (h : isTok s = true) : s.contains 58 = false := by
  simp only [isTok, Bool.and_eq_true] at h
  cases hc : s.contains 58 with
  | false => rfl
  | true =>
    have := List.all_eq_true.1 h.2 58 (List.contains_iff_mem.1 hc)
    rw [tok_colon] at this
    cases this
theorem cutAt_of (a b : List UInt8) (c : UInt8) (h : a.contains c = false) : cutAt (a ++ c :: b) c = (a, b, true, ()) := by
  have h1 : (a ++ c :: b).contains c = true := by simp
  have ht : (a ++ c :: b).takeWhile (· != c) = a ∧ (a ++ c :: b).dropWhile (· != c) = c :: b := by
    induction a with
    | nil => simp
    | cons x a ih =>
      have hx : ¬ x = c := by
        intro e
        subst e
        simp at h
      have ha : a.contains c = false := by
        cases hc : a.contains c with
        | false => rfl
        | true =>
          rw [List.contains_cons, hc, Bool.or_true] at h
          cases h
      obtain ⟨h2, h3⟩ := ih ha (by simp)
      simp [List.takeWhile_cons, List.dropWhile_cons, hx, h2, h3]
  simp only [cutAt, h1, if_true, ht.1, ht.2, List.drop_succ_cons, List.drop_zero]
theorem parse_line (f : Fld) (h : badF f = false) (hl : (lineOf f).length ≤ 8192) : parseOf (lineOf f) = (f, 0, ()) := by
  simp only [badF, Bool.or_eq_false_iff, Bool.not_eq_false'] at h
  obtain ⟨⟨h1, h2⟩, h3⟩ := h
  have h3 : trim f.2.1 = f.2.1 := eq_of_beq h3
  have e : lineOf f = f.1 ++ 58 :: (32 :: f.2.1) := by simp [lineOf]
  have ht : trim (32 :: f.2.1) = f.2.1 := by rw [trim_cons _ _ rfl, h3]
  have hn : ¬ (lineOf f).length > 8192 := by omega
  simp only [parseOf, if_neg hn]
  rw [e, cutAt_of _ _ _ (isTok_no _ h1)]
  simp only [ht, h1, h2, Bool.and_true, if_true]
theorem parse_good (s : List UInt8) (hs : s.length ≤ 5000) (h : (parseOf s).2.1 = 0) : badF (parseOf s).1 = false ∧ longF (parseOf s).1 = false ∧ (parseOf s).1.1.length ≤ 5000 ∧ (parseOf s).1.2.1.length ≤ 5000 := by
  have hn : ¬ s.length > 8192 := by omega
  obtain ⟨g1, g2⟩ := cutAt_lens s 58
  have g3 := length_trim (cutAt s 58).2.1
  simp only [parseOf, if_neg hn] at h ⊢
  split at h
  · rename_i hc
    simp only [hc, if_true]
    simp only [Bool.and_eq_true] at hc
    refine ⟨by simp only [badF, hc.1.2, hc.2, trim_trim, beq_self_eq_true]; rfl, ?_, by omega, by omega⟩
    simp only [longF, lineOf_len, decide_eq_false_iff_not]
    have hj : (cutAt s 58).1.length + (cutAt s 58).2.1.length ≤ s.length := by
      unfold cutAt
      split
      · rename_i hcc
        have := congrArg List.length (cutAt_join s 58 hcc)
        simp only [List.length_append, List.length_singleton] at this
        simp only
        omega
      · simp
    omega
  · cases h

theorem fieldsBack_l0 {l : List Fld} (hz : sized l) (hg : l.any badF = false) (hl : ∀ f ∈ l, (lineOf f).length ≤ 8192) (p : Fld) :
    depotlaw09_FieldsBack.l0 100000000 100000000 ((l, (0, ())), (p, ())) = some (.inl ((), (p, ()))) := by
  have hlen := hz.1
  have H := loop_ex (l := depotlaw09_FieldsBack.l0 100000000) (depotlaw09_FieldsBack.t0 100000000) (fun _ _ => rfl)
    (fun x => ∃ i : Nat, x = ((l, ((i : Int), ())), (p, ())) ∧ i ≤ l.length) (fun x => l.length - x.1.2.1.toNat)
    (fun y => y = .inl ((), (p, ()))) ?_ 100000000 _ ⟨0, rfl, by omega⟩ (by simp; omega)
  · obtain ⟨y, hy, rfl⟩ := H
    exact hy
  · rintro x rec ⟨i, rfl, hi⟩ ih
    by_cases h : i < l.length
    · have hh : (i : Int) < (l.length : Int) := by omega
      have w1 := wrapSucc (show i < 9223372036854775807 by omega)
      have hm := getD_mem l (([], [], ()) : Fld) h
      have hb := hz.2 _ hm
      have hll := hl _ hm
      have hgb : badF (l.getD i (([], [], ()) : Fld)) = false := by
        cases hc : badF (l.getD i (([], [], ()) : Fld)) with
        | false => rfl
        | true => rw [List.any_eq_true.2 ⟨_, hm, hc⟩] at hg; cases hg
      have hp := parse_line _ hgb hll
      simp only [depotlaw09_FieldsBack.t0, bind_some', cond_true, cond_false, decide_true, decide_false, Bool.not_true, Bool.not_false, Bool.true_and, Bool.and_true, Bool.and_false, Bool.false_and, Int.toNat_natCast, Int.natCast_nonneg, if_true, if_false, Bool.false_eq_true, Int.toNat_zero, Int.natCast_zero, not_false_eq_true, not_true_eq_false, ite_true, ite_false, hh, w1, fld_eta, fields_Line_ok (K := 100000000) (f := l.getD i (([], [], ()) : Fld)) (by omega) (by omega), fields_Parse_ok (K := 100000000) (s := lineOf (l.getD i (([], [], ()) : Fld))) (by omega) (by decide), hp, beq_self_eq_true]
      exact ih _ ⟨i + 1, rfl, by omega⟩ (by simp; omega)
    · have h2 : i = l.length := by omega
      subst h2
      simp only [depotlaw09_FieldsBack.t0, bind_some', cond_true, cond_false, decide_true, decide_false, Bool.not_true, Bool.not_false, Bool.true_and, Bool.and_true, Bool.and_false, Bool.false_and, Int.toNat_natCast, Int.natCast_nonneg, if_true, if_false, Bool.false_eq_true, Int.toNat_zero, Int.natCast_zero, not_false_eq_true, not_true_eq_false, ite_true, ite_false, Int.lt_irrefl]
      exact ⟨_, rfl, rfl⟩
theorem fieldsBack_pure (a0 : List Fld) (a1 : List UInt8) : ∃ k, depotlaw09_FieldsBack k a0 a1 = some true := by
  refine ⟨100000000, ?_⟩
  have hs := heads_ok 100000000 (by decide)
  obtain ⟨r, h1, h2⟩ := ref09_Few_ok 100000000 a0 70 500 (by decide) (by decide)
  have h1 : depotref09_Few 100000000 a0 70 500 = some r := h1
  cases r with
  | false => simp only [depotlaw09_FieldsBack, depotlaw09_FieldsBack.tr, h1, hs, bind_some', cond_true, cond_false, decide_true, decide_false, Bool.not_true, Bool.not_false, Bool.true_and, Bool.and_true, Bool.and_false, Bool.false_and, Int.toNat_natCast, Int.natCast_nonneg, if_true, if_false, Bool.false_eq_true, Int.toNat_zero, Int.natCast_zero, not_false_eq_true, not_true_eq_false, ite_true, ite_false]
  | true =>
    have hz := sized_of (h2 rfl) (by decide) (by decide)
    by_cases h3 : (a1.length : Int) > 5000
    · simp only [depotlaw09_FieldsBack, depotlaw09_FieldsBack.tr, h1, h3, hs, bind_some', cond_true, cond_false, decide_true, decide_false, Bool.not_true, Bool.not_false, Bool.true_and, Bool.and_true, Bool.and_false, Bool.false_and, Int.toNat_natCast, Int.natCast_nonneg, if_true, if_false, Bool.false_eq_true, Int.toNat_zero, Int.natCast_zero, not_false_eq_true, not_true_eq_false, ite_true, ite_false]
    · have hend : ∀ p : Fld, (Option.bind (fields_Check 100000000 a0) fun r13 => (bif (!decide (r13 = 0)) then (Option.bind (depotlaw09_heads 100000000) fun r16 => (some r16)) else (Option.bind (depotlaw09_FieldsBack.l0 100000000 100000000 ((a0, (0, ())), (p, ()))) fun y28 => (match y28 with | .inl z29 => (Option.bind (depotlaw09_heads 100000000) fun r32 => (some r32)) | .inr z30 => (some z30.1.1))))) = some true := by
        intro p
        simp only [fields_Check_ok hz (show 1000000 + 100 ≤ 100000000 by decide), bind_some', cond_true, cond_false, decide_true, decide_false, Bool.not_true, Bool.not_false, Bool.true_and, Bool.and_true, Bool.and_false, Bool.false_and, Int.toNat_natCast, Int.natCast_nonneg, if_true, if_false, Bool.false_eq_true, Int.toNat_zero, Int.natCast_zero, not_false_eq_true, not_true_eq_false, ite_true, ite_false, hs]
        by_cases hc : checkOf a0 = 0
        · have hg : a0.any badF = false := by
            cases hb : a0.any badF with
            | false => rfl
            | true =>
              simp only [checkOf, hb, if_true] at hc
              split at hc <;> cases hc
          have hll : ∀ f ∈ a0, (lineOf f).length ≤ 8192 := by
            intro f hf
            have h5 := (h2 rfl).2 f hf
            simp only [small] at h5
            rw [lineOf_len]
            omega
          simp only [hc, bind_some', cond_true, cond_false, decide_true, decide_false, Bool.not_true, Bool.not_false, Bool.true_and, Bool.and_true, Bool.and_false, Bool.false_and, Int.toNat_natCast, Int.natCast_nonneg, if_true, if_false, Bool.false_eq_true, Int.toNat_zero, Int.natCast_zero, not_false_eq_true, not_true_eq_false, ite_true, ite_false, fieldsBack_l0 hz hg hll p]
        · simp only [hc, bind_some', cond_true, cond_false, decide_true, decide_false, Bool.not_true, Bool.not_false, Bool.true_and, Bool.and_true, Bool.and_false, Bool.false_and, Int.toNat_natCast, Int.natCast_nonneg, if_true, if_false, Bool.false_eq_true, Int.toNat_zero, Int.natCast_zero, not_false_eq_true, not_true_eq_false, ite_true, ite_false]
      simp only [depotlaw09_FieldsBack, depotlaw09_FieldsBack.tr, h1, h3, bind_some', cond_true, cond_false, decide_true, decide_false, Bool.not_true, Bool.not_false, Bool.true_and, Bool.and_true, Bool.and_false, Bool.false_and, Int.toNat_natCast, Int.natCast_nonneg, if_true, if_false, Bool.false_eq_true, Int.toNat_zero, Int.natCast_zero, not_false_eq_true, not_true_eq_false, ite_true, ite_false, fields_Parse_ok (K := 100000000) (s := a1) (by omega) (by decide)]
      by_cases hp : (parseOf a1).2.1 = 0
      · obtain ⟨g1, g2, g3, g4⟩ := parse_good a1 (by omega) hp
        have hz1 : sized [(parseOf a1).1] := ⟨by simp, fun f hf => by
          obtain rfl := List.mem_singleton.1 hf
          exact ⟨by omega, by omega⟩⟩
        have hc1 : checkOf [(parseOf a1).1] = 0 := by
          simp only [checkOf, List.length_singleton, List.any_cons, List.any_nil, g1, g2, Bool.or_false]
          rfl
        simp only [hp, bind_some', cond_true, cond_false, decide_true, decide_false, Bool.not_true, Bool.not_false, Bool.true_and, Bool.and_true, Bool.and_false, Bool.false_and, Int.toNat_natCast, Int.natCast_nonneg, if_true, if_false, Bool.false_eq_true, Int.toNat_zero, Int.natCast_zero, not_false_eq_true, not_true_eq_false, ite_true, ite_false, fields_Check_ok hz1 (show 1000000 + 100 ≤ 100000000 by decide), hc1]
        exact hend _
      · simp only [hp, bind_some', cond_true, cond_false, decide_true, decide_false, Bool.not_true, Bool.not_false, Bool.true_and, Bool.and_true, Bool.and_false, Bool.false_and, Int.toNat_natCast, Int.natCast_nonneg, if_true, if_false, Bool.false_eq_true, Int.toNat_zero, Int.natCast_zero, not_false_eq_true, not_true_eq_false, ite_true, ite_false]
        exact hend _

/-! What is set and what is dropped. -/
theorem anySame_one (a n : List UInt8) : anySame a [n] = same a n := by simp [anySame]
theorem drop_one (l : List Fld) (n : List UInt8) : dropOf l [n] = l.filter fun x => !same x.1 n := by simp only [dropOf, anySame_one]
theorem same_trans {a b c : List UInt8} (h1 : same a b = true) (h2 : same a c = true) : same b c = true := by
  simp only [same] at *
  have h1 := eq_of_beq h1
  have h2 := eq_of_beq h2
  simp [← h1, ← h2]
theorem sr_dropped (f : Fld) (l : List Fld) : ∀ p, (sr f p l).filter (fun x => !same x.1 f.1) = l.filter fun x => !same x.1 f.1 := by
  induction l with
  | nil => intro p; cases p <;> simp [sr]
  | cons x r ih =>
    intro p
    simp only [sr, List.filter_cons]
    by_cases h : same x.1 f.1 = true
    · cases p <;> simp [h, ih]
    · have h : same x.1 f.1 = false := by simpa using h
      simp [h, ih]
theorem sr_own (f : Fld) (l : List Fld) : ∀ p, (sr f p l).filter (fun x => same x.1 f.1) = if p then [] else [f] := by
  induction l with
  | nil => intro p; cases p <;> simp [sr]
  | cons x r ih =>
    intro p
    simp only [sr]
    by_cases h : same x.1 f.1 = true
    · cases p <;> simp [h, ih]
    · have h : same x.1 f.1 = false := by simpa using h
      simp [h, ih]
theorem sr_count (f : Fld) (l : List Fld) : ∀ p, (sr f p l).length = (l.filter fun x => !same x.1 f.1).length + if p then 0 else 1 := by
  induction l with
  | nil => intro p; cases p <;> simp [sr]
  | cons x r ih =>
    intro p
    simp only [sr, List.filter_cons]
    by_cases h : same x.1 f.1 = true
    · cases p <;> simp [h, ih]
    · have h : same x.1 f.1 = false := by simpa using h
      cases p <;> simp [h, ih]
theorem sr_other (f : Fld) (o : List UInt8) (ho : same o f.1 = false) (l : List Fld) : ∀ p, (sr f p l).filter (fun x => same x.1 o) = l.filter fun x => same x.1 o := by
  have hf : same f.1 o = false := by rw [same_comm]; exact ho
  have hx : ∀ x : Fld, same x.1 f.1 = true → same x.1 o = false := by
    intro x h
    cases hc : same x.1 o with
    | false => rfl
    | true => rw [same_trans hc h] at ho; cases ho
  induction l with
  | nil => intro p; cases p <;> simp [sr, hf]
  | cons x r ih =>
    intro p
    simp only [sr, List.filter_cons]
    by_cases h : same x.1 f.1 = true
    · cases p <;> simp [h, hx x h, hf, ih]
    · have h : same x.1 f.1 = false := by simpa using h
      simp [h, ih, List.filter_cons]
theorem drop_other (n o : List UInt8) (ho : same o n = false) (l : List Fld) : (l.filter fun x => !same x.1 n).filter (fun x => same x.1 o) = l.filter fun x => same x.1 o := by
  rw [List.filter_filter]
  congr 1
  funext x
  cases hc : same x.1 o with
  | false => simp
  | true =>
    cases hd : same x.1 n with
    | false => simp
    | true => rw [same_trans hc hd] at ho; cases ho

theorem fieldsSets_pure (a0 : List Fld) (a1 : Fld) (a2 : List UInt8) : ∃ k, depotlaw09_FieldsSets k a0 a1 a2 = some true := by
  refine ⟨100000000, ?_⟩
  have hs := heads_ok 100000000 (by decide)
  obtain ⟨r, h1, h2⟩ := ref09_Few_ok 100000000 a0 70 500 (by decide) (by decide)
  have h1 : depotref09_Few 100000000 a0 70 500 = some r := h1
  cases r with
  | false => simp only [depotlaw09_FieldsSets, h1, hs, bind_some', cond_true, cond_false, decide_true, decide_false, Bool.not_true, Bool.not_false, Bool.true_and, Bool.and_true, Bool.and_false, Bool.false_and, Int.toNat_natCast, Int.natCast_nonneg, if_true, if_false, Bool.false_eq_true, Int.toNat_zero, Int.natCast_zero, not_false_eq_true, not_true_eq_false, ite_true, ite_false]
  | true =>
    obtain ⟨r2, h6, h7⟩ := ref09_Few_ok 100000000 [a1] 1 500 (by decide) (by decide)
    have h6 : depotref09_Few 100000000 [a1] 1 500 = some r2 := h6
    cases r2 with
    | false => simp only [depotlaw09_FieldsSets, h1, h6, hs, bind_some', cond_true, cond_false, decide_true, decide_false, Bool.not_true, Bool.not_false, Bool.true_and, Bool.and_true, Bool.and_false, Bool.false_and, Int.toNat_natCast, Int.natCast_nonneg, if_true, if_false, Bool.false_eq_true, Int.toNat_zero, Int.natCast_zero, not_false_eq_true, not_true_eq_false, ite_true, ite_false]
    | true =>
      by_cases h3 : (a2.length : Int) > 500
      · simp only [depotlaw09_FieldsSets, h1, h6, h3, hs, bind_some', cond_true, cond_false, decide_true, decide_false, Bool.not_true, Bool.not_false, Bool.true_and, Bool.and_true, Bool.and_false, Bool.false_and, Int.toNat_natCast, Int.natCast_nonneg, if_true, if_false, Bool.false_eq_true, Int.toNat_zero, Int.natCast_zero, not_false_eq_true, not_true_eq_false, ite_true, ite_false]
      · have hz := sized_of (h2 rfl) (by decide) (by decide)
        have ha := (h7 rfl).2 a1 List.mem_cons_self
        have ha1 := ha.1
        have ha2 := ha.2
        have hf : ∀ f ∈ a0, f.1.length < 1000000 := fun f hf => by have := (hz.2 f hf).1; omega
        have hl := (h2 rfl).1
        have hfl := List.length_filter_le (fun x : Fld => !same x.1 a1.1) a0
        have hD := fields_Drop_ok (K := 100000000) (l := a0) (names := [a1.1]) hz.1 hf (by simp) (fun n hn => by obtain rfl := List.mem_singleton.1 hn; exact ⟨by omega, by omega⟩) (by decide)
        rw [drop_one] at hD
        have hS := fields_Set_ok (K := 100000000) (l := a0) (f := a1) hz.1 hf (by omega) (by decide)
        have hsl := sr_len a1 a0 false
        have hsm := sr_mem a1 a0 false
        have hzd : sized (a0.filter fun x => !same x.1 a1.1) := ⟨by omega, fun f hf => hz.2 f (List.mem_filter.1 hf).1⟩
        have hzs : sized (sr a1 false a0) := ⟨by omega, fun f hf => by
          rcases hsm f hf with rfl | h
          · exact ⟨by omega, by omega⟩
          · exact hz.2 f h⟩
        have hfd : ∀ f ∈ (a0.filter fun x => !same x.1 a1.1), f.1.length < 1000000 := fun f hf => by have := (hzd.2 f hf).1; omega
        have hfs : ∀ f ∈ sr a1 false a0, f.1.length < 1000000 := fun f hf => by have := (hzs.2 f hf).1; omega
        have hG1 := fields_Get_ok (K := 100000000) (name := a1.1) hzd (by omega) (by decide)
        have hG2 := fields_Get_ok (K := 100000000) (name := a1.1) hzs (by omega) (by decide)
        have e1 : allOf (a0.filter fun x => !same x.1 a1.1) a1.1 = [] := by
          simp only [allOf, List.map_eq_nil_iff, List.filter_eq_nil_iff]
          intro x hx
          have := (List.mem_filter.1 hx).2
          simpa using this
        have e2 : allOf (sr a1 false a0) a1.1 = [a1.2.1] := by simp only [allOf, sr_own]; rfl
        simp only [getOf, e1, Lib.join_nil] at hG1
        simp only [getOf, e2, Lib.join_one] at hG2
        have hcnt := sr_count a1 a0 false
        simp only [Bool.false_eq_true, if_false] at hcnt
        have w := wrapSucc (show (a0.filter fun x => !same x.1 a1.1).length < 9223372036854775807 by omega)
        have hcnt2 : (((sr a1 false a0).length : Nat) : Int) = (((a0.filter fun x => !same x.1 a1.1).length + 1 : Nat) : Int) := by omega
        have hD2 := fields_Drop_ok (K := 100000000) (l := sr a1 false a0) (names := [a1.1]) (by omega) hfs (by simp) (fun n hn => by obtain rfl := List.mem_singleton.1 hn; exact ⟨by omega, by omega⟩) (by decide)
        rw [drop_one, sr_dropped] at hD2
        simp only [depotlaw09_FieldsSets, h1, h6, h3, hs, bind_some', cond_true, cond_false, decide_true, decide_false, Bool.not_true, Bool.not_false, Bool.true_and, Bool.and_true, Bool.and_false, Bool.false_and, Int.toNat_natCast, Int.natCast_nonneg, if_true, if_false, Bool.false_eq_true, Int.toNat_zero, Int.natCast_zero, not_false_eq_true, not_true_eq_false, ite_true, ite_false, hD, fld_eta, hS, hG1, hG2, List.length_nil, List.length_singleton, beq_self_eq_true, Nat.lt_irrefl, gt_iff_lt, Nat.zero_lt_one, w, hcnt2,
          octet_Same_ok (K := 100000000) (a := a2) (b := a1.1) (by omega) (by omega) (by omega) (by omega)]
        cases hc : same a2 a1.1 with
        | true => simp only [bind_some', cond_true, cond_false, decide_true, decide_false, Bool.not_true, Bool.not_false, Bool.true_and, Bool.and_true, Bool.and_false, Bool.false_and, Int.toNat_natCast, Int.natCast_nonneg, if_true, if_false, Bool.false_eq_true, Int.toNat_zero, Int.natCast_zero, not_false_eq_true, not_true_eq_false, ite_true, ite_false, hs]
        | false =>
          have e3 : allOf (a0.filter fun x => !same x.1 a1.1) a2 = allOf a0 a2 := by simp only [allOf, drop_other a1.1 a2 hc]
          have e4 : allOf (sr a1 false a0) a2 = allOf a0 a2 := by simp only [allOf, sr_other a1 a2 hc]
          have hal := allOf_len a0 a2
          simp only [bind_some', cond_true, cond_false, decide_true, decide_false, Bool.not_true, Bool.not_false, Bool.true_and, Bool.and_true, Bool.and_false, Bool.false_and, Int.toNat_natCast, Int.natCast_nonneg, if_true, if_false, Bool.false_eq_true, Int.toNat_zero, Int.natCast_zero, not_false_eq_true, not_true_eq_false, ite_true, ite_false, fields_All_ok (K := 100000000) (name := a2) hz.1 hf (by omega) (by decide), fields_All_ok (K := 100000000) (name := a2) hzd.1 hfd (by omega) (by decide), fields_All_ok (K := 100000000) (name := a2) hzs.1 hfs (by omega) (by decide), e3, e4, ref06_Same_self (K := 100000000) (allOf a0 a2) (by omega) (by decide), hD2,
            fields_Same_ok (K := 100000000) hzd.1 hfd hfd (by decide), sameL_self, hs]
end Go.Proofs.X
