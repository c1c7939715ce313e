/-
  A part of the proof. No condition.
-/
import Derived.Test.YtikiloknlchppaaGreatDoorWPa
/- Chapter 15: the laws VaryNames and VaryPicks, as plain Lean. -/
set_option linter.unusedSimpArgs false
set_option linter.unusedVariables false
namespace Go.Proofs.X
open Go Go.Dp

theorem sized_few {l : List Fld} {m b : Nat} (h : l.length ≤ m ∧ ∀ f ∈ l, small b f) (hm : m < 1000000) (hb : b < 100000) : sized l :=
  ⟨by omega, fun f hf => by obtain ⟨h1, h2⟩ := h.2 f hf; exact ⟨by omega, by omega⟩⟩
theorem names_len {l : List Fld} (h : sized l) (h2 : l.length ≤ 1000) : (namesO l).1.length < 1000000000 := by
  have h3 := allOf_len l hV
  have hb : ∀ v ∈ allOf l hV, v.length ≤ 99999 := allOf_mem fun f hf => by have := (h.2 f hf).2; omega
  have htl := toks_len (allOf l hV) hb
  have hol := ord_len (toks (allOf l hV))
  have hmul : (allOf l hV).length * (99999 + 1) ≤ 1000 * 100000 := Nat.mul_le_mul (by omega) (by omega)
  rw [namesO, namesV]
  split
  · show (ord (toks (allOf l hV))).length < _; omega
  · show ([] : List (List UInt8)).length < _; simp
theorem same06_self {K : Nat} (l : List (List UInt8)) (hl : l.length < 1000000000000) (hK : 1000000000000 ≤ K) : depotref06_Same K l l = some true := by
  have H := idx_rule (l := depotref06_Same.l0 K) (depotref06_Same.t0 K) (fun _ _ => rfl) l.length
    (fun i => ((l, (l, ((i : Int), ()))), ())) (fun i => .inl ((), ())) ?_ K 0 (by omega) (by omega)
  · simp only [Int.natCast_zero] at H
    simp only [depotref06_Same, depotref06_Same.tr, H, bind_some', cond_true, cond_false, decide_true, decide_false, Bool.not_true, Bool.not_false, Bool.true_and, Bool.and_true, Bool.and_false, Bool.false_and, Int.toNat_natCast, Int.natCast_nonneg, if_true, if_false, Bool.false_eq_true, Int.toNat_zero, Int.natCast_zero, not_false_eq_true, not_true_eq_false, ite_true, ite_false]
  · intro i rec hi ih
    by_cases h : i < l.length
    · have hh : (i : Int) < (l.length : Int) := by omega
      have w1 := wrapSucc (show i < 9223372036854775807 by omega)
      simp only [depotref06_Same.t0, bind_some', cond_true, cond_false, decide_true, decide_false, Bool.not_true, Bool.not_false, Bool.true_and, Bool.and_true, Bool.and_false, Bool.false_and, Int.toNat_natCast, Int.natCast_nonneg, if_true, if_false, Bool.false_eq_true, Int.toNat_zero, Int.natCast_zero, not_false_eq_true, not_true_eq_false, ite_true, ite_false, hh, beq_self_eq_true, w1]
      exact ih h
    · have h2 : i = l.length := by omega
      subst h2
      simp only [depotref06_Same.t0, bind_some', cond_true, cond_false, decide_true, decide_false, Bool.not_true, Bool.not_false, Bool.true_and, Bool.and_true, Bool.and_false, Bool.false_and, Int.toNat_natCast, Int.natCast_nonneg, if_true, if_false, Bool.false_eq_true, Int.toNat_zero, Int.natCast_zero, not_false_eq_true, not_true_eq_false, ite_true, ite_false, Int.lt_irrefl]
theorem varyNames_pure (a0 : List Fld) (v0 : vok (.list (.scons .str (.scons .str .snil))) a0) : ∃ k, depotlaw15_VaryNames k a0 = some true := by
  refine ⟨2000000000000, ?_⟩
  have hK : 1000000 + 100 ≤ 2000000000000 := by decide
  have hs := varies_ok hK
  obtain ⟨r, h1, h2⟩ := ref09_Few_ok 2000000000000 a0 70 500 (by decide) (by decide)
  have h1 : depotref09_Few 2000000000000 a0 70 500 = some r := h1
  cases r with
  | false => simp only [depotlaw15_VaryNames, h1, hs, bind_some', cond_true, cond_false, decide_true, decide_false, Bool.not_true, Bool.not_false, Bool.true_and, Bool.and_true, Bool.and_false, Bool.false_and, Int.toNat_natCast, Int.natCast_nonneg, if_true, if_false, Bool.false_eq_true, Int.toNat_zero, Int.natCast_zero, not_false_eq_true, not_true_eq_false, ite_true, ite_false]
  | true =>
    have z := sized_few (h2 rfl) (by decide) (by decide)
    have hn := vary_Names_ok z hK
    have hr := ref15_Names_ok z (show 1000000000000 + 100 ≤ 2000000000000 by decide)
    have hl := names_len z (by have := (h2 rfl).1; omega)
    have hsm := same06_self (K := 2000000000000) (namesO a0).1 (by omega) (by decide)
    simp only [depotlaw15_VaryNames, h1, hs, bind_some', cond_true, cond_false, decide_true, decide_false, Bool.not_true, Bool.not_false, Bool.true_and, Bool.and_true, Bool.and_false, Bool.false_and, Int.toNat_natCast, Int.natCast_nonneg, if_true, if_false, Bool.false_eq_true, Int.toNat_zero, Int.natCast_zero, not_false_eq_true, not_true_eq_false, ite_true, ite_false, hn, hr, hsm, beq_self_eq_true]

/-! Picks. -/
def shortP (b : Nat) (x : Pick) : Bool := decide (x.1.length ≤ b) && decide (x.2.2.1.length ≤ b)
theorem ref15_Few_ok (K : Nat) (l : List Pick) (m b : Nat) (hm : m < 1000000) (hK : m + 2 < K) :
    ∃ r, depotref15_Few K l (m : Int) (b : Int) = some r ∧ (r = true → l.length ≤ m ∧ ∀ x ∈ l, x.1.length ≤ b ∧ x.2.2.1.length ≤ b) := by
  have hN : (l.take (m + 1)).length = min (m + 1) l.length := by simp
  have H := idx_rule (l := depotref15_Few.l0 K) (depotref15_Few.t0 K) (fun _ _ => rfl) (l.take (m + 1)).length
    (fun i => ((l, ((m : Int), ((b : Int), ((i : Int), ())))), ())) (fun i => if ((l.take (m + 1)).drop i).all (shortP b) then .inl ((l, ((m : Int), ())), ()) else .inr ((false, ()), ())) ?_ K 0 (by omega) (by omega)
  · simp only [Int.natCast_zero, List.drop_zero] at H
    simp only [depotref15_Few, depotref15_Few.tr, H]
    by_cases hall : (l.take (m + 1)).all (shortP b) = true
    · simp only [hall, bind_some', cond_true, cond_false, decide_true, decide_false, Bool.not_true, Bool.not_false, Bool.true_and, Bool.and_true, Bool.and_false, Bool.false_and, Int.toNat_natCast, Int.natCast_nonneg, if_true, if_false, Bool.false_eq_true, Int.toNat_zero, Int.natCast_zero, not_false_eq_true, not_true_eq_false, ite_true, ite_false]
      refine ⟨_, rfl, fun hr => ?_⟩
      have hl : l.length ≤ m := by have := of_decide_eq_true hr; omega
      refine ⟨hl, fun s hs => ?_⟩
      rw [List.take_of_length_le (by omega)] at hall
      have h3 := List.all_eq_true.1 hall s hs
      simp only [shortP, Bool.and_eq_true, decide_eq_true_eq] at h3
      exact h3
    · simp only [hall, bind_some', cond_true, cond_false, decide_true, decide_false, Bool.not_true, Bool.not_false, Bool.true_and, Bool.and_true, Bool.and_false, Bool.false_and, Int.toNat_natCast, Int.natCast_nonneg, if_true, if_false, Bool.false_eq_true, Int.toNat_zero, Int.natCast_zero, not_false_eq_true, not_true_eq_false, ite_true, ite_false]
      exact ⟨false, rfl, fun h => by cases h⟩
  · intro i rec hi ih
    by_cases h : i < (l.take (m + 1)).length
    · have hil : i < l.length := by omega
      have him : i ≤ m := by omega
      have hh : (i : Int) < (l.length : Int) := by omega
      have hh2 : (i : Int) ≤ (m : Int) := by omega
      have w1 := wrapSucc (show i < 9223372036854775807 by omega)
      have ih' := ih h
      have hd : (l.take (m + 1)).drop i = l.getD i dP :: (l.take (m + 1)).drop (i + 1) := by
        rw [List.drop_eq_getElem_cons h]
        simp [List.getD_eq_getElem?_getD, hil]
      simp only [dP] at hd
      rw [hd, List.all_cons]
      by_cases c : (l.getD i ([], false, [], ())).1.length ≤ b
      · have c2 : ¬ ((l.getD i ([], false, [], ())).1.length : Int) > (b : Int) := by omega
        by_cases d : (l.getD i ([], false, [], ())).2.2.1.length ≤ b
        · have d2 : ¬ ((l.getD i ([], false, [], ())).2.2.1.length : Int) > (b : Int) := by omega
          have c3 : shortP b (l.getD i ([], false, [], ())) = true := by simp only [shortP, c, d, decide_true, Bool.and_self]
          simp only [depotref15_Few.t0, bind_some', cond_true, cond_false, decide_true, decide_false, Bool.not_true, Bool.not_false, Bool.true_and, Bool.and_true, Bool.and_false, Bool.false_and, Int.toNat_natCast, Int.natCast_nonneg, if_true, if_false, Bool.false_eq_true, Int.toNat_zero, Int.natCast_zero, not_false_eq_true, not_true_eq_false, ite_true, ite_false, hh, hh2, c2, d2, c3, w1]
          exact ih'
        · have d2 : ((l.getD i ([], false, [], ())).2.2.1.length : Int) > (b : Int) := by omega
          have c3 : shortP b (l.getD i ([], false, [], ())) = false := by simp only [shortP, d, decide_false, Bool.and_false]
          simp only [depotref15_Few.t0, bind_some', cond_true, cond_false, decide_true, decide_false, Bool.not_true, Bool.not_false, Bool.true_and, Bool.and_true, Bool.and_false, Bool.false_and, Int.toNat_natCast, Int.natCast_nonneg, if_true, if_false, Bool.false_eq_true, Int.toNat_zero, Int.natCast_zero, not_false_eq_true, not_true_eq_false, ite_true, ite_false, hh, hh2, c2, d2, c3]
      · have c2 : ((l.getD i ([], false, [], ())).1.length : Int) > (b : Int) := by omega
        have c3 : shortP b (l.getD i ([], false, [], ())) = false := by simp only [shortP, c, decide_false, Bool.false_and]
        simp only [depotref15_Few.t0, bind_some', cond_true, cond_false, decide_true, decide_false, Bool.not_true, Bool.not_false, Bool.true_and, Bool.and_true, Bool.and_false, Bool.false_and, Int.toNat_natCast, Int.natCast_nonneg, if_true, if_false, Bool.false_eq_true, Int.toNat_zero, Int.natCast_zero, not_false_eq_true, not_true_eq_false, ite_true, ite_false, hh, hh2, c2, c3]
    · have h2 : i = (l.take (m + 1)).length := by omega
      have hd : (l.take (m + 1)).drop i = [] := List.drop_eq_nil_of_le (by omega)
      rw [hd, List.all_nil]
      by_cases c : l.length ≤ m
      · have hh : ¬ (i : Int) < (l.length : Int) := by omega
        simp only [depotref15_Few.t0, bind_some', cond_true, cond_false, decide_true, decide_false, Bool.not_true, Bool.not_false, Bool.true_and, Bool.and_true, Bool.and_false, Bool.false_and, Int.toNat_natCast, Int.natCast_nonneg, if_true, if_false, Bool.false_eq_true, Int.toNat_zero, Int.natCast_zero, not_false_eq_true, not_true_eq_false, ite_true, ite_false, hh]
      · by_cases hh : (i : Int) < (l.length : Int)
        · have hh2 : ¬ (i : Int) ≤ (m : Int) := by omega
          simp only [depotref15_Few.t0, bind_some', cond_true, cond_false, decide_true, decide_false, Bool.not_true, Bool.not_false, Bool.true_and, Bool.and_true, Bool.and_false, Bool.false_and, Int.toNat_natCast, Int.natCast_nonneg, if_true, if_false, Bool.false_eq_true, Int.toNat_zero, Int.natCast_zero, not_false_eq_true, not_true_eq_false, ite_true, ite_false, hh, hh2]
        · simp only [depotref15_Few.t0, bind_some', cond_true, cond_false, decide_true, decide_false, Bool.not_true, Bool.not_false, Bool.true_and, Bool.and_true, Bool.and_false, Bool.false_and, Int.toNat_natCast, Int.natCast_nonneg, if_true, if_false, Bool.false_eq_true, Int.toNat_zero, Int.natCast_zero, not_false_eq_true, not_true_eq_false, ite_true, ite_false, hh]
theorem refP_l0 {K : Nat} (names : List (List UInt8)) (l : List Fld) (ix : Int) (z : List Pick) (o : List Pick) (vs : List (List UInt8)) (hl : vs.length < 1000000) (hv : ∀ v ∈ vs, v.length < 1000000) (hK : 1000000 + 100 ≤ K) :
    depotref15_Picks.l0 K K ((names, (l, ((), (ix, (vs, ((), (0, ()))))))), (z, (o, ([], ())))) = some ((names, (l, ((), (ix, (vs, ((), ())))))), (z, (o, (vs.map sgl, ())))) := by
  have H := idx_rule (l := depotref15_Picks.l0 K) (depotref15_Picks.t0 K) (fun _ _ => rfl) vs.length
    (fun i => ((names, (l, ((), (ix, (vs, ((), ((i : Int), ()))))))), (z, (o, ((vs.take i).map sgl, ()))))) (fun i => ((names, (l, ((), (ix, (vs, ((), ())))))), (z, (o, (vs.map sgl, ()))))) ?_ K 0 (by omega) (by omega)
  · exact H
  · intro i rec hi ih
    by_cases h : i < vs.length
    · have hh : (i : Int) < (vs.length : Int) := by omega
      have w1 := wrapSucc (show i < 9223372036854775807 by omega)
      have hm := hv _ (getD_mem vs [] h)
      have ih' := ih h
      rw [take_get vs [] h, List.map_append, List.map_cons, List.map_nil] at ih'
      have hr := room16 ((vs.take i).map sgl).length (by simp; omega)
      simp only [depotref15_Picks.t0, bind_some', cond_true, cond_false, decide_true, decide_false, Bool.not_true, Bool.not_false, Bool.true_and, Bool.and_true, Bool.and_false, Bool.false_and, Int.toNat_natCast, Int.natCast_nonneg, if_true, if_false, Bool.false_eq_true, Int.toNat_zero, Int.natCast_zero, not_false_eq_true, not_true_eq_false, ite_true, ite_false, hh, ref15_single_ok hm hK, hr, w1]
      exact ih'
    · have h2 : i = vs.length := by omega
      subst h2
      simp only [depotref15_Picks.t0, bind_some', cond_true, cond_false, decide_true, decide_false, Bool.not_true, Bool.not_false, Bool.true_and, Bool.and_true, Bool.and_false, Bool.false_and, Int.toNat_natCast, Int.natCast_nonneg, if_true, if_false, Bool.false_eq_true, Int.toNat_zero, Int.natCast_zero, not_false_eq_true, not_true_eq_false, ite_true, ite_false, Int.lt_irrefl, List.take_length]
theorem ref15_Picks_ok {K : Nat} {l : List Fld} {names : List (List UInt8)} (h : sized l) (hn : names.length < 1000000) (h2 : ∀ n ∈ names, n.length < 1000000) (hK : 1000000 + 100 ≤ K) : depotref15_Picks K names l = some (picksOf names l) := by
  have H := idx_rule (l := depotref15_Picks.l1 K) (depotref15_Picks.t1 (depotref15_Picks.l0 K) K) (fun _ _ => rfl) names.length
    (fun i => ((names, (l, ((), ((i : Int), ())))), ([], (picksOf (names.take i) l, ())))) (fun i => (((), ()), ([], (picksOf names l, ())))) ?_ K 0 (by omega) (by omega)
  · simp only [depotref15_Picks, depotref15_Picks.tr, bind_some', cond_true, cond_false, decide_true, decide_false, Bool.not_true, Bool.not_false, Bool.true_and, Bool.and_true, Bool.and_false, Bool.false_and, Int.toNat_natCast, Int.natCast_nonneg, if_true, if_false, Bool.false_eq_true, Int.toNat_zero, Int.natCast_zero, not_false_eq_true, not_true_eq_false, ite_true, ite_false]
    change Option.bind (depotref15_Picks.l1 K K ((names, (l, ((), (((0 : Nat) : Int), ())))), ([], (picksOf (names.take 0) l, ())))) _ = _
    rw [H]
    simp only [bind_some', cond_true, cond_false, decide_true, decide_false, Bool.not_true, Bool.not_false, Bool.true_and, Bool.and_true, Bool.and_false, Bool.false_and, Int.toNat_natCast, Int.natCast_nonneg, if_true, if_false, Bool.false_eq_true, Int.toNat_zero, Int.natCast_zero, not_false_eq_true, not_true_eq_false, ite_true, ite_false]
  · intro i rec hi ih
    by_cases h' : i < names.length
    · have hh : (i : Int) < (names.length : Int) := by omega
      have w1 := wrapSucc (show i < 9223372036854775807 by omega)
      have hm := h2 _ (getD_mem names [] h')
      have hlen := h.1
      have h3 := allOf_len l (names.getD i [])
      have hb : ∀ v ∈ allOf l (names.getD i []), v.length ≤ 99999 := allOf_mem fun f hf => by have := (h.2 f hf).2; omega
      have hA := ref09_All_ok (K := K) h.1 (fun f hf => by have := (h.2 f hf).1; omega) (name := names.getD i []) hm (by omega)
      have hA : depotref09_All K l (names.getD i []) = some (allOf l (names.getD i [])) := hA
      have h0 := refP_l0 (K := K) names l (i : Int) [] (picksOf (names.take i) l) (allOf l (names.getD i [])) (by omega) (fun v hv => by have := hb v hv; omega) hK
      have hj := ref06_Join_ok (K := K) (l := (allOf l (names.getD i [])).map sgl) (by rw [List.length_map]; omega) 99999 (by omega) (fun v hv => by
        obtain ⟨u, hu, rfl⟩ := List.mem_map.1 hv
        have := sgl_len u
        have := hb u hu
        omega) (by omega)
      have ih' := ih h'
      rw [take_get names [] h', picksOf, List.map_append, List.map_cons, List.map_nil] at ih'
      have hr : ((picksOf (names.take i) l).length + 1) * 40 ≤ maxRoom := by simp [picksOf, maxRoom]; omega
      have hp : (names.getD i [], decide (((allOf l (names.getD i [])).length : Int) > 0), Lib.join ((allOf l (names.getD i [])).map sgl) sep2, ()) = pickOf (names.getD i []) l := by
        unfold pickOf
        congr 2
        rw [decide_eq_decide]
        omega
      simp only [depotref15_Picks.t1, bind_some', cond_true, cond_false, decide_true, decide_false, Bool.not_true, Bool.not_false, Bool.true_and, Bool.and_true, Bool.and_false, Bool.false_and, Int.toNat_natCast, Int.natCast_nonneg, if_true, if_false, Bool.false_eq_true, Int.toNat_zero, Int.natCast_zero, not_false_eq_true, not_true_eq_false, ite_true, ite_false, hh, hA, h0, hj, hr, hp, w1]
      exact ih'
    · have h2 : i = names.length := by omega
      subst h2
      simp only [depotref15_Picks.t1, bind_some', cond_true, cond_false, decide_true, decide_false, Bool.not_true, Bool.not_false, Bool.true_and, Bool.and_true, Bool.and_false, Bool.false_and, Int.toNat_natCast, Int.natCast_nonneg, if_true, if_false, Bool.false_eq_true, Int.toNat_zero, Int.natCast_zero, not_false_eq_true, not_true_eq_false, ite_true, ite_false, Int.lt_irrefl, List.take_length]
theorem ref15_Same_ok {K : Nat} (a b : List Pick) (ha : a.length < 1000000) (hK : 1000000 ≤ K) : depotref15_Same K a b = some (decide (a = b)) := by
  by_cases hl : a.length = b.length
  · have H := idx_rule (l := depotref15_Same.l0 K) (depotref15_Same.t0 K) (fun _ _ => rfl) a.length
      (fun i => ((a, (b, ((i : Int), ()))), ())) (fun i => if a.drop i = b.drop i then .inl ((), ()) else .inr ((false, ()), ())) ?_ K 0 (by omega) (by omega)
    · rw [List.drop_zero, List.drop_zero] at H
      have hl' : (a.length : Int) = (b.length : Int) := by omega
      simp only [depotref15_Same, depotref15_Same.tr, hl', bind_some', cond_true, cond_false, decide_true, decide_false, Bool.not_true, Bool.not_false, Bool.true_and, Bool.and_true, Bool.and_false, Bool.false_and, Int.toNat_natCast, Int.natCast_nonneg, if_true, if_false, Bool.false_eq_true, Int.toNat_zero, Int.natCast_zero, not_false_eq_true, not_true_eq_false, ite_true, ite_false]
      change Option.bind (depotref15_Same.l0 K K ((a, (b, (((0 : Nat) : Int), ()))), ())) _ = _
      rw [H]
      by_cases c : a = b
      · simp only [c, bind_some', cond_true, cond_false, decide_true, decide_false, Bool.not_true, Bool.not_false, Bool.true_and, Bool.and_true, Bool.and_false, Bool.false_and, Int.toNat_natCast, Int.natCast_nonneg, if_true, if_false, Bool.false_eq_true, Int.toNat_zero, Int.natCast_zero, not_false_eq_true, not_true_eq_false, ite_true, ite_false]
      · simp only [c, bind_some', cond_true, cond_false, decide_true, decide_false, Bool.not_true, Bool.not_false, Bool.true_and, Bool.and_true, Bool.and_false, Bool.false_and, Int.toNat_natCast, Int.natCast_nonneg, if_true, if_false, Bool.false_eq_true, Int.toNat_zero, Int.natCast_zero, not_false_eq_true, not_true_eq_false, ite_true, ite_false]
    · intro i rec hi ih
      by_cases h : i < a.length
      · have h' : i < b.length := by omega
        have hh : (i : Int) < (a.length : Int) := by omega
        have hh2 : (i : Int) < (b.length : Int) := by omega
        have w1 := wrapSucc (show i < 9223372036854775807 by omega)
        have ih' := ih h
        have hb := pick_beq (a.getD i dP) (b.getD i dP)
        simp only [dP] at hb
        rw [drop_get a ([], false, [], ()) h, drop_get b ([], false, [], ()) h']
        by_cases c : a.getD i ([], false, [], ()) = b.getD i ([], false, [], ())
        · simp only [depotref15_Same.t0, bind_some', cond_true, cond_false, decide_true, decide_false, Bool.not_true, Bool.not_false, Bool.true_and, Bool.and_true, Bool.and_false, Bool.false_and, Int.toNat_natCast, Int.natCast_nonneg, if_true, if_false, Bool.false_eq_true, Int.toNat_zero, Int.natCast_zero, not_false_eq_true, not_true_eq_false, ite_true, ite_false, hh, hh2, c, w1, beq_self_eq_true, Bool.and_self]
          rw [ih']
          simp only [List.cons.injEq, true_and]
        · simp only [depotref15_Same.t0, bind_some', cond_true, cond_false, decide_true, decide_false, Bool.not_true, Bool.not_false, Bool.true_and, Bool.and_true, Bool.and_false, Bool.false_and, Int.toNat_natCast, Int.natCast_nonneg, if_true, if_false, Bool.false_eq_true, Int.toNat_zero, Int.natCast_zero, not_false_eq_true, not_true_eq_false, ite_true, ite_false, hh, hh2, hb, c, List.cons.injEq, false_and]
      · have h2 : i = a.length := by omega
        have e1 : a.drop i = [] := List.drop_eq_nil_of_le (by omega)
        have e2 : b.drop i = [] := List.drop_eq_nil_of_le (by omega)
        rw [e1, e2]
        have hh : ¬ (i : Int) < (a.length : Int) := by omega
        simp only [depotref15_Same.t0, bind_some', cond_true, cond_false, decide_true, decide_false, Bool.not_true, Bool.not_false, Bool.true_and, Bool.and_true, Bool.and_false, Bool.false_and, Int.toNat_natCast, Int.natCast_nonneg, if_true, if_false, Bool.false_eq_true, Int.toNat_zero, Int.natCast_zero, not_false_eq_true, not_true_eq_false, ite_true, ite_false, hh]
  · have hl' : ¬ (a.length : Int) = (b.length : Int) := by omega
    have c : ¬ a = b := fun e => hl (by rw [e])
    simp only [depotref15_Same, depotref15_Same.tr, hl', c, bind_some', cond_true, cond_false, decide_true, decide_false, Bool.not_true, Bool.not_false, Bool.true_and, Bool.and_true, Bool.and_false, Bool.false_and, Int.toNat_natCast, Int.natCast_nonneg, if_true, if_false, Bool.false_eq_true, Int.toNat_zero, Int.natCast_zero, not_false_eq_true, not_true_eq_false, ite_true, ite_false]
theorem vary_Same_ok {K : Nat} (a b : List Pick) (ha : a.length < 1000000) (hK : 1000000 ≤ K) : vary_Same K a b = some (decide (a = b)) := by
  by_cases hl : a.length = b.length
  · have H := idx_rule (l := slices_Equal.l0 K) (slices_Equal.t0 K) (fun _ _ => rfl) a.length
      (fun i => ((a, (b, ((a.length : Int), ((i : Int), ())))), ())) (fun i => if a.drop i = b.drop i then .inl ((), ()) else .inr ((false, ()), ())) ?_ K 0 (by omega) (by omega)
    · rw [List.drop_zero, List.drop_zero] at H
      have hl' : (a.length : Int) = (b.length : Int) := by omega
      have hd : decide ((a.length : Int) = (b.length : Int)) = true := decide_eq_true hl'
      simp only [vary_Same, slices_Equal, slices_Equal.tr, hd, bind_some', cond_true, cond_false, decide_true, decide_false, Bool.not_true, Bool.not_false, Bool.true_and, Bool.and_true, Bool.and_false, Bool.false_and, Int.toNat_natCast, Int.natCast_nonneg, if_true, if_false, Bool.false_eq_true, Int.toNat_zero, Int.natCast_zero, not_false_eq_true, not_true_eq_false, ite_true, ite_false]
      change Option.bind (Option.bind (slices_Equal.l0 K K ((a, (b, ((a.length : Int), (((0 : Nat) : Int), ())))), ())) _) _ = _
      rw [H]
      by_cases c : a = b
      · simp only [c, bind_some', cond_true, cond_false, decide_true, decide_false, Bool.not_true, Bool.not_false, Bool.true_and, Bool.and_true, Bool.and_false, Bool.false_and, Int.toNat_natCast, Int.natCast_nonneg, if_true, if_false, Bool.false_eq_true, Int.toNat_zero, Int.natCast_zero, not_false_eq_true, not_true_eq_false, ite_true, ite_false]
      · simp only [c, bind_some', cond_true, cond_false, decide_true, decide_false, Bool.not_true, Bool.not_false, Bool.true_and, Bool.and_true, Bool.and_false, Bool.false_and, Int.toNat_natCast, Int.natCast_nonneg, if_true, if_false, Bool.false_eq_true, Int.toNat_zero, Int.natCast_zero, not_false_eq_true, not_true_eq_false, ite_true, ite_false]
    · intro i rec hi ih
      by_cases h : i < a.length
      · have h' : i < b.length := by omega
        have hh : (i : Int) < (a.length : Int) := by omega
        have hh2 : (i : Int) < (b.length : Int) := by omega
        have w1 := wrapSucc (show i < 9223372036854775807 by omega)
        have ih' := ih h
        have hb := pick_beq (a.getD i dP) (b.getD i dP)
        simp only [dP] at hb
        rw [drop_get a ([], false, [], ()) h, drop_get b ([], false, [], ()) h']
        by_cases c : a.getD i ([], false, [], ()) = b.getD i ([], false, [], ())
        · simp only [slices_Equal.t0, bind_some', cond_true, cond_false, decide_true, decide_false, Bool.not_true, Bool.not_false, Bool.true_and, Bool.and_true, Bool.and_false, Bool.false_and, Int.toNat_natCast, Int.natCast_nonneg, if_true, if_false, Bool.false_eq_true, Int.toNat_zero, Int.natCast_zero, not_false_eq_true, not_true_eq_false, ite_true, ite_false, hh, hh2, c, w1, beq_self_eq_true, Bool.and_self]
          rw [ih']
          simp only [List.cons.injEq, true_and]
        · simp only [slices_Equal.t0, bind_some', cond_true, cond_false, decide_true, decide_false, Bool.not_true, Bool.not_false, Bool.true_and, Bool.and_true, Bool.and_false, Bool.false_and, Int.toNat_natCast, Int.natCast_nonneg, if_true, if_false, Bool.false_eq_true, Int.toNat_zero, Int.natCast_zero, not_false_eq_true, not_true_eq_false, ite_true, ite_false, hh, hh2, hb, c, List.cons.injEq, false_and]
      · have h2 : i = a.length := by omega
        have e1 : a.drop i = [] := List.drop_eq_nil_of_le (by omega)
        have e2 : b.drop i = [] := List.drop_eq_nil_of_le (by omega)
        rw [e1, e2]
        have hh : ¬ (i : Int) < (a.length : Int) := by omega
        simp only [slices_Equal.t0, bind_some', cond_true, cond_false, decide_true, decide_false, Bool.not_true, Bool.not_false, Bool.true_and, Bool.and_true, Bool.and_false, Bool.false_and, Int.toNat_natCast, Int.natCast_nonneg, if_true, if_false, Bool.false_eq_true, Int.toNat_zero, Int.natCast_zero, not_false_eq_true, not_true_eq_false, ite_true, ite_false, hh]
  · have hl' : ¬ (a.length : Int) = (b.length : Int) := by omega
    have c : ¬ a = b := fun e => hl (by rw [e])
    simp only [vary_Same, slices_Equal, slices_Equal.tr, hl', c, bind_some', cond_true, cond_false, decide_true, decide_false, Bool.not_true, Bool.not_false, Bool.true_and, Bool.and_true, Bool.and_false, Bool.false_and, Int.toNat_natCast, Int.natCast_nonneg, if_true, if_false, Bool.false_eq_true, Int.toNat_zero, Int.natCast_zero, not_false_eq_true, not_true_eq_false, ite_true, ite_false]
theorem map_self {α : Type} (f : α → α) : ∀ l : List α, l.map f = l ↔ ∀ x ∈ l, f x = x := by
  intro l
  induction l with
  | nil => simp
  | cons x l ih => simp [ih]
theorem ref15_Match_ok {K : Nat} {l : List Fld} {p : List Pick} (h : sized l) (hn : p.length < 1000000) (h2 : ∀ x ∈ p, x.1.length < 1000000) (hK : 1000000 + 100 ≤ K) : depotref15_Match K p l = some (matchOf p l) := by
  have H := idx_rule (l := depotref15_Match.l0 K) (depotref15_Match.t0 K) (fun _ _ => rfl) p.length
    (fun i => ((p, (l, ((), ((i : Int), ())))), ((p.take i).map (·.1), ()))) (fun i => ((p, (l, ((), ()))), (p.map (·.1), ()))) ?_ K 0 (by omega) (by omega)
  · have hp := ref15_Picks_ok (K := K) (names := p.map (·.1)) h (by simpa using hn) (fun n hn' => by obtain ⟨x, hx, rfl⟩ := List.mem_map.1 hn'; exact h2 x hx) hK
    have hs := ref15_Same_ok (K := K) (picksOf (p.map (·.1)) l) p (by simpa [picksOf] using hn) (by omega)
    simp only [depotref15_Match, depotref15_Match.tr]
    change Option.bind (depotref15_Match.l0 K K ((p, (l, ((), (((0 : Nat) : Int), ())))), ((p.take 0).map (·.1), ()))) _ = _
    rw [H]
    simp only [bind_some', cond_true, cond_false, decide_true, decide_false, Bool.not_true, Bool.not_false, Bool.true_and, Bool.and_true, Bool.and_false, Bool.false_and, Int.toNat_natCast, Int.natCast_nonneg, if_true, if_false, Bool.false_eq_true, Int.toNat_zero, Int.natCast_zero, not_false_eq_true, not_true_eq_false, ite_true, ite_false, hp, hs]
    congr 1
    rw [Bool.eq_iff_iff, decide_eq_true_eq]
    simp only [matchOf, picksOf, List.all_eq_true, decide_eq_true_eq, List.map_map]
    constructor
    · intro e x hx
      exact (map_self _ p).1 e x hx
    · intro e
      exact (map_self _ p).2 e
  · intro i rec hi ih
    by_cases h' : i < p.length
    · have hh : (i : Int) < (p.length : Int) := by omega
      have w1 := wrapSucc (show i < 9223372036854775807 by omega)
      have ih' := ih h'
      rw [take_get p ([], false, [], ()) h', List.map_append, List.map_cons, List.map_nil] at ih'
      have hr := room16 ((p.take i).map (·.1)).length (by simp; omega)
      simp only [depotref15_Match.t0, bind_some', cond_true, cond_false, decide_true, decide_false, Bool.not_true, Bool.not_false, Bool.true_and, Bool.and_true, Bool.and_false, Bool.false_and, Int.toNat_natCast, Int.natCast_nonneg, if_true, if_false, Bool.false_eq_true, Int.toNat_zero, Int.natCast_zero, not_false_eq_true, not_true_eq_false, ite_true, ite_false, hh, hr, w1]
      exact ih'
    · have h2 : i = p.length := by omega
      subst h2
      simp only [depotref15_Match.t0, bind_some', cond_true, cond_false, decide_true, decide_false, Bool.not_true, Bool.not_false, Bool.true_and, Bool.and_true, Bool.and_false, Bool.false_and, Int.toNat_natCast, Int.natCast_nonneg, if_true, if_false, Bool.false_eq_true, Int.toNat_zero, Int.natCast_zero, not_false_eq_true, not_true_eq_false, ite_true, ite_false, Int.lt_irrefl, List.take_length]
theorem varyPicks_pure (a0 : List (List UInt8)) (a1 : List Fld) (a2 a3 : List Pick) (v0 : vok (.list .str) a0) (v1 : vok (.list (.scons .str (.scons .str .snil))) a1) (v2 : vok (.list (.scons .str (.scons .bool (.scons .str .snil)))) a2) (v3 : vok (.list (.scons .str (.scons .bool (.scons .str .snil)))) a3) : ∃ k, depotlaw15_VaryPicks k a0 a1 a2 a3 = some true := by
  refine ⟨2000000, ?_⟩
  have hK : 1000000 + 100 ≤ 2000000 := by decide
  have hs := varies_ok hK
  obtain ⟨r, h1, h2⟩ := ref09_Few_ok 2000000 a1 70 500 (by decide) (by decide)
  have h1 : depotref09_Few 2000000 a1 70 500 = some r := h1
  obtain ⟨r3, h3, h4⟩ := ref15_FewNames_ok 2000000 a0 30 500 (by decide) (by decide)
  have h3 : depotref15_FewNames 2000000 a0 30 500 = some r3 := h3
  obtain ⟨r5, h5, h6⟩ := ref15_Few_ok 2000000 a2 30 500 (by decide) (by decide)
  have h5 : depotref15_Few 2000000 a2 30 500 = some r5 := h5
  obtain ⟨r7, h7, h8⟩ := ref15_Few_ok 2000000 a3 30 500 (by decide) (by decide)
  have h7 : depotref15_Few 2000000 a3 30 500 = some r7 := h7
  cases r with
  | false => simp only [depotlaw15_VaryPicks, h1, hs, bind_some', cond_true, cond_false, decide_true, decide_false, Bool.not_true, Bool.not_false, Bool.true_and, Bool.and_true, Bool.and_false, Bool.false_and, Int.toNat_natCast, Int.natCast_nonneg, if_true, if_false, Bool.false_eq_true, Int.toNat_zero, Int.natCast_zero, not_false_eq_true, not_true_eq_false, ite_true, ite_false]
  | true =>
  cases r3 with
  | false => simp only [depotlaw15_VaryPicks, h1, h3, hs, bind_some', cond_true, cond_false, decide_true, decide_false, Bool.not_true, Bool.not_false, Bool.true_and, Bool.and_true, Bool.and_false, Bool.false_and, Int.toNat_natCast, Int.natCast_nonneg, if_true, if_false, Bool.false_eq_true, Int.toNat_zero, Int.natCast_zero, not_false_eq_true, not_true_eq_false, ite_true, ite_false]
  | true =>
  cases r5 with
  | false => simp only [depotlaw15_VaryPicks, h1, h3, h5, hs, bind_some', cond_true, cond_false, decide_true, decide_false, Bool.not_true, Bool.not_false, Bool.true_and, Bool.and_true, Bool.and_false, Bool.false_and, Int.toNat_natCast, Int.natCast_nonneg, if_true, if_false, Bool.false_eq_true, Int.toNat_zero, Int.natCast_zero, not_false_eq_true, not_true_eq_false, ite_true, ite_false]
  | true =>
  cases r7 with
  | false => simp only [depotlaw15_VaryPicks, h1, h3, h5, h7, hs, bind_some', cond_true, cond_false, decide_true, decide_false, Bool.not_true, Bool.not_false, Bool.true_and, Bool.and_true, Bool.and_false, Bool.false_and, Int.toNat_natCast, Int.natCast_nonneg, if_true, if_false, Bool.false_eq_true, Int.toNat_zero, Int.natCast_zero, not_false_eq_true, not_true_eq_false, ite_true, ite_false]
  | true =>
    have z := sized_few (h2 rfl) (by decide) (by decide)
    obtain ⟨n1, n2⟩ := h4 rfl
    obtain ⟨m1, m2⟩ := h6 rfl
    obtain ⟨q1, q2⟩ := h8 rfl
    have e1 := vary_Picks_ok (K := 2000000) (names := a0) z (by omega) (fun n hn => by have := n2 n hn; omega) (by decide)
    have e2 := ref15_Picks_ok (K := 2000000) (names := a0) z (by omega) (fun n hn => by have := n2 n hn; omega) hK
    have e3 := ref15_Same_ok (K := 2000000) (picksOf a0 a1) (picksOf a0 a1) (by simp [picksOf]; omega) (by decide)
    have e4 := vary_Match_ok (K := 2000000) (p := a2) z (by omega) (fun x hx => by have := (m2 x hx).1; omega) (by decide)
    have e5 := ref15_Match_ok (K := 2000000) (p := a2) z (by omega) (fun x hx => by have := (m2 x hx).1; omega) hK
    have e6 := vary_Same_ok (K := 2000000) a2 a3 (by omega) (by decide)
    have e7 := ref15_Same_ok (K := 2000000) a2 a3 (by omega) (by decide)
    rw [decide_eq_true rfl] at e3
    simp only [depotlaw15_VaryPicks, h1, h3, h5, h7, hs, bind_some', cond_true, cond_false, decide_true, decide_false, Bool.not_true, Bool.not_false, Bool.true_and, Bool.and_true, Bool.and_false, Bool.false_and, Int.toNat_natCast, Int.natCast_nonneg, if_true, if_false, Bool.false_eq_true, Int.toNat_zero, Int.natCast_zero, not_false_eq_true, not_true_eq_false, ite_true, ite_false, e1, e2, e3, e4, e5, e6, e7, beq_self_eq_true]
end Go.Proofs.X

