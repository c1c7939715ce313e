/-
  A part of the proof. No condition.
-/
import Derived.Test.YtikiloknlchppaaDoorMP9
import Derived.Test.YtikiloknlchppaaDoorFc
/- Chapter 13: the laws ControlBack and ControlOrder, as plain Lean. -/
set_option linter.unusedSimpArgs false
set_option linter.unusedVariables false
namespace Go.Proofs.X
open Go Go.Dp

theorem controls_ok (K : Nat) (hK : 100 ≤ K) : depotlaw13_controls K = some true := by
  have : ∀ K, depotlaw13_controls (K + 100) = some true := fun K => by kernel_rfl
  have h := this (K - 100)
  rwa [Nat.sub_add_cancel hK] at h
theorem one_ok (K : Nat) (s : List UInt8) : depotlaw13_one K s = some [(hdr, s, ())] := rfl
theorem sized_one (s : List UInt8) (h : s.length < 100000) : sized [(hdr, s, ())] := by
  refine ⟨by simp, fun f hf => ?_⟩
  simp only [List.mem_singleton] at hf
  subst hf
  exact ⟨show hdr.length < 100000 by decide, h⟩
theorem controlBack_pure (a0 : Ctl) (v0 : vok (.scons .bool (.scons .bool (.scons .bool (.scons .bool (.scons .bool (.scons .bool (.scons (.int .i64) (.scons (.int .i64) (.scons (.int .i64) .snil))))))))) a0) : ∃ k, depotlaw13_ControlBack k a0 = some true := by
  refine ⟨2000000, ?_⟩
  have hs := controls_ok 2000000 (by decide)
  by_cases c1 : a0.2.2.2.2.2.2.1 < -1
  · simp only [depotlaw13_ControlBack, c1, hs, bind_some', cond_true, cond_false, decide_true, decide_false, Bool.not_true, Bool.not_false, Bool.true_and, Bool.and_true, Bool.and_false, Bool.false_and, Int.toNat_natCast, Int.natCast_nonneg, if_true, if_false, Bool.false_eq_true, Int.toNat_zero, Int.natCast_zero, not_false_eq_true, not_true_eq_false, ite_true, ite_false]
  by_cases c2 : a0.2.2.2.2.2.2.2.1 < -1
  · simp only [depotlaw13_ControlBack, c1, c2, hs, bind_some', cond_true, cond_false, decide_true, decide_false, Bool.not_true, Bool.not_false, Bool.true_and, Bool.and_true, Bool.and_false, Bool.false_and, Int.toNat_natCast, Int.natCast_nonneg, if_true, if_false, Bool.false_eq_true, Int.toNat_zero, Int.natCast_zero, not_false_eq_true, not_true_eq_false, ite_true, ite_false]
  by_cases c3 : a0.2.2.2.2.2.2.2.2.1 < -1
  · simp only [depotlaw13_ControlBack, c1, c2, c3, hs, bind_some', cond_true, cond_false, decide_true, decide_false, Bool.not_true, Bool.not_false, Bool.true_and, Bool.and_true, Bool.and_false, Bool.false_and, Int.toNat_natCast, Int.natCast_nonneg, if_true, if_false, Bool.false_eq_true, Int.toNat_zero, Int.natCast_zero, not_false_eq_true, not_true_eq_false, ite_true, ite_false]
  by_cases c4 : a0.2.2.2.2.2.2.1 > 2147483648
  · simp only [depotlaw13_ControlBack, c1, c2, c3, c4, hs, bind_some', cond_true, cond_false, decide_true, decide_false, Bool.not_true, Bool.not_false, Bool.true_and, Bool.and_true, Bool.and_false, Bool.false_and, Int.toNat_natCast, Int.natCast_nonneg, if_true, if_false, Bool.false_eq_true, Int.toNat_zero, Int.natCast_zero, not_false_eq_true, not_true_eq_false, ite_true, ite_false]
  by_cases c5 : a0.2.2.2.2.2.2.2.1 > 2147483648
  · simp only [depotlaw13_ControlBack, c1, c2, c3, c4, c5, hs, bind_some', cond_true, cond_false, decide_true, decide_false, Bool.not_true, Bool.not_false, Bool.true_and, Bool.and_true, Bool.and_false, Bool.false_and, Int.toNat_natCast, Int.natCast_nonneg, if_true, if_false, Bool.false_eq_true, Int.toNat_zero, Int.natCast_zero, not_false_eq_true, not_true_eq_false, ite_true, ite_false]
  by_cases c6 : a0.2.2.2.2.2.2.2.2.1 > 2147483648
  · simp only [depotlaw13_ControlBack, c1, c2, c3, c4, c5, c6, hs, bind_some', cond_true, cond_false, decide_true, decide_false, Bool.not_true, Bool.not_false, Bool.true_and, Bool.and_true, Bool.and_false, Bool.false_and, Int.toNat_natCast, Int.natCast_nonneg, if_true, if_false, Bool.false_eq_true, Int.toNat_zero, Int.natCast_zero, not_false_eq_true, not_true_eq_false, ite_true, ite_false]
  have h6 : small31 a0.2.2.2.2.2.2.1 := ⟨by omega, by omega⟩
  have h7 : small31 a0.2.2.2.2.2.2.2.1 := ⟨by omega, by omega⟩
  have h8 : small31 a0.2.2.2.2.2.2.2.2.1 := ⟨by omega, by omega⟩
  have i6 : int64 a0.2.2.2.2.2.2.1 := ⟨by omega, by omega⟩
  have i7 : int64 a0.2.2.2.2.2.2.2.1 := ⟨by omega, by omega⟩
  have i8 : int64 a0.2.2.2.2.2.2.2.2.1 := ⟨by omega, by omega⟩
  have hj := join_len (printL a0) sep2 40 (printL_short a0 i6 i7 i8)
  have hjl := printL_len a0
  have es : sep2.length = 2 := rfl
  have hb : (printL a0).length * (40 + sep2.length) ≤ 9 * 42 := Nat.mul_le_mul hjl (by omega)
  have hz := sized_one (Lib.join (printL a0) sep2) (by omega)
  have hpr : control_Print 2000000 (a0.1, a0.2.1, a0.2.2.1, a0.2.2.2.1, a0.2.2.2.2.1, a0.2.2.2.2.2.1, a0.2.2.2.2.2.2.1, a0.2.2.2.2.2.2.2.1, a0.2.2.2.2.2.2.2.2.1, ()) = some (Lib.join (printL a0) sep2) := control_Print_ok a0 i6 i7 i8
  simp only [depotlaw13_ControlBack, c1, c2, c3, c4, c5, c6, hs, bind_some', cond_true, cond_false, decide_true, decide_false, Bool.not_true, Bool.not_false, Bool.true_and, Bool.and_true, Bool.and_false, Bool.false_and, Int.toNat_natCast, Int.natCast_nonneg, if_true, if_false, Bool.false_eq_true, Int.toNat_zero, Int.natCast_zero, not_false_eq_true, not_true_eq_false, ite_true, ite_false, hpr, one_ok, control_Parse_ok hz (show 1000000 + 100 ≤ 2000000 by decide), control_Asked_ok hz (show 1000000 + 100 ≤ 2000000 by decide), askedC_one, parse_print a0 h6 h7 h8, beq_self_eq_true, eq_self]

def eachOf (l : List (List UInt8)) : List Fld := l.flatMap fun x => [([99, 97, 99, 104, 101, 45, 67, 79, 78, 84, 82, 79, 76], x, ()), ([88], [110, 111, 45, 115, 116, 111, 114, 101], ())]
theorem order_l0 {K : Nat} (a0 : List UInt8) (l : List (List UInt8)) (hl : l.length ≤ 1000000) (hK : 1000000 + 100 ≤ K) :
    depotlaw13_ControlOrder.l0 K K ((a0, (l, ((), ((), (IntKind.wrap .i64 ((l.length : Int) - 1), ()))))), ([], ([], ()))) = some ((a0, (l, ((), ((), ())))), (l.reverse, (eachOf l.reverse, ()))) := by
  have e0 : ∀ i : Nat, i ≤ l.length → IntKind.wrap .i64 ((l.length : Int) - i - 1) = (l.length : Int) - ((i + 1 : Nat) : Int) := by
    intro i hi
    rw [wrap64 (by omega) (by omega)]; omega
  have H := idx_rule (l := depotlaw13_ControlOrder.l0 K) (depotlaw13_ControlOrder.t0 K) (fun _ _ => rfl) l.length
    (fun i => ((a0, (l, ((), ((), ((l.length : Int) - ((i + 1 : Nat) : Int), ()))))), ((l.drop (l.length - i)).reverse, (eachOf (l.drop (l.length - i)).reverse, ())))) (fun i => ((a0, (l, ((), ((), ())))), (l.reverse, (eachOf l.reverse, ())))) ?_ K 0 (by omega) (by omega)
  · have e := e0 0 (by omega)
    rw [Int.natCast_zero, Int.sub_zero] at e
    rw [e]
    simp only [Nat.sub_zero, drop_len, List.reverse_nil] at H
    exact H
  · intro i rec hi ih
    by_cases h : i < l.length
    · have ih' := ih h
      have hix : l.length - (i + 1) < l.length := by omega
      have hn : (l.length : Int) - ((i + 1 : Nat) : Int) = ((l.length - (i + 1) : Nat) : Int) := by omega
      have hge : ((l.length - (i + 1) : Nat) : Int) ≥ 0 := by omega
      have hlt : ((l.length - (i + 1) : Nat) : Int) < (l.length : Int) := by omega
      have hd : l.drop (l.length - (i + 1)) = l.getD (l.length - (i + 1)) [] :: l.drop (l.length - i) := by
        rw [drop_get l [] hix, show l.length - (i + 1) + 1 = l.length - i by omega]
      rw [hd, List.reverse_cons] at ih'
      have hw : IntKind.wrap .i64 (((l.length - (i + 1) : Nat) : Int) - 1) = (l.length : Int) - ((i + 1 + 1 : Nat) : Int) := by
        rw [wrap64 (by omega) (by omega)]; omega
      have hm1 : ((l.drop (l.length - i)).reverse.length + 1) * 16 ≤ maxRoom := by simp [maxRoom]; omega
      have hel : (eachOf (l.drop (l.length - i)).reverse).length ≤ 2 * l.length := by
        have : ∀ xs : List (List UInt8), (eachOf xs).length = 2 * xs.length := by
          intro xs
          induction xs with
          | nil => rfl
          | cons x xs ih => simp only [eachOf, List.flatMap_cons, List.length_append, List.length_cons, List.length_nil] at ih ⊢; omega
        rw [this]; simp; omega
      have hm2 : ((eachOf (l.drop (l.length - i)).reverse).length + 2) * 32 ≤ maxRoom := by simp only [maxRoom]; omega
      have he : eachOf ((l.drop (l.length - i)).reverse ++ [l.getD (l.length - (i + 1)) []]) = eachOf (l.drop (l.length - i)).reverse ++ [([99, 97, 99, 104, 101, 45, 67, 79, 78, 84, 82, 79, 76], l.getD (l.length - (i + 1)) [], ()), ([88], [110, 111, 45, 115, 116, 111, 114, 101], ())] := by
        simp only [eachOf, List.flatMap_append, List.flatMap_cons, List.flatMap_nil, List.append_nil]
      rw [he] at ih'
      simp only [hn, depotlaw13_ControlOrder.t0, bind_some', cond_true, cond_false, decide_true, decide_false, Bool.not_true, Bool.not_false, Bool.true_and, Bool.and_true, Bool.and_false, Bool.false_and, Int.toNat_natCast, Int.natCast_nonneg, if_true, if_false, Bool.false_eq_true, Int.toNat_zero, Int.natCast_zero, not_false_eq_true, not_true_eq_false, ite_true, ite_false, hge, hlt, hm1, hm2, hw]
      exact ih'
    · have h2 : i = l.length := by omega
      subst h2
      have hge : ¬ (l.length : Int) - ((l.length + 1 : Nat) : Int) ≥ 0 := by omega
      simp only [depotlaw13_ControlOrder.t0, bind_some', cond_true, cond_false, decide_true, decide_false, Bool.not_true, Bool.not_false, Bool.true_and, Bool.and_true, Bool.and_false, Bool.false_and, Int.toNat_natCast, Int.natCast_nonneg, if_true, if_false, Bool.false_eq_true, Int.toNat_zero, Int.natCast_zero, not_false_eq_true, not_true_eq_false, ite_true, ite_false, hge, Nat.sub_self, List.drop_zero]
theorem allOf_each (l : List (List UInt8)) : allOf (eachOf l) hdr = l := by
  have h1 : same [99, 97, 99, 104, 101, 45, 67, 79, 78, 84, 82, 79, 76] hdr = true := by decide +kernel
  have h2 : same [88] hdr = false := by decide +kernel
  induction l with
  | nil => rfl
  | cons x l ih =>
    simp only [allOf, eachOf] at ih
    simp only [allOf, eachOf, List.flatMap_cons, List.cons_append, List.nil_append, List.filter_cons, h1, h2, if_true, Bool.false_eq_true, if_false, List.map_cons, ih]
theorem sized_each (l : List (List UInt8)) (h : l.length < 100000) (h2 : ∀ x ∈ l, x.length < 100000) : sized (eachOf l) := by
  have hl : ∀ xs : List (List UInt8), (eachOf xs).length = 2 * xs.length := by
    intro xs
    induction xs with
    | nil => rfl
    | cons x xs ih => simp only [eachOf, List.flatMap_cons, List.length_append, List.length_cons, List.length_nil] at ih ⊢; omega
  refine ⟨by rw [hl]; omega, fun f hf => ?_⟩
  obtain ⟨x, hx, hf⟩ := List.mem_flatMap.1 hf
  simp only [List.mem_cons, List.not_mem_nil, or_false] at hf
  rcases hf with rfl | rfl
  · exact ⟨by show 13 < 100000; omega, h2 x hx⟩
  · exact ⟨by show 1 < 100000; omega, by show 8 < 100000; omega⟩
theorem parseV_each (l : List (List UInt8)) (h : ∀ x ∈ l, goodI x) : parseV l = foldE ctl0 l := by
  have h1 : fineV l = true := by
    simp only [fineV, List.all_eq_true, decide_eq_true_eq]
    intro x hx
    rw [splitS_one x (h x hx)]
  have h2 : ∀ c, foldV c l = foldE c l := by
    clear h1
    induction l with
    | nil => intro c; rfl
    | cons x l ih =>
      intro c
      have e : foldE c (x :: l) = foldE (foldE c [x]) l := foldE_append c [x] l
      rw [e, ← ih (fun y hy => h y (List.mem_cons_of_mem _ hy))]
      simp only [foldV, List.foldl_cons, splitS_one x (h x List.mem_cons_self)]
  simp only [parseV, h1, if_true, h2]
theorem controlOrder_pure (a0 : List UInt8) (v0 : vok .str a0) : ∃ k, depotlaw13_ControlOrder k a0 = some true := by
  refine ⟨2000000, ?_⟩
  have hs := controls_ok 2000000 (by decide)
  have hK : 1000000 + 100 ≤ 2000000 := by decide
  by_cases c1 : (a0.length : Int) > 1000
  · simp only [depotlaw13_ControlOrder, depotlaw13_ControlOrder.tr, c1, hs, bind_some', cond_true, cond_false, decide_true, decide_false, Bool.not_true, Bool.not_false, Bool.true_and, Bool.and_true, Bool.and_false, Bool.false_and, Int.toNat_natCast, Int.natCast_nonneg, if_true, if_false, Bool.false_eq_true, Int.toNat_zero, Int.natCast_zero, not_false_eq_true, not_true_eq_false, ite_true, ite_false]
  have hsp := items_Split_ok (K := 2000000) (s := a0) (by omega) (by omega)
  have hz0 := sized_one a0 (by omega)
  have hcnt := splitS_count a0
  have hit := splitS_items a0
  have hgd := splitS_good a0
  have hp0 := parseC_one a0
  generalize splitS a0 = q at hcnt hit hgd hp0 hsp
  obtain ⟨l, e, u⟩ := q
  simp only at hcnt hit hgd hp0
  by_cases c2 : e = 0
  · subst c2
    simp only [if_true] at hp0
    by_cases c3 : (l.length : Int) > 60
    · simp only [depotlaw13_ControlOrder, depotlaw13_ControlOrder.tr, c1, hs, bind_some', cond_true, cond_false, decide_true, decide_false, Bool.not_true, Bool.not_false, Bool.true_and, Bool.and_true, Bool.and_false, Bool.false_and, Int.toNat_natCast, Int.natCast_nonneg, if_true, if_false, Bool.false_eq_true, Int.toNat_zero, Int.natCast_zero, not_false_eq_true, not_true_eq_false, ite_true, ite_false, hsp, c3]
    have hgr : ∀ x ∈ l.reverse, goodI x := fun x hx => hgd x (List.mem_reverse.1 hx)
    have hir : ∀ x ∈ l.reverse, x.length ≤ 1000 := fun x hx => by have := hit x (List.mem_reverse.1 hx); omega
    have hj := join_len l.reverse sep2 1000 hir
    have es : sep2.length = 2 := rfl
    have hb : l.reverse.length * (1000 + sep2.length) ≤ 60 * 1002 := Nat.mul_le_mul (by simp; omega) (by omega)
    have hz1 := sized_one (Lib.join l.reverse sep2) (by omega)
    have hz2 := sized_each l.reverse (by simp; omega) (fun x hx => by have := hir x hx; omega)
    have hj2 := joinS_eq (K := 2000000) (l := l.reverse) (sep := [44, 32]) (by simp; omega) 1000 (by omega) (by decide) hir
    have hp1 : parseC [(hdr, Lib.join l.reverse sep2, ())] = foldE ctl0 l := by
      rw [parseC_one, split_join _ hgr]
      simp only [if_true, foldE_reverse]
    have hp2 : parseC (eachOf l.reverse) = foldE ctl0 l := by rw [parseC, allOf_each, parseV_each _ hgr, foldE_reverse]
    have hpp1 : control_Parse 2000000 [(hdr, Lib.join l.reverse [44, 32], ())] = some (foldE ctl0 l) := by rw [← hp1]; exact control_Parse_ok hz1 hK
    have hl0 := order_l0 (K := 2000000) a0 l (by omega) hK
    simp only [depotlaw13_ControlOrder, depotlaw13_ControlOrder.tr, c1, hs, bind_some', cond_true, cond_false, decide_true, decide_false, Bool.not_true, Bool.not_false, Bool.true_and, Bool.and_true, Bool.and_false, Bool.false_and, Int.toNat_natCast, Int.natCast_nonneg, if_true, if_false, Bool.false_eq_true, Int.toNat_zero, Int.natCast_zero, not_false_eq_true, not_true_eq_false, ite_true, ite_false, hsp, c3, hl0, one_ok, control_Parse_ok hz0 hK, hp0, items_Join, hj2, hpp1, control_Parse_ok hz2 hK, hp2, beq_self_eq_true, eq_self]
    by_cases c4 : (l.length : Int) > 0
    · simp only [c4, bind_some', cond_true, cond_false, decide_true, decide_false, Bool.not_true, Bool.not_false, Bool.true_and, Bool.and_true, Bool.and_false, Bool.false_and, Int.toNat_natCast, Int.natCast_nonneg, if_true, if_false, Bool.false_eq_true, Int.toNat_zero, Int.natCast_zero, not_false_eq_true, not_true_eq_false, ite_true, ite_false]
    · obtain rfl : l = [] := List.length_eq_zero_iff.1 (by omega)
      rfl
  · simp only [c2, if_false] at hp0
    simp only [depotlaw13_ControlOrder, depotlaw13_ControlOrder.tr, c1, hs, bind_some', cond_true, cond_false, decide_true, decide_false, Bool.not_true, Bool.not_false, Bool.true_and, Bool.and_true, Bool.and_false, Bool.false_and, Int.toNat_natCast, Int.natCast_nonneg, if_true, if_false, Bool.false_eq_true, Int.toNat_zero, Int.natCast_zero, not_false_eq_true, not_true_eq_false, ite_true, ite_false, hsp, c2, one_ok, control_Parse_ok hz0 hK, hp0]
end Go.Proofs.X

