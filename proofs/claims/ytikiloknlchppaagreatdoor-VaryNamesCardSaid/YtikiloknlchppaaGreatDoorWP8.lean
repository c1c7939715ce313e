/-
  A part of the proof. No condition.
-/
import Derived.Test.YtikiloknlchppaaGreatDoorWP7
import Derived.Test.YtikiloknlchppaaGreatDoorFc
/- Chapter 15 (vary): what all its laws end with; few names. -/
set_option linter.unusedSimpArgs false
set_option linter.unusedVariables false
namespace Go.Proofs.X
open Go Go.Dp

theorem ex1 : namesO [([86, 97, 114, 121], [66, 44, 32, 97], ()), ([118, 97, 114, 121], [65], ())] = ([[97], [98]], true, ()) := by
  have h1 : allOf [([86, 97, 114, 121], [66, 44, 32, 97], ()), ([118, 97, 114, 121], [65], ())] hV = [[66, 44, 32, 97], [65]] := by decide +kernel
  have h2 : ([[66, 44, 32, 97], [65]] : List (List UInt8)).all goodV = true := by decide +kernel
  have h3 : toks [[66, 44, 32, 97], [65]] = [[98], [97], [97]] := by decide +kernel
  have h4 : ord [[98], [97], [97]] = [[97], [98]] := by
    refine sorted_uniq _ _ (ord_pair _) (by decide) fun k => ?_
    rw [ord_mem]
    simp only [List.mem_cons, List.not_mem_nil, or_false]
    constructor
    · rintro (h | h | h)
      · exact .inr h
      · exact .inl h
      · exact .inl h
    · rintro (h | h)
      · exact .inr (.inl h)
      · exact .inl h
  rw [namesO, h1, namesV, h2, if_pos rfl, h3, h4]
theorem ex2 : namesO [([86, 97, 114, 121], [97, 44, 32, 42], ())] = ([], false, ()) := by
  have h1 : allOf [([86, 97, 114, 121], [97, 44, 32, 42], ())] hV = [[97, 44, 32, 42]] := by decide +kernel
  have h2 : ([[97, 44, 32, 42]] : List (List UInt8)).all goodV = false := by decide +kernel
  rw [namesO, h1, namesV, h2]
  rfl
theorem ex3 : picksOf [[97], [98]] [([65], [120, 32, 32, 32, 121], ())] = [([97], true, [120, 32, 121], ()), ([98], false, [], ())] := by decide +kernel
theorem varies_ok {K : Nat} (hK : 1000000 + 100 ≤ K) : depotlaw15_varies K = some true := by
  have a1 := vary_Names_ok (K := K) (l := [([86, 97, 114, 121], [66, 44, 32, 97], ()), ([118, 97, 114, 121], [65], ())]) (by unfold sized; decide) hK
  have a2 := vary_Names_ok (K := K) (l := [([86, 97, 114, 121], [97, 44, 32, 42], ())]) (by unfold sized; decide) hK
  have z3 : sized [([65], [120, 32, 32, 32, 121], ())] := by unfold sized; decide
  have z0 : sized [] := by unfold sized; decide
  have a3 := vary_Picks_ok (K := K) (l := [([65], [120, 32, 32, 32, 121], ())]) (names := [[97], [98]]) z3 (by decide) (by decide) (by omega)
  have a4 := vary_Match_ok (K := K) (l := [([65], [120, 32, 32, 32, 121], ())]) (p := [([97], true, [120, 32, 121], ()), ([98], false, [], ())]) z3 (by decide) (by decide) (by omega)
  have a5 := vary_Match_ok (K := K) (l := []) (p := [([97], true, [120, 32, 121], ()), ([98], false, [], ())]) z0 (by decide) (by decide) (by omega)
  have b4 : matchOf [([97], true, [120, 32, 121], ()), ([98], false, [], ())] [([65], [120, 32, 32, 32, 121], ())] = true := by decide +kernel
  have b5 : matchOf [([97], true, [120, 32, 121], ()), ([98], false, [], ())] [] = false := by decide +kernel
  obtain ⟨k, rfl⟩ : ∃ k, K = k + 100 := ⟨K - 100, by omega⟩
  have a6 : depotref06_Same (k + 100) [[97], [98]] [[97], [98]] = some true := by kernel_rfl
  have a7 : depotref15_Same (k + 100) [([97], true, [120, 32, 121], ()), ([98], false, [], ())] [([97], true, [120, 32, 121], ()), ([98], false, [], ())] = some true := by kernel_rfl
  have a8 : vary_Same (k + 100) [([97], true, [120, 32, 121], ()), ([98], false, [], ())] [([97], true, [120, 32, 121], ()), ([98], false, [], ())] = some true := by kernel_rfl
  rw [ex1] at a1
  rw [ex2] at a2
  rw [ex3] at a3
  rw [b4] at a4
  rw [b5] at a5
  simp only [depotlaw15_varies, a1, a2, a3, a4, a5, a6, a7, a8, bind_some', cond_true, cond_false, decide_true, decide_false, Bool.not_true, Bool.not_false, Bool.true_and, Bool.and_true, Bool.and_false, Bool.false_and, Int.toNat_natCast, Int.natCast_nonneg, if_true, if_false, Bool.false_eq_true, Int.toNat_zero, Int.natCast_zero, not_false_eq_true, not_true_eq_false, ite_true, ite_false]
def shortB (b : Nat) (s : List UInt8) : Bool := decide (s.length ≤ b)
theorem ref15_FewNames_ok (K : Nat) (l : List (List UInt8)) (m b : Nat) (hm : m < 1000000) (hK : m + 2 < K) :
    ∃ r, depotref15_FewNames K l (m : Int) (b : Int) = some r ∧ (r = true → l.length ≤ m ∧ ∀ s ∈ l, s.length ≤ b) := by
  have hN : (l.take (m + 1)).length = min (m + 1) l.length := by simp
  have H := idx_rule (l := depotref15_FewNames.l0 K) (depotref15_FewNames.t0 K) (fun _ _ => rfl) (l.take (m + 1)).length
    (fun i => ((l, ((m : Int), ((b : Int), ((i : Int), ())))), ())) (fun i => if ((l.take (m + 1)).drop i).all (shortB b) then .inl ((l, ((m : Int), ())), ()) else .inr ((false, ()), ())) ?_ K 0 (by omega) (by omega)
  · simp only [Int.natCast_zero, List.drop_zero] at H
    simp only [depotref15_FewNames, depotref15_FewNames.tr, H]
    by_cases hall : (l.take (m + 1)).all (shortB b) = true
    · simp only [hall, bind_some', cond_true, cond_false, decide_true, decide_false, Bool.not_true, Bool.not_false, Bool.true_and, Bool.and_true, Bool.and_false, Bool.false_and, Int.toNat_natCast, Int.natCast_nonneg, if_true, if_false, Bool.false_eq_true, Int.toNat_zero, Int.natCast_zero, not_false_eq_true, not_true_eq_false, ite_true, ite_false]
      refine ⟨_, rfl, fun hr => ?_⟩
      have hl : l.length ≤ m := by have := of_decide_eq_true hr; omega
      refine ⟨hl, fun s hs => ?_⟩
      rw [List.take_of_length_le (by omega)] at hall
      exact of_decide_eq_true (List.all_eq_true.1 hall s hs)
    · simp only [hall, bind_some', cond_true, cond_false, decide_true, decide_false, Bool.not_true, Bool.not_false, Bool.true_and, Bool.and_true, Bool.and_false, Bool.false_and, Int.toNat_natCast, Int.natCast_nonneg, if_true, if_false, Bool.false_eq_true, Int.toNat_zero, Int.natCast_zero, not_false_eq_true, not_true_eq_false, ite_true, ite_false]
      exact ⟨false, rfl, fun h => by cases h⟩
  · intro i rec hi ih
    by_cases h : i < (l.take (m + 1)).length
    · have hil : i < l.length := by omega
      have him : i ≤ m := by omega
      have hh : (i : Int) < (l.length : Int) := by omega
      have hh2 : (i : Int) ≤ (m : Int) := by omega
      have w1 := wrapSucc (show i < 9223372036854775807 by omega)
      have ih' := ih h
      have hd : (l.take (m + 1)).drop i = l.getD i [] :: (l.take (m + 1)).drop (i + 1) := by
        rw [List.drop_eq_getElem_cons h]
        simp [List.getD_eq_getElem?_getD, hil]
      rw [hd, List.all_cons]
      by_cases c : (l.getD i []).length ≤ b
      · have c2 : ¬ ((l.getD i []).length : Int) > (b : Int) := by omega
        have c3 : shortB b (l.getD i []) = true := decide_eq_true c
        simp only [depotref15_FewNames.t0, bind_some', cond_true, cond_false, decide_true, decide_false, Bool.not_true, Bool.not_false, Bool.true_and, Bool.and_true, Bool.and_false, Bool.false_and, Int.toNat_natCast, Int.natCast_nonneg, if_true, if_false, Bool.false_eq_true, Int.toNat_zero, Int.natCast_zero, not_false_eq_true, not_true_eq_false, ite_true, ite_false, hh, hh2, c2, c3, w1]
        exact ih'
      · have c2 : ((l.getD i []).length : Int) > (b : Int) := by omega
        have c3 : shortB b (l.getD i []) = false := decide_eq_false c
        simp only [depotref15_FewNames.t0, bind_some', cond_true, cond_false, decide_true, decide_false, Bool.not_true, Bool.not_false, Bool.true_and, Bool.and_true, Bool.and_false, Bool.false_and, Int.toNat_natCast, Int.natCast_nonneg, if_true, if_false, Bool.false_eq_true, Int.toNat_zero, Int.natCast_zero, not_false_eq_true, not_true_eq_false, ite_true, ite_false, hh, hh2, c2, c3]
    · have h2 : i = (l.take (m + 1)).length := by omega
      have hd : (l.take (m + 1)).drop i = [] := List.drop_eq_nil_of_le (by omega)
      rw [hd, List.all_nil]
      by_cases c : l.length ≤ m
      · have hh : ¬ (i : Int) < (l.length : Int) := by omega
        simp only [depotref15_FewNames.t0, bind_some', cond_true, cond_false, decide_true, decide_false, Bool.not_true, Bool.not_false, Bool.true_and, Bool.and_true, Bool.and_false, Bool.false_and, Int.toNat_natCast, Int.natCast_nonneg, if_true, if_false, Bool.false_eq_true, Int.toNat_zero, Int.natCast_zero, not_false_eq_true, not_true_eq_false, ite_true, ite_false, hh]
      · by_cases hh : (i : Int) < (l.length : Int)
        · have hh2 : ¬ (i : Int) ≤ (m : Int) := by omega
          simp only [depotref15_FewNames.t0, bind_some', cond_true, cond_false, decide_true, decide_false, Bool.not_true, Bool.not_false, Bool.true_and, Bool.and_true, Bool.and_false, Bool.false_and, Int.toNat_natCast, Int.natCast_nonneg, if_true, if_false, Bool.false_eq_true, Int.toNat_zero, Int.natCast_zero, not_false_eq_true, not_true_eq_false, ite_true, ite_false, hh, hh2]
        · simp only [depotref15_FewNames.t0, bind_some', cond_true, cond_false, decide_true, decide_false, Bool.not_true, Bool.not_false, Bool.true_and, Bool.and_true, Bool.and_false, Bool.false_and, Int.toNat_natCast, Int.natCast_nonneg, if_true, if_false, Bool.false_eq_true, Int.toNat_zero, Int.natCast_zero, not_false_eq_true, not_true_eq_false, ite_true, ite_false, hh]
end Go.Proofs.X

