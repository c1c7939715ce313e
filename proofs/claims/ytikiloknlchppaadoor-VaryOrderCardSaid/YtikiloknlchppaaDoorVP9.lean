/-
  A part of the proof. No condition.
-/
import Derived.Test.YtikiloknlchppaaDoorVP8
/- Chapter 15: the laws VaryOwn and VaryOrder, as plain Lean. -/
set_option linter.unusedSimpArgs false
set_option linter.unusedVariables false
namespace Go.Proofs.X
open Go Go.Dp

theorem sized_few {l : List Fld} {m b : Nat} (h : l.length ≤ m ∧ ∀ f ∈ l, small b f) (hm : m < 1000000) (hb : b < 100000) : sized l :=
  ⟨by omega, fun f hf => by obtain ⟨h1, h2⟩ := h.2 f hf; exact ⟨by omega, by omega⟩⟩
theorem match_own (names : List (List UInt8)) (l : List Fld) : matchOf (picksOf names l) l = true := by
  simp only [matchOf, picksOf, List.all_eq_true, decide_eq_true_eq, List.mem_map]
  rintro x ⟨n, _, rfl⟩
  rfl
def lowF (f : Fld) : Fld := (lower f.1, f.2)
theorem allOf_lowF (l : List Fld) (n : List UInt8) : allOf (l.map lowF) n = allOf l n := by
  induction l with
  | nil => rfl
  | cons f l ih =>
    have e : same (lowF f).1 n = same f.1 n := by simp [same, lowF, lower_lower]
    have e2 : (lowF f).2 = f.2 := rfl
    simp only [allOf] at ih
    simp only [allOf, List.map_cons, List.filter_cons, e]
    split
    · simp only [List.map_cons, ih, e2]
    · exact ih
theorem match_low (names : List (List UInt8)) (l : List Fld) (f : Fld) (h : names.any (fun n => same n f.1) = false) : matchOf (picksOf names l) (f :: l.map lowF) = true := by
  simp only [matchOf, picksOf, List.all_eq_true, decide_eq_true_eq, List.mem_map]
  rintro x ⟨n, hn, rfl⟩
  have h1 : same f.1 n = false := by
    rw [same_comm]
    have := List.any_eq_false.1 h n hn
    simpa using this
  have h2 : allOf (f :: l.map lowF) n = allOf l n := by
    rw [← allOf_lowF l n]
    simp only [allOf, List.filter_cons, h1, Bool.false_eq_true, if_false]
  show pickOf n (f :: l.map lowF) = pickOf n l
  simp only [pickOf, h2]
theorem own_l0 {K : Nat} (a0 : List (List UInt8)) (l : List Fld) (f : Fld) (p : List Pick) (h : sized l) (hK : 1000000 + 100 ≤ K) :
    depotlaw15_VaryOwn.l0 K K ((a0, (l, (f, (p, ((), (0, ())))))), ([f], ())) = some ((a0, (f, (p, ((), ())))), (f :: l.map lowF, ())) := by
  have hlen := h.1
  have H := idx_rule (l := depotlaw15_VaryOwn.l0 K) (depotlaw15_VaryOwn.t0 K) (fun _ _ => rfl) l.length
    (fun i => ((a0, (l, (f, (p, ((), ((i : Int), ())))))), (f :: (l.take i).map lowF, ()))) (fun i => ((a0, (f, (p, ((), ())))), (f :: l.map lowF, ()))) ?_ K 0 (by omega) (by omega)
  · exact H
  · intro i rec hi ih
    by_cases h' : i < l.length
    · have hh : (i : Int) < (l.length : Int) := by omega
      have w1 := wrapSucc (show i < 9223372036854775807 by omega)
      have hm := (h.2 _ (getD_mem l (([], [], ()) : Fld) h')).1
      have hl := octet_Lower_ok (K := K) (s := (l.getD i (([], [], ()) : Fld)).1) (by omega) (by omega)
      have ih' := ih h'
      rw [take_get l (([], [], ()) : Fld) h', List.map_append, List.map_cons, List.map_nil] at ih'
      have hr : ((f :: (l.take i).map lowF).length + 1) * 32 ≤ maxRoom := by simp [maxRoom]; omega
      simp only [depotlaw15_VaryOwn.t0, bind_some', cond_true, cond_false, decide_true, decide_false, Bool.not_true, Bool.not_false, Bool.true_and, Bool.and_true, Bool.and_false, Bool.false_and, Int.toNat_natCast, Int.natCast_nonneg, if_true, if_false, Bool.false_eq_true, Int.toNat_zero, Int.natCast_zero, not_false_eq_true, not_true_eq_false, ite_true, ite_false, hh, hl, hr, w1]
      exact ih'
    · have h2 : i = l.length := by omega
      subst h2
      simp only [depotlaw15_VaryOwn.t0, bind_some', cond_true, cond_false, decide_true, decide_false, Bool.not_true, Bool.not_false, Bool.true_and, Bool.and_true, Bool.and_false, Bool.false_and, Int.toNat_natCast, Int.natCast_nonneg, if_true, if_false, Bool.false_eq_true, Int.toNat_zero, Int.natCast_zero, not_false_eq_true, not_true_eq_false, ite_true, ite_false, Int.lt_irrefl, List.take_length]
theorem own_l1 {K : Nat} (a0 : List (List UInt8)) (f : Fld) (p : List Pick) (m : List Fld) (hn : a0.length < 1000000) (h0 : ∀ n ∈ a0, n.length < 1000000) (hf : f.1.length < 1000000) (hK : 1000000 + 100 ≤ K) :
    depotlaw15_VaryOwn.l1 K K ((a0, (f, (p, ((), (0, ()))))), (m, ())) = some (if a0.any (fun n => same n f.1) then .inr ((true, ()), (m, ())) else .inl ((p, ((), ())), (m, ()))) := by
  have hs := varies_ok hK
  have H := idx_rule (l := depotlaw15_VaryOwn.l1 K) (depotlaw15_VaryOwn.t1 K) (fun _ _ => rfl) a0.length
    (fun i => ((a0, (f, (p, ((), ((i : Int), ()))))), (m, ()))) (fun i => if (a0.drop i).any (fun n => same n f.1) then .inr ((true, ()), (m, ())) else .inl ((p, ((), ())), (m, ()))) ?_ K 0 (by omega) (by omega)
  · rw [List.drop_zero] at H
    exact H
  · intro i rec hi ih
    by_cases h' : i < a0.length
    · have hh : (i : Int) < (a0.length : Int) := by omega
      have w1 := wrapSucc (show i < 9223372036854775807 by omega)
      have hm := h0 _ (getD_mem a0 [] h')
      have hsm := octet_Same_ok (K := K) (a := a0.getD i []) (b := f.1) (by omega) (by omega) (by omega) (by omega)
      have ih' := ih h'
      have hd : a0.drop i = a0.getD i [] :: a0.drop (i + 1) := by
        rw [List.drop_eq_getElem_cons h']
        simp [List.getD_eq_getElem?_getD, h']
      rw [hd, List.any_cons]
      cases c : same (a0.getD i []) f.1 with
      | true => simp only [depotlaw15_VaryOwn.t1, bind_some', cond_true, cond_false, decide_true, decide_false, Bool.not_true, Bool.not_false, Bool.true_and, Bool.and_true, Bool.and_false, Bool.false_and, Int.toNat_natCast, Int.natCast_nonneg, if_true, if_false, Bool.false_eq_true, Int.toNat_zero, Int.natCast_zero, not_false_eq_true, not_true_eq_false, ite_true, ite_false, hh, hsm, c, hs, Bool.true_or]
      | false =>
        simp only [depotlaw15_VaryOwn.t1, bind_some', cond_true, cond_false, decide_true, decide_false, Bool.not_true, Bool.not_false, Bool.true_and, Bool.and_true, Bool.and_false, Bool.false_and, Int.toNat_natCast, Int.natCast_nonneg, if_true, if_false, Bool.false_eq_true, Int.toNat_zero, Int.natCast_zero, not_false_eq_true, not_true_eq_false, ite_true, ite_false, hh, hsm, c, w1, Bool.false_or]
        exact ih'
    · have h2 : i = a0.length := by omega
      subst h2
      simp only [depotlaw15_VaryOwn.t1, bind_some', cond_true, cond_false, decide_true, decide_false, Bool.not_true, Bool.not_false, Bool.true_and, Bool.and_true, Bool.and_false, Bool.false_and, Int.toNat_natCast, Int.natCast_nonneg, if_true, if_false, Bool.false_eq_true, Int.toNat_zero, Int.natCast_zero, not_false_eq_true, not_true_eq_false, ite_true, ite_false, Int.lt_irrefl, List.drop_length, List.any_nil]
theorem varyOwn_pure (a0 : List (List UInt8)) (a1 : List Fld) (a2 : Fld) (v0 : vok (.list .str) a0) (v1 : vok (.list (.scons .str (.scons .str .snil))) a1) (v2 : vok (.scons .str (.scons .str .snil)) a2) : ∃ k, depotlaw15_VaryOwn k a0 a1 a2 = some true := by
  refine ⟨2000000, ?_⟩
  have hK : 1000000 + 100 ≤ 2000000 := by decide
  have hs := varies_ok hK
  obtain ⟨r, h1, h2⟩ := ref09_Few_ok 2000000 a1 70 500 (by decide) (by decide)
  have h1 : depotref09_Few 2000000 a1 70 500 = some r := h1
  cases r with
  | false => simp only [depotlaw15_VaryOwn, depotlaw15_VaryOwn.tr, h1, hs, bind_some', cond_true, cond_false, decide_true, decide_false, Bool.not_true, Bool.not_false, Bool.true_and, Bool.and_true, Bool.and_false, Bool.false_and, Int.toNat_natCast, Int.natCast_nonneg, if_true, if_false, Bool.false_eq_true, Int.toNat_zero, Int.natCast_zero, not_false_eq_true, not_true_eq_false, ite_true, ite_false]
  | true =>
    obtain ⟨r, h3, h4⟩ := ref15_FewNames_ok 2000000 a0 30 500 (by decide) (by decide)
    have h3 : depotref15_FewNames 2000000 a0 30 500 = some r := h3
    cases r with
    | false => simp only [depotlaw15_VaryOwn, depotlaw15_VaryOwn.tr, h1, h3, hs, bind_some', cond_true, cond_false, decide_true, decide_false, Bool.not_true, Bool.not_false, Bool.true_and, Bool.and_true, Bool.and_false, Bool.false_and, Int.toNat_natCast, Int.natCast_nonneg, if_true, if_false, Bool.false_eq_true, Int.toNat_zero, Int.natCast_zero, not_false_eq_true, not_true_eq_false, ite_true, ite_false]
    | true =>
      obtain ⟨r, h5, h6⟩ := ref09_Few_ok 2000000 [a2] 1 500 (by decide) (by decide)
      have h5 : depotref09_Few 2000000 [a2] 1 500 = some r := h5
      cases r with
      | false => simp only [depotlaw15_VaryOwn, depotlaw15_VaryOwn.tr, h1, h3, h5, hs, bind_some', cond_true, cond_false, decide_true, decide_false, Bool.not_true, Bool.not_false, Bool.true_and, Bool.and_true, Bool.and_false, Bool.false_and, Int.toNat_natCast, Int.natCast_nonneg, if_true, if_false, Bool.false_eq_true, Int.toNat_zero, Int.natCast_zero, not_false_eq_true, not_true_eq_false, ite_true, ite_false]
      | true =>
        have z1 := sized_few (h2 rfl) (by decide) (by decide)
        obtain ⟨n1, n2⟩ := h4 rfl
        have f2 := (h6 rfl).2 a2 (by simp)
        have hp := vary_Picks_ok (K := 2000000) (names := a0) z1 (by omega) (fun n hn => by have := n2 n hn; omega) (by decide)
        have hpl : (picksOf a0 a1).length = a0.length := by simp [picksOf]
        have hpx : ∀ x ∈ picksOf a0 a1, x.1.length < 1000000 := by
          intro x hx
          obtain ⟨n, hn, rfl⟩ := List.mem_map.1 hx
          have := n2 n hn
          show n.length < 1000000
          omega
        have hm := vary_Match_ok (K := 2000000) (l := a1) (p := picksOf a0 a1) z1 (by omega) hpx (by decide)
        rw [match_own] at hm
        have hm0 := vary_Match_nil 2000000 a1 (by decide)
        have z2 : sized (a2 :: a1.map lowF) := by
          refine ⟨by have := (h2 rfl).1; simp; omega, fun g hg => ?_⟩
          rcases List.mem_cons.1 hg with rfl | hg
          · exact ⟨by have := f2.1; omega, by have := f2.2; omega⟩
          · obtain ⟨x, hx, rfl⟩ := List.mem_map.1 hg
            have := z1.2 x hx
            exact ⟨by simpa [lowF, lower] using this.1, this.2⟩
        have hq := vary_Match_ok (K := 2000000) (l := a2 :: a1.map lowF) (p := picksOf a0 a1) z2 (by omega) hpx (by decide)
        have k0 := own_l0 (K := 2000000) a0 a1 a2 (picksOf a0 a1) z1 hK
        have k1 := own_l1 (K := 2000000) a0 a2 (picksOf a0 a1) (a2 :: a1.map lowF) (by omega) (fun n hn => by have := n2 n hn; omega) (by have := f2.1; omega) hK
        have hpe : decide (((picksOf a0 a1).length : Int) = (a0.length : Int)) = true := decide_eq_true (by omega)
        cases c : a0.any (fun n => same n a2.1) with
        | true =>
          rw [c] at k1
          simp only [depotlaw15_VaryOwn, depotlaw15_VaryOwn.tr, h1, h3, h5, hs, bind_some', cond_true, cond_false, decide_true, decide_false, Bool.not_true, Bool.not_false, Bool.true_and, Bool.and_true, Bool.and_false, Bool.false_and, Int.toNat_natCast, Int.natCast_nonneg, if_true, if_false, Bool.false_eq_true, Int.toNat_zero, Int.natCast_zero, not_false_eq_true, not_true_eq_false, ite_true, ite_false, hp, hpe, hm, hm0, k0, k1]
        | false =>
          rw [c] at k1
          rw [match_low a0 a1 a2 c] at hq
          simp only [depotlaw15_VaryOwn, depotlaw15_VaryOwn.tr, h1, h3, h5, hs, bind_some', cond_true, cond_false, decide_true, decide_false, Bool.not_true, Bool.not_false, Bool.true_and, Bool.and_true, Bool.and_false, Bool.false_and, Int.toNat_natCast, Int.natCast_nonneg, if_true, if_false, Bool.false_eq_true, Int.toNat_zero, Int.natCast_zero, not_false_eq_true, not_true_eq_false, ite_true, ite_false, hp, hpe, hm, hm0, k0, k1, hq]

/-! The order of names. -/
theorem allOf_append (a b : List Fld) (n : List UInt8) : allOf (a ++ b) n = allOf a n ++ allOf b n := by simp [allOf]
theorem allOf_reverse (a : List Fld) (n : List UInt8) : allOf a.reverse n = (allOf a n).reverse := by simp [allOf]
theorem names_back (l : List Fld) : namesO (l.reverse ++ l) = namesO l := by
  rw [namesO, allOf_append, allOf_reverse, namesO]
  have h1 : ((allOf l hV).reverse ++ allOf l hV).all goodV = (allOf l hV).all goodV := by simp [List.all_append, List.all_reverse]
  have h2 : ord (toks ((allOf l hV).reverse ++ allOf l hV)) = ord (toks (allOf l hV)) := by
    refine ord_eq fun k => ?_
    simp only [toks, List.mem_flatMap, List.mem_append, List.mem_reverse, or_self]
  rw [namesV, h1, h2]
  rfl
theorem order15_l0 {K : Nat} (l : List Fld) (a : List (List UInt8)) (ok : Bool) (hl : l.length ≤ 1000000) (hK : 1000000 + 100 ≤ K) :
    depotlaw15_VaryOrder.l0 K K ((l, (a, (ok, ((), (IntKind.wrap .i64 ((l.length : Int) - 1), ()))))), ([], ())) = some ((l, (a, (ok, ((), ())))), (l.reverse, ())) := by
  have e0 : ∀ i : Nat, i ≤ l.length → IntKind.wrap .i64 ((l.length : Int) - i - 1) = (l.length : Int) - ((i + 1 : Nat) : Int) := by
    intro i hi
    rw [wrap64 (by omega) (by omega)]; omega
  have H := idx_rule (l := depotlaw15_VaryOrder.l0 K) (depotlaw15_VaryOrder.t0 K) (fun _ _ => rfl) l.length
    (fun i => ((l, (a, (ok, ((), ((l.length : Int) - ((i + 1 : Nat) : Int), ()))))), ((l.drop (l.length - i)).reverse, ()))) (fun i => ((l, (a, (ok, ((), ())))), (l.reverse, ()))) ?_ K 0 (by omega) (by omega)
  · have e := e0 0 (by omega)
    rw [Int.natCast_zero, Int.sub_zero] at e
    rw [e]
    simp only [Nat.sub_zero, List.drop_length, List.reverse_nil] at H
    exact H
  · intro i rec hi ih
    by_cases h : i < l.length
    · have ih' := ih h
      have hix : l.length - (i + 1) < l.length := by omega
      have hn : (l.length : Int) - ((i + 1 : Nat) : Int) = ((l.length - (i + 1) : Nat) : Int) := by omega
      have hge : ((l.length - (i + 1) : Nat) : Int) ≥ 0 := by omega
      have hlt : ((l.length - (i + 1) : Nat) : Int) < (l.length : Int) := by omega
      have hd : l.drop (l.length - (i + 1)) = l.getD (l.length - (i + 1)) (([], [], ()) : Fld) :: l.drop (l.length - i) := by
        rw [drop_get l (([], [], ()) : Fld) hix, show l.length - (i + 1) + 1 = l.length - i by omega]
      rw [hd, List.reverse_cons] at ih'
      have hw : IntKind.wrap .i64 (((l.length - (i + 1) : Nat) : Int) - 1) = (l.length : Int) - ((i + 1 + 1 : Nat) : Int) := by
        rw [wrap64 (by omega) (by omega)]; omega
      have hm1 : ((l.drop (l.length - i)).reverse.length + 1) * 32 ≤ maxRoom := by simp [maxRoom]; omega
      simp only [hn, depotlaw15_VaryOrder.t0, bind_some', cond_true, cond_false, decide_true, decide_false, Bool.not_true, Bool.not_false, Bool.true_and, Bool.and_true, Bool.and_false, Bool.false_and, Int.toNat_natCast, Int.natCast_nonneg, if_true, if_false, Bool.false_eq_true, Int.toNat_zero, Int.natCast_zero, not_false_eq_true, not_true_eq_false, ite_true, ite_false, hge, hlt, hm1, hw]
      exact ih'
    · have h2 : i = l.length := by omega
      subst h2
      have hge : ¬ (l.length : Int) - ((l.length + 1 : Nat) : Int) ≥ 0 := by omega
      simp only [depotlaw15_VaryOrder.t0, bind_some', cond_true, cond_false, decide_true, decide_false, Bool.not_true, Bool.not_false, Bool.true_and, Bool.and_true, Bool.and_false, Bool.false_and, Int.toNat_natCast, Int.natCast_nonneg, if_true, if_false, Bool.false_eq_true, Int.toNat_zero, Int.natCast_zero, not_false_eq_true, not_true_eq_false, ite_true, ite_false, hge, Nat.sub_self, List.drop_zero]
theorem order15_l1 {K : Nat} (a : List (List UInt8)) (z : List Fld) (hl : a.length < 1000000000) (hp : a.Pairwise (· < ·)) (h1 : ∀ k ∈ a, lower k = k ∧ isTok k = true ∧ k.length < 1000000) (hK : 1000000000 + 100 ≤ K) :
    depotlaw15_VaryOrder.l1 K K ((a, (0, ())), (z, ())) = some (.inl ((), (z, ()))) := by
  have H := idx_rule (l := depotlaw15_VaryOrder.l1 K) (depotlaw15_VaryOrder.t1 K) (fun _ _ => rfl) a.length
    (fun i => ((a, ((i : Int), ())), (z, ()))) (fun i => .inl ((), (z, ()))) ?_ K 0 (by omega) (by omega)
  · exact H
  · intro i rec hi ih
    by_cases h : i < a.length
    · have ih' := ih h
      have hh : (i : Int) < (a.length : Int) := by omega
      have w1 := wrapSucc (show i < 9223372036854775807 by omega)
      obtain ⟨e1, e2, e3⟩ := h1 _ (getD_mem a [] h)
      have hl1 := octet_Lower_ok (K := K) (s := a.getD i []) (by omega) (by omega)
      have ht := octet_IsToken_ok (K := K) (s := a.getD i []) (by omega) (by omega)
      rw [e1] at hl1
      rw [e2] at ht
      by_cases h0 : i = 0
      · subst h0
        have hz : ¬ ((0 : Nat) : Int) > 0 := by omega
        simp only [depotlaw15_VaryOrder.t1, bind_some', cond_true, cond_false, decide_true, decide_false, Bool.not_true, Bool.not_false, Bool.true_and, Bool.and_true, Bool.and_false, Bool.false_and, Int.toNat_natCast, Int.natCast_nonneg, if_true, if_false, Bool.false_eq_true, Int.toNat_zero, Int.natCast_zero, not_false_eq_true, not_true_eq_false, ite_true, ite_false, hh, hl1, ht, hz, beq_self_eq_true, w1]
        have hz : ¬ (0 : Int) > 0 := by omega
        have hh : (0 : Int) < (a.length : Int) := by omega
        have w1 : IntKind.i64.wrap (0 + 1) = ((0 + 1 : Nat) : Int) := rfl
        simp only [bind_some', cond_true, cond_false, decide_true, decide_false, Bool.not_true, Bool.not_false, Bool.true_and, Bool.and_true, Bool.and_false, Bool.false_and, Int.toNat_natCast, Int.natCast_nonneg, if_true, if_false, Bool.false_eq_true, Int.toNat_zero, Int.natCast_zero, not_false_eq_true, not_true_eq_false, ite_true, ite_false, hh, hl1, ht, hz, beq_self_eq_true, w1, Int.le_refl]
        exact ih'
      · have hz : (i : Int) > 0 := by omega
        have w2 : IntKind.wrap .i64 ((i : Int) - 1) = ((i - 1 : Nat) : Int) := by rw [wrap64 (by omega) (by omega)]; omega
        have hh2 : ((i - 1 : Nat) : Int) < (a.length : Int) := by omega
        have hlt : a.getD (i - 1) [] < a.getD i [] := by
          have hi1 : i - 1 < a.length := by omega
          have := List.pairwise_iff_getElem.1 hp (i - 1) i hi1 h (by omega)
          simpa [List.getD_eq_getElem?_getD, h, hi1] using this
        have b1 : Op.bytesLess (a.getD i []) (a.getD (i - 1) []) = false := by
          rw [bless_eq]
          exact decide_eq_false fun c => List.lt_irrefl _ (List.lt_trans c hlt)
        have b2 : (a.getD i [] == a.getD (i - 1) []) = false := by
          rw [beq_eq_false_iff_ne]
          intro e
          rw [e] at hlt
          exact List.lt_irrefl _ hlt
        simp only [depotlaw15_VaryOrder.t1, bind_some', cond_true, cond_false, decide_true, decide_false, Bool.not_true, Bool.not_false, Bool.true_and, Bool.and_true, Bool.and_false, Bool.false_and, Int.toNat_natCast, Int.natCast_nonneg, if_true, if_false, Bool.false_eq_true, Int.toNat_zero, Int.natCast_zero, not_false_eq_true, not_true_eq_false, ite_true, ite_false, hh, hl1, ht, hz, w2, hh2, b1, b2, beq_self_eq_true, w1, Bool.or_self]
        exact ih'
    · have h2 : i = a.length := by omega
      subst h2
      simp only [depotlaw15_VaryOrder.t1, bind_some', cond_true, cond_false, decide_true, decide_false, Bool.not_true, Bool.not_false, Bool.true_and, Bool.and_true, Bool.and_false, Bool.false_and, Int.toNat_natCast, Int.natCast_nonneg, if_true, if_false, Bool.false_eq_true, Int.toNat_zero, Int.natCast_zero, not_false_eq_true, not_true_eq_false, ite_true, ite_false, Int.lt_irrefl]
theorem isTok_lower (s : List UInt8) : isTok (lower s) = isTok s := by
  have h : (lower s).all tok = s.all tok := by
    induction s with
    | nil => rfl
    | cons b s ih =>
      simp only [lower] at ih
      simp only [lower, List.map_cons, List.all_cons, tok_low, ih]
  have h2 : (lower s).isEmpty = s.isEmpty := by cases s <;> rfl
  simp only [isTok, h, h2]
theorem names_facts {m : Nat} {vs : List (List UInt8)} (hv : ∀ v ∈ vs, v.length ≤ m) (h : vs.all goodV = true) : ∀ k ∈ ord (toks vs), lower k = k ∧ isTok k = true ∧ k.length ≤ m := by
  intro k hk
  rw [ord_mem] at hk
  obtain ⟨v, hvm, hk⟩ := List.mem_flatMap.1 hk
  obtain ⟨x, hx, rfl⟩ := List.mem_map.1 hk
  have h1 := List.all_eq_true.1 h v hvm
  simp only [goodV, Bool.and_eq_true] at h1
  have h2 := List.all_eq_true.1 h1.2 x hx
  simp only [okT, Bool.and_eq_true] at h2
  refine ⟨lower_lower x, by rw [isTok_lower]; exact h2.2, ?_⟩
  have h3 := splitS_items v x hx
  have h4 := hv v hvm
  simp only [lower, List.length_map]
  omega
theorem varyOrder_pure (a0 : List Fld) (v0 : vok (.list (.scons .str (.scons .str .snil))) a0) : ∃ k, depotlaw15_VaryOrder k a0 = some true := by
  refine ⟨2000000000, ?_⟩
  have hK : 1000000 + 100 ≤ 2000000000 := by decide
  have hs := varies_ok hK
  obtain ⟨r, h1, h2⟩ := ref09_Few_ok 2000000000 a0 70 500 (by decide) (by decide)
  have h1 : depotref09_Few 2000000000 a0 70 500 = some r := h1
  cases r with
  | false => simp only [depotlaw15_VaryOrder, depotlaw15_VaryOrder.tr, h1, hs, bind_some', cond_true, cond_false, decide_true, decide_false, Bool.not_true, Bool.not_false, Bool.true_and, Bool.and_true, Bool.and_false, Bool.false_and, Int.toNat_natCast, Int.natCast_nonneg, if_true, if_false, Bool.false_eq_true, Int.toNat_zero, Int.natCast_zero, not_false_eq_true, not_true_eq_false, ite_true, ite_false]
  | true =>
    have hf := h2 rfl
    have z1 := sized_few hf (by decide) (by decide)
    have hn := vary_Names_ok (K := 2000000000) z1 hK
    have z2 : sized (a0.reverse ++ a0) := ⟨by simp; omega, fun f hm => by
      rcases List.mem_append.1 hm with hm | hm
      · exact z1.2 f (List.mem_reverse.1 hm)
      · exact z1.2 f hm⟩
    have hn2 := vary_Names_ok (K := 2000000000) z2 hK
    rw [names_back] at hn2
    have hr : (a0.reverse.length + a0.length) * 32 ≤ maxRoom := by simp [maxRoom]; omega
    have hv : ∀ v ∈ allOf a0 hV, v.length ≤ 500 := allOf_mem fun f hm => (hf.2 f hm).2
    have hal := allOf_len a0 hV
    have htl := toks_len (allOf a0 hV) hv
    have hol := ord_len (toks (allOf a0 hV))
    have hmul : (allOf a0 hV).length * (500 + 1) ≤ 70 * 501 := Nat.mul_le_mul (by omega) (by omega)
    cases c : (allOf a0 hV).all goodV with
    | false =>
      have e : namesO a0 = ([], false, ()) := by rw [namesO, namesV, c]; rfl
      rw [e] at hn hn2
      have k0 := order15_l0 (K := 2000000000) a0 [] false (by omega) hK
      have hsm := ref06_Same_self (K := 2000000000) [] (by decide) (by decide)
      have k1 := order15_l1 (K := 2000000000) [] [] (by decide) List.Pairwise.nil (fun k hk => by cases hk) (by decide)
      have hz : decide ((([] : List (List UInt8)).length : Int) > 0) = false := rfl
      simp only [depotlaw15_VaryOrder, depotlaw15_VaryOrder.tr, h1, hs, bind_some', cond_true, cond_false, decide_true, decide_false, Bool.not_true, Bool.not_false, Bool.true_and, Bool.and_true, Bool.and_false, Bool.false_and, Int.toNat_natCast, Int.natCast_nonneg, if_true, if_false, Bool.false_eq_true, Int.toNat_zero, Int.natCast_zero, not_false_eq_true, not_true_eq_false, ite_true, ite_false, hn, k0, hr, hn2, hsm, beq_self_eq_true, hz, k1]
    | true =>
      have e : namesO a0 = (ord (toks (allOf a0 hV)), true, ()) := by rw [namesO, namesV, c]; rfl
      rw [e] at hn hn2
      have k0 := order15_l0 (K := 2000000000) a0 (ord (toks (allOf a0 hV))) true (by omega) hK
      have hsm := ref06_Same_self (K := 2000000000) (ord (toks (allOf a0 hV))) (by omega) (by decide)
      have k1 := order15_l1 (K := 2000000000) (ord (toks (allOf a0 hV))) [] (by omega) (ord_pair _) (fun k hk => by obtain ⟨q1, q2, q3⟩ := names_facts hv c k hk; exact ⟨q1, q2, by omega⟩) (by decide)
      simp only [depotlaw15_VaryOrder, depotlaw15_VaryOrder.tr, h1, hs, bind_some', cond_true, cond_false, decide_true, decide_false, Bool.not_true, Bool.not_false, Bool.true_and, Bool.and_true, Bool.and_false, Bool.false_and, Int.toNat_natCast, Int.natCast_nonneg, if_true, if_false, Bool.false_eq_true, Int.toNat_zero, Int.natCast_zero, not_false_eq_true, not_true_eq_false, ite_true, ite_false, hn, k0, hr, hn2, hsm, beq_self_eq_true, k1]
end Go.Proofs.X

