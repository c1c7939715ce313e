/-
  A part of the proof. No condition.
-/
import Derived.Test.YtomeobbellhooaaDoorHP4
/- Chapter 16: the laws HopsAgain and HopsMore, as plain Lean. No condition. -/
set_option linter.unusedSimpArgs false
set_option linter.unusedVariables false
namespace Go.Proofs.X
open Go Go.Dp

theorem dropOf_cons (f : Fld) (l : List Fld) (n : List (List UInt8)) : dropOf (f :: l) n = if anySame f.1 n then dropOf l n else f :: dropOf l n := by
  simp only [dropOf, List.filter_cons]
  cases anySame f.1 n <;> simp
theorem dropOf_append (l m : List Fld) (n : List (List UInt8)) : dropOf (l ++ m) n = dropOf l n ++ dropOf m n := by simp [dropOf]
theorem goes_eq (a : List UInt8) (n : List (List UInt8)) : (isHop a || n.any fun x => same x a) = anySame a (n ++ glob_hops_names) := by
  rw [anySame_append, isHop_eq, Bool.or_comm]
  simp only [anySame, same_comm a]

theorem hopsAgain_l0 {K : Nat} {l s : List Fld} {n : List (List UInt8)} (at_ : Int) (j : Nat) (hj : j < l.length) (hf : (l.getD j (([], [], ()) : Fld)).1.length < 1000000) (hn : n.length < 1000000) (h2 : ∀ x ∈ n, x.length < 1000000) (hK : 1000000 ≤ K) :
    depotlaw16_HopsAgain.l0 K K ((l, (s, (n, (at_, ((j : Int), (isHop (l.getD j (([], [], ()) : Fld)).1, (0, ()))))))), ()) = some ((l, (s, (n, (at_, ((j : Int), (anySame (l.getD j (([], [], ()) : Fld)).1 (n ++ glob_hops_names), ())))))), ()) := by
  have H := idx_rule (l := depotlaw16_HopsAgain.l0 K) (depotlaw16_HopsAgain.t0 K) (fun _ _ => rfl) n.length
    (fun i => ((l, (s, (n, (at_, ((j : Int), ((isHop (l.getD j (([], [], ()) : Fld)).1 || (n.take i).any fun x => same x (l.getD j (([], [], ()) : Fld)).1), ((i : Int), ()))))))), ())) (fun i => ((l, (s, (n, (at_, ((j : Int), (anySame (l.getD j (([], [], ()) : Fld)).1 (n ++ glob_hops_names), ())))))), ())) ?_ K 0 (by omega) (by omega)
  · simpa using H
  · intro i rec hi ih
    by_cases h : i < n.length
    · have hh : (i : Int) < (n.length : Int) := by omega
      have w1 := wrapSucc (show i < 9223372036854775807 by omega)
      have hhj : (j : Int) < (l.length : Int) := by omega
      have hm := getD_mem n [] h
      have hc := octet_Same_ok (K := K) (a := n.getD i []) (b := (l.getD j (([], [], ()) : Fld)).1) (by have := h2 _ hm; omega) (by have := h2 _ hm; omega) (by omega) (by omega)
      have ih' := ih h
      rw [take_get n [] h, List.any_append, ← Bool.or_assoc] at ih'
      simp only [List.any_cons, List.any_nil, Bool.or_false] at ih'
      simp only [depotlaw16_HopsAgain.t0, bind_some', cond_true, cond_false, decide_true, decide_false, Bool.not_true, Bool.not_false, Bool.true_and, Bool.and_true, Bool.and_false, Bool.false_and, Int.toNat_natCast, Int.natCast_nonneg, if_true, if_false, Bool.false_eq_true, Int.toNat_zero, Int.natCast_zero, not_false_eq_true, not_true_eq_false, ite_true, ite_false, hh, hhj, w1]
      cases c : (isHop (l.getD j (([], [], ()) : Fld)).1 || (n.take i).any fun x => same x (l.getD j (([], [], ()) : Fld)).1) with
      | true =>
        simp only [c, w1, bind_some', cond_true, cond_false, decide_true, decide_false, Bool.not_true, Bool.not_false, Bool.true_and, Bool.and_true, Bool.and_false, Bool.false_and, Int.toNat_natCast, Int.natCast_nonneg, if_true, if_false, Bool.false_eq_true, Int.toNat_zero, Int.natCast_zero, not_false_eq_true, not_true_eq_false, ite_true, ite_false, Bool.true_or] at ih' ⊢
        exact ih'
      | false =>
        simp only [c, w1, bind_some', cond_true, cond_false, decide_true, decide_false, Bool.not_true, Bool.not_false, Bool.true_and, Bool.and_true, Bool.and_false, Bool.false_and, Int.toNat_natCast, Int.natCast_nonneg, if_true, if_false, Bool.false_eq_true, Int.toNat_zero, Int.natCast_zero, not_false_eq_true, not_true_eq_false, ite_true, ite_false, Bool.false_or, hc] at ih' ⊢
        exact ih'
    · have h2 : i = n.length := by omega
      subst h2
      simp only [depotlaw16_HopsAgain.t0, bind_some', cond_true, cond_false, decide_true, decide_false, Bool.not_true, Bool.not_false, Bool.true_and, Bool.and_true, Bool.and_false, Bool.false_and, Int.toNat_natCast, Int.natCast_nonneg, if_true, if_false, Bool.false_eq_true, Int.toNat_zero, Int.natCast_zero, not_false_eq_true, not_true_eq_false, ite_true, ite_false, Int.lt_irrefl, List.take_length, goes_eq]

theorem hopsAgain_l1 {K : Nat} {l : List Fld} {n : List (List UInt8)} (hl : l.length < 1000000) (hf : ∀ f ∈ l, f.1.length < 1000000) (hn : n.length < 1000000) (h2 : ∀ x ∈ n, x.length < 1000000) (hK : 1000000 ≤ K) :
    depotlaw16_HopsAgain.l1 K K ((l, (dropOf l (n ++ glob_hops_names), (n, (0, (0, ()))))), ()) = some (.inl ((dropOf l (n ++ glob_hops_names), (((dropOf l (n ++ glob_hops_names)).length : Int), ())), ())) := by
  have H := idx_rule (l := depotlaw16_HopsAgain.l1 K) (depotlaw16_HopsAgain.t1 (depotlaw16_HopsAgain.l0 K) K) (fun _ _ => rfl) l.length
    (fun i => ((l, (dropOf l (n ++ glob_hops_names), (n, (((dropOf (l.take i) (n ++ glob_hops_names)).length : Int), ((i : Int), ()))))), ()))
    (fun i => .inl ((dropOf l (n ++ glob_hops_names), (((dropOf l (n ++ glob_hops_names)).length : Int), ())), ())) ?_ K 0 (by omega) (by omega)
  · simpa [dropOf] using H
  · intro i rec hi ih
    by_cases h : i < l.length
    · have hh : (i : Int) < (l.length : Int) := by omega
      have w1 := wrapSucc (show i < 9223372036854775807 by omega)
      have hm := getD_mem l (([], [], ()) : Fld) h
      have hc := hops_Hop_ok (K := K) (name := (l.getD i (([], [], ()) : Fld)).1) (hf _ hm) hK
      have h0 := hopsAgain_l0 (K := K) (s := dropOf l (n ++ glob_hops_names)) (n := n) ((dropOf (l.take i) (n ++ glob_hops_names)).length : Int) i h (hf _ hm) hn h2 hK
      have ih' := ih h
      have e : dropOf (l.take (i + 1)) (n ++ glob_hops_names) = dropOf (l.take i) (n ++ glob_hops_names) ++ (if anySame (l.getD i (([], [], ()) : Fld)).1 (n ++ glob_hops_names) then [] else [l.getD i (([], [], ()) : Fld)]) := by
        rw [take_get l (([], [], ()) : Fld) h, dropOf_append, dropOf_cons]; rfl
      have e2 : dropOf l (n ++ glob_hops_names) = dropOf (l.take i) (n ++ glob_hops_names) ++ ((if anySame (l.getD i (([], [], ()) : Fld)).1 (n ++ glob_hops_names) then [] else [l.getD i (([], [], ()) : Fld)]) ++ dropOf (l.drop (i + 1)) (n ++ glob_hops_names)) := by
        conv => lhs; rw [← List.take_append_drop i l, drop_get l (([], [], ()) : Fld) h]
        rw [dropOf_append, dropOf_cons]
        split <;> rfl
      have hlen : (dropOf (l.take i) (n ++ glob_hops_names)).length ≤ i := by have := dropOf_len (l.take i) (n ++ glob_hops_names); simp at this; omega
      rw [e] at ih'
      simp only [depotlaw16_HopsAgain.t1, bind_some', cond_true, cond_false, decide_true, decide_false, Bool.not_true, Bool.not_false, Bool.true_and, Bool.and_true, Bool.and_false, Bool.false_and, Int.toNat_natCast, Int.natCast_nonneg, if_true, if_false, Bool.false_eq_true, Int.toNat_zero, Int.natCast_zero, not_false_eq_true, not_true_eq_false, ite_true, ite_false, hh, hc, h0, w1]
      cases c : anySame (l.getD i (([], [], ()) : Fld)).1 (n ++ glob_hops_names) with
      | true =>
        simp only [c, w1, bind_some', cond_true, cond_false, decide_true, decide_false, Bool.not_true, Bool.not_false, Bool.true_and, Bool.and_true, Bool.and_false, Bool.false_and, Int.toNat_natCast, Int.natCast_nonneg, if_true, if_false, Bool.false_eq_true, Int.toNat_zero, Int.natCast_zero, not_false_eq_true, not_true_eq_false, ite_true, ite_false, List.append_nil] at ih' ⊢
        exact ih'
      | false =>
        rw [c] at e2
        simp only [bind_some', cond_true, cond_false, decide_true, decide_false, Bool.not_true, Bool.not_false, Bool.true_and, Bool.and_true, Bool.and_false, Bool.false_and, Int.toNat_natCast, Int.natCast_nonneg, if_true, if_false, Bool.false_eq_true, Int.toNat_zero, Int.natCast_zero, not_false_eq_true, not_true_eq_false, ite_true, ite_false] at e2
        generalize hd : dropOf (l.take i) (n ++ glob_hops_names) = d at *
        generalize hs : dropOf l (n ++ glob_hops_names) = s at *
        have hg : s.getD d.length (([], [], ()) : Fld) = l.getD i (([], [], ()) : Fld) := by rw [e2]; simp [List.getD_eq_getElem?_getD]
        have hls : d.length < s.length := by rw [e2]; simp
        have h3 : ¬ (d.length : Int) ≥ (s.length : Int) := by omega
        have h4 : (d.length : Int) < (s.length : Int) := by omega
        have w2 := wrapSucc (show d.length < 9223372036854775807 by omega)
        simp only [c, bind_some', cond_true, cond_false, decide_true, decide_false, Bool.not_true, Bool.not_false, Bool.true_and, Bool.and_true, Bool.and_false, Bool.false_and, Int.toNat_natCast, Int.natCast_nonneg, if_true, if_false, Bool.false_eq_true, Int.toNat_zero, Int.natCast_zero, not_false_eq_true, not_true_eq_false, ite_true, ite_false, h3, h4, hh, w1, w2, hg, beq_self_eq_true]
        simp only [c, bind_some', cond_true, cond_false, decide_true, decide_false, Bool.not_true, Bool.not_false, Bool.true_and, Bool.and_true, Bool.and_false, Bool.false_and, Int.toNat_natCast, Int.natCast_nonneg, if_true, if_false, Bool.false_eq_true, Int.toNat_zero, Int.natCast_zero, not_false_eq_true, not_true_eq_false, ite_true, ite_false, List.length_append, List.length_cons, List.length_nil, Nat.zero_add] at ih'
        exact ih'
    · have h2 : i = l.length := by omega
      subst h2
      simp only [depotlaw16_HopsAgain.t1, bind_some', cond_true, cond_false, decide_true, decide_false, Bool.not_true, Bool.not_false, Bool.true_and, Bool.and_true, Bool.and_false, Bool.false_and, Int.toNat_natCast, Int.natCast_nonneg, if_true, if_false, Bool.false_eq_true, Int.toNat_zero, Int.natCast_zero, not_false_eq_true, not_true_eq_false, ite_true, ite_false, Int.lt_irrefl, List.take_length]

theorem hopsAgain_pure (a0 : List Fld) : ∃ k, depotlaw16_HopsAgain k a0 = some true := by
  refine ⟨100000000, ?_⟩
  obtain ⟨r, h1, h2⟩ := ref09_Few_ok 100000000 a0 70 500 (by decide) (by decide)
  have h1 : depotref09_Few 100000000 a0 70 500 = some r := h1
  have hs := strips_ok 100000000 (by decide)
  cases r with
  | false => simp only [depotlaw16_HopsAgain, depotlaw16_HopsAgain.tr, h1, hs, bind_some', cond_true, cond_false, decide_true, decide_false, Bool.not_true, Bool.not_false, Bool.true_and, Bool.and_true, Bool.and_false, Bool.false_and, Int.toNat_natCast, Int.natCast_nonneg, if_true, if_false, Bool.false_eq_true, Int.toNat_zero, Int.natCast_zero, not_false_eq_true, not_true_eq_false, ite_true, ite_false]
  | true =>
    have hf : few a0 70 := h2 rfl
    obtain ⟨g1, g2⟩ := few_sizes hf (by decide)
    obtain ⟨g3, g4⟩ := few_nom hf (by decide)
    have hl := dropOf_len a0 (nominated a0 ++ glob_hops_names)
    have hmem : ∀ f ∈ dropOf a0 (nominated a0 ++ glob_hops_names), f ∈ a0 ∧ anySame f.1 (nominated a0 ++ glob_hops_names) = false := by
      intro f hx
      obtain ⟨q1, q2⟩ := List.mem_filter.1 hx
      exact ⟨q1, by simpa using q2⟩
    have hf2 : few (dropOf a0 (nominated a0 ++ glob_hops_names)) 70 := ⟨by have := hf.1; omega, fun f hx => hf.2 f (hmem f hx).1⟩
    have hno : nominated (dropOf a0 (nominated a0 ++ glob_hops_names)) = [] := by
      have : allOf (dropOf a0 (nominated a0 ++ glob_hops_names)) conn = [] := by
        simp only [allOf]
        rw [List.map_eq_nil_iff, List.filter_eq_nil_iff]
        intro f hx hc
        have h5 := (hmem f hx).2
        rw [anySame_append] at h5
        have h6 : anySame f.1 glob_hops_names = true := by
          simp only [anySame]
          exact List.any_eq_true.2 ⟨conn, by decide, hc⟩
        rw [h6, Bool.or_true] at h5
        cases h5
      show partsOf (allOf (dropOf a0 (nominated a0 ++ glob_hops_names)) conn) = []
      rw [this]
      rfl
    have hss : dropOf (dropOf a0 (nominated a0 ++ glob_hops_names)) ([] ++ glob_hops_names) = dropOf a0 (nominated a0 ++ glob_hops_names) := by
      simp only [List.nil_append]
      rw [dropOf, List.filter_eq_self]
      intro f hx
      have h5 := (hmem f hx).2
      rw [anySame_append, Bool.or_eq_false_iff] at h5
      simp [h5.2]
    have hq := hops_Strip_ok (K := 100000000) hf2 (show 70 ≤ 1000 by decide) (by decide)
    rw [hno, hss] at hq
    simp only [depotlaw16_HopsAgain, depotlaw16_HopsAgain.tr, h1, hs, bind_some', cond_true, cond_false, decide_true, decide_false, Bool.not_true, Bool.not_false, Bool.true_and, Bool.and_true, Bool.and_false, Bool.false_and, Int.toNat_natCast, Int.natCast_nonneg, if_true, if_false, Bool.false_eq_true, Int.toNat_zero, Int.natCast_zero, not_false_eq_true, not_true_eq_false, ite_true, ite_false, hops_Strip_ok hf (show 70 ≤ 1000 by decide) (show 1000000 ≤ 100000000 by decide), hq,
      ref09_Equal_self (K := 100000000) (dropOf a0 (nominated a0 ++ glob_hops_names)) (by omega) (by decide), hops_Nominated_ok hf (show 70 ≤ 1000 by decide) (show 1000000 ≤ 100000000 by decide),
      hopsAgain_l1 (K := 100000000) (l := a0) (n := nominated a0) g1 g2 (by omega) (fun x hx => by have := g4 x hx; omega) (by decide)]

theorem hopsMore_l0 {K : Nat} {f : Fld} {s m : List Fld} {n : List (List UInt8)} (hf : f.1.length < 1000000) (hn : n.length < 1000000) (h2 : ∀ x ∈ n, x.length < 1000000) (hK : 1000000 ≤ K) :
    depotlaw16_HopsMore.l0 K K ((f, (s, (m, (isHop f.1, (n, (0, ())))))), ([], ())) = some ((f, (s, (m, (anySame f.1 (n ++ glob_hops_names), ())))), ([], ())) := by
  have H := idx_rule (l := depotlaw16_HopsMore.l0 K) (depotlaw16_HopsMore.t0 K) (fun _ _ => rfl) n.length
    (fun i => ((f, (s, (m, ((isHop f.1 || (n.take i).any fun x => same x f.1), (n, ((i : Int), ())))))), ([], ()))) (fun i => ((f, (s, (m, (anySame f.1 (n ++ glob_hops_names), ())))), ([], ()))) ?_ K 0 (by omega) (by omega)
  · simpa using H
  · intro i rec hi ih
    by_cases h : i < n.length
    · have hh : (i : Int) < (n.length : Int) := by omega
      have w1 := wrapSucc (show i < 9223372036854775807 by omega)
      have hm := getD_mem n [] h
      have hc := octet_Same_ok (K := K) (a := n.getD i []) (b := f.1) (by have := h2 _ hm; omega) (by have := h2 _ hm; omega) (by omega) (by omega)
      have ih' := ih h
      rw [take_get n [] h, List.any_append, ← Bool.or_assoc] at ih'
      simp only [List.any_cons, List.any_nil, Bool.or_false] at ih'
      simp only [depotlaw16_HopsMore.t0, bind_some', cond_true, cond_false, decide_true, decide_false, Bool.not_true, Bool.not_false, Bool.true_and, Bool.and_true, Bool.and_false, Bool.false_and, Int.toNat_natCast, Int.natCast_nonneg, if_true, if_false, Bool.false_eq_true, Int.toNat_zero, Int.natCast_zero, not_false_eq_true, not_true_eq_false, ite_true, ite_false, hh, w1]
      cases c : (isHop f.1 || (n.take i).any fun x => same x f.1) with
      | true =>
        simp only [c, w1, bind_some', cond_true, cond_false, decide_true, decide_false, Bool.not_true, Bool.not_false, Bool.true_and, Bool.and_true, Bool.and_false, Bool.false_and, Int.toNat_natCast, Int.natCast_nonneg, if_true, if_false, Bool.false_eq_true, Int.toNat_zero, Int.natCast_zero, not_false_eq_true, not_true_eq_false, ite_true, ite_false, Bool.true_or] at ih' ⊢
        exact ih'
      | false =>
        simp only [c, w1, bind_some', cond_true, cond_false, decide_true, decide_false, Bool.not_true, Bool.not_false, Bool.true_and, Bool.and_true, Bool.and_false, Bool.false_and, Int.toNat_natCast, Int.natCast_nonneg, if_true, if_false, Bool.false_eq_true, Int.toNat_zero, Int.natCast_zero, not_false_eq_true, not_true_eq_false, ite_true, ite_false, Bool.false_or, hc] at ih' ⊢
        exact ih'
    · have h2 : i = n.length := by omega
      subst h2
      simp only [depotlaw16_HopsMore.t0, bind_some', cond_true, cond_false, decide_true, decide_false, Bool.not_true, Bool.not_false, Bool.true_and, Bool.and_true, Bool.and_false, Bool.false_and, Int.toNat_natCast, Int.natCast_nonneg, if_true, if_false, Bool.false_eq_true, Int.toNat_zero, Int.natCast_zero, not_false_eq_true, not_true_eq_false, ite_true, ite_false, Int.lt_irrefl, List.take_length, goes_eq]
theorem fields_Same_self {K : Nat} (l : List Fld) (hl : l.length < 1000000) (hf : ∀ f ∈ l, f.1.length < 1000000) (hK : 1000000 ≤ K) : fields_Same K l l = some true := by
  have H := idx_rule (l := fields_Same.l0 K) (fields_Same.t0 K) (fun _ _ => rfl) l.length
    (fun i => ((l, (l, ((l.length : Int), ((i : Int), ())))), ())) (fun i => .inl ((), ())) ?_ K 0 (by omega) (by omega)
  · simp only [Int.natCast_zero] at H
    simp only [fields_Same, fields_Same.tr, H, bind_some', cond_true, cond_false, decide_true, decide_false, Bool.not_true, Bool.not_false, Bool.true_and, Bool.and_true, Bool.and_false, Bool.false_and, Int.toNat_natCast, Int.natCast_nonneg, if_true, if_false, Bool.false_eq_true, Int.toNat_zero, Int.natCast_zero, not_false_eq_true, not_true_eq_false, ite_true, ite_false]
  · intro i rec hi ih
    by_cases h : i < l.length
    · have hh : (i : Int) < (l.length : Int) := by omega
      have w1 := wrapSucc (show i < 9223372036854775807 by omega)
      have hm := getD_mem l (([], [], ()) : Fld) h
      have hc := octet_Same_ok (K := K) (a := (l.getD i (([], [], ()) : Fld)).1) (b := (l.getD i (([], [], ()) : Fld)).1) (by have := hf _ hm; omega) (by have := hf _ hm; omega) (by have := hf _ hm; omega) (by have := hf _ hm; omega)
      simp only [fields_Same.t0, bind_some', cond_true, cond_false, decide_true, decide_false, Bool.not_true, Bool.not_false, Bool.true_and, Bool.and_true, Bool.and_false, Bool.false_and, Int.toNat_natCast, Int.natCast_nonneg, if_true, if_false, Bool.false_eq_true, Int.toNat_zero, Int.natCast_zero, not_false_eq_true, not_true_eq_false, ite_true, ite_false, hh, hc, same_self, beq_self_eq_true, w1]
      exact ih h
    · have h2 : i = l.length := by omega
      subst h2
      simp only [fields_Same.t0, bind_some', cond_true, cond_false, decide_true, decide_false, Bool.not_true, Bool.not_false, Bool.true_and, Bool.and_true, Bool.and_false, Bool.false_and, Int.toNat_natCast, Int.natCast_nonneg, if_true, if_false, Bool.false_eq_true, Int.toNat_zero, Int.natCast_zero, not_false_eq_true, not_true_eq_false, ite_true, ite_false, Int.lt_irrefl]

theorem hopsMore_pure (a0 : List Fld) (a1 : Fld) : ∃ k, depotlaw16_HopsMore k a0 a1 = some true := by
  refine ⟨100000000, ?_⟩
  obtain ⟨r, h1, h2⟩ := ref09_Few_ok 100000000 a0 70 500 (by decide) (by decide)
  have h1 : depotref09_Few 100000000 a0 70 500 = some r := h1
  obtain ⟨r', h3, h4⟩ := ref09_Few_ok 100000000 [a1] 1 500 (by decide) (by decide)
  have h3 : depotref09_Few 100000000 [a1] 1 500 = some r' := h3
  have hs := strips_ok 100000000 (by decide)
  cases r with
  | false => simp only [depotlaw16_HopsMore, depotlaw16_HopsMore.tr, h1, hs, bind_some', cond_true, cond_false, decide_true, decide_false, Bool.not_true, Bool.not_false, Bool.true_and, Bool.and_true, Bool.and_false, Bool.false_and, Int.toNat_natCast, Int.natCast_nonneg, if_true, if_false, Bool.false_eq_true, Int.toNat_zero, Int.natCast_zero, not_false_eq_true, not_true_eq_false, ite_true, ite_false]
  | true =>
    cases r' with
    | false => simp only [depotlaw16_HopsMore, depotlaw16_HopsMore.tr, h1, h3, hs, bind_some', cond_true, cond_false, decide_true, decide_false, Bool.not_true, Bool.not_false, Bool.true_and, Bool.and_true, Bool.and_false, Bool.false_and, Int.toNat_natCast, Int.natCast_nonneg, if_true, if_false, Bool.false_eq_true, Int.toNat_zero, Int.natCast_zero, not_false_eq_true, not_true_eq_false, ite_true, ite_false]
    | true =>
      have hf : few a0 70 := h2 rfl
      have ha := (h4 rfl).2 a1 List.mem_cons_self
      have ha1 := ha.1
      have hc := octet_Same_ok (K := 100000000) (a := a1.1) (b := conn) (by omega) (by omega) (by decide) (by decide)
      simp only [conn] at hc
      by_cases c0 : same a1.1 [67, 111, 110, 110, 101, 99, 116, 105, 111, 110] = true
      · simp only [depotlaw16_HopsMore, depotlaw16_HopsMore.tr, h1, h3, hs, hc, c0, bind_some', cond_true, cond_false, decide_true, decide_false, Bool.not_true, Bool.not_false, Bool.true_and, Bool.and_true, Bool.and_false, Bool.false_and, Int.toNat_natCast, Int.natCast_nonneg, if_true, if_false, Bool.false_eq_true, Int.toNat_zero, Int.natCast_zero, not_false_eq_true, not_true_eq_false, ite_true, ite_false]
      · have c0 : same a1.1 [67, 111, 110, 110, 101, 99, 116, 105, 111, 110] = false := by simpa using c0
        have hf2 : few (a1 :: a0) 71 := ⟨by have := hf.1; simp; omega, fun f hx => by
          rcases List.mem_cons.1 hx with rfl | hx
          · exact ha
          · exact hf.2 f hx⟩
        have hno : nominated (a1 :: a0) = nominated a0 := by
          simp only [nominated, allOf, List.filter_cons]
          rw [if_neg (by simpa [conn] using c0)]
        have hfl := hf.1
        have hroom : (1 + a0.length) * 32 ≤ maxRoom := by simp only [maxRoom]; omega
        obtain ⟨g1, g2⟩ := few_sizes hf (by decide)
        obtain ⟨g3, g4⟩ := few_nom hf (by decide)
        have hq := hops_Strip_ok (K := 100000000) hf2 (show 71 ≤ 1000 by decide) (by decide)
        rw [hno, dropOf_cons] at hq
        have hl := dropOf_len a0 (nominated a0 ++ glob_hops_names)
        have hmem : ∀ f ∈ dropOf a0 (nominated a0 ++ glob_hops_names), f.1.length < 1000000 := fun f hx => g2 f (List.mem_filter.1 hx).1
        simp only [depotlaw16_HopsMore, depotlaw16_HopsMore.tr, h1, h3, hs, hc, c0, bind_some', cond_true, cond_false, decide_true, decide_false, Bool.not_true, Bool.not_false, Bool.true_and, Bool.and_true, Bool.and_false, Bool.false_and, Int.toNat_natCast, Int.natCast_nonneg, if_true, if_false, Bool.false_eq_true, Int.toNat_zero, Int.natCast_zero, not_false_eq_true, not_true_eq_false, ite_true, ite_false, hops_Strip_ok hf (show 70 ≤ 1000 by decide) (show 1000000 ≤ 100000000 by decide), hroom, List.singleton_append, hq,
          hops_Hop_ok (K := 100000000) (name := a1.1) (by omega) (by decide), hops_Nominated_ok hf (show 70 ≤ 1000 by decide) (show 1000000 ≤ 100000000 by decide),
          hopsMore_l0 (K := 100000000) (f := a1) (n := nominated a0) (by omega) (by omega) (fun x hx => by have := g4 x hx; omega) (by decide)]
        cases c : anySame a1.1 (nominated a0 ++ glob_hops_names) with
        | true => simp only [bind_some', cond_true, cond_false, decide_true, decide_false, Bool.not_true, Bool.not_false, Bool.true_and, Bool.and_true, Bool.and_false, Bool.false_and, Int.toNat_natCast, Int.natCast_nonneg, if_true, if_false, Bool.false_eq_true, Int.toNat_zero, Int.natCast_zero, not_false_eq_true, not_true_eq_false, ite_true, ite_false, ref09_Equal_self (K := 100000000) (dropOf a0 (nominated a0 ++ glob_hops_names)) (by omega) (by decide)]
        | false =>
          have w := wrapSucc (show (dropOf a0 (nominated a0 ++ glob_hops_names)).length < 9223372036854775807 by omega)
          have q1 : (0 : Int) < ((dropOf a0 (nominated a0 ++ glob_hops_names)).length + 1 : Nat) := by omega
          have q2 : (1 : Int) ≤ ((dropOf a0 (nominated a0 ++ glob_hops_names)).length + 1 : Nat) := by omega
          have q3 := cut_end (a1 :: dropOf a0 (nominated a0 ++ glob_hops_names)) 1
          rw [List.length_cons] at q3
          simp only [bind_some', cond_true, cond_false, decide_true, decide_false, Bool.not_true, Bool.not_false, Bool.true_and, Bool.and_true, Bool.and_false, Bool.false_and, Int.toNat_natCast, Int.natCast_nonneg, if_true, if_false, Bool.false_eq_true, Int.toNat_zero, Int.natCast_zero, not_false_eq_true, not_true_eq_false, ite_true, ite_false, List.length_cons, w, q1, q2, q3, List.drop_succ_cons, List.drop_zero, List.getD_cons_zero, beq_self_eq_true, fields_Same_self (K := 100000000) (dropOf a0 (nominated a0 ++ glob_hops_names)) (by omega) hmem (by decide), Int.le_refl, Nat.le_refl, Nat.zero_le]
end Go.Proofs.X
