/-
  A part of the proof. No condition.
-/
import Derived.Test.YtomeobbellhooaaDoorHP3
/- Chapter 16 (hops): what each printed function gives. No condition but on sizes. -/
set_option linter.unusedSimpArgs false
set_option linter.unusedVariables false
namespace Go.Proofs.X
open Go Go.Dp

theorem splitS_err (v : List UInt8) : (splitS v).2.1 = 0 ∨ ((splitS v).2.1 = 5 ∧ (splitS v).1 = []) := by
  unfold splitS
  simp only
  split
  · exact .inr ⟨rfl, rfl⟩
  · exact .inl rfl
theorem spl_items : ∀ (n m : Nat) (q : Bool) (cur : List UInt8) (out : List (List UInt8)) (r : List UInt8), r.length ≤ n → cur.length + r.length ≤ m → (∀ x ∈ out, x.length ≤ m) → ∀ x ∈ (spl q cur out r).2.2, x.length ≤ m := by
  intro n m
  have ap : ∀ (out : List (List UInt8)) (cur : List UInt8), cur.length ≤ m → (∀ x ∈ out, x.length ≤ m) → ∀ x ∈ addPart out cur, x.length ≤ m := by
    intro out cur hc ho x hx
    unfold addPart at hx
    split at hx
    · exact ho x hx
    · rcases List.mem_append.1 hx with hx | hx
      · exact ho x hx
      · obtain rfl := List.mem_singleton.1 hx
        have := length_trim cur
        omega
  induction n with
  | zero =>
    intro q cur out r h hc ho
    obtain rfl : r = [] := List.length_eq_zero_iff.1 (by omega)
    simpa [spl] using ho
  | succ n ih =>
    intro q cur out r h hc ho
    cases r with
    | nil => simpa [spl] using ho
    | cons c r =>
      simp only [List.length_cons] at h hc
      rw [spl_cons]
      split
      · exact ih _ _ _ _ (by omega) (by simp; omega) ho
      · split
        · cases r with
          | nil => exact ho
          | cons d r => simp only [List.length_cons] at h hc; exact ih _ _ _ _ (by omega) (by simp; omega) ho
        · split
          · exact ih _ _ _ _ (by omega) (by simp; omega) (ap _ _ (by omega) ho)
          · exact ih _ _ _ _ (by omega) (by simp; omega) ho
theorem splitS_items (v : List UInt8) : ∀ x ∈ (splitS v).1, x.length ≤ v.length := by
  have h1 := spl_items v.length v.length false [] [] v (by omega) (by simp) (by simp)
  obtain ⟨⟨p, h2⟩, _⟩ := spl_suffix v.length false [] [] v (by omega)
  unfold splitS
  simp only
  split
  · intro x hx; cases hx
  · intro x hx
    simp only at hx
    unfold addPart at hx
    split at hx
    · exact h1 x hx
    · rcases List.mem_append.1 hx with hx | hx
      · exact h1 x hx
      · obtain rfl := List.mem_singleton.1 hx
        have h3 := length_trim (spl false [] [] v).2.1
        have h4 := congrArg List.length h2
        simp at h4
        omega
theorem splitS_count (v : List UInt8) : (splitS v).1.length ≤ v.length + 1 := by
  obtain ⟨_, h2⟩ := spl_suffix v.length false [] [] v (by omega)
  unfold splitS
  simp only
  split
  · simp
  · have := addPart_len (spl false [] [] v).2.2 (spl false [] [] v).2.1
    simp at h2 ⊢
    omega

def partsOf (vs : List (List UInt8)) : List (List UInt8) := vs.flatMap fun v => (splitS v).1
theorem partsOf_len (vs : List (List UInt8)) (b : Nat) (h : ∀ v ∈ vs, v.length ≤ b) : (partsOf vs).length ≤ vs.length * (b + 1) := by
  induction vs with
  | nil => simp [partsOf]
  | cons v vs ih =>
    have h1 := ih fun x hx => h x (List.mem_cons_of_mem _ hx)
    have h2 := splitS_count v
    have h3 := h v List.mem_cons_self
    have h4 : partsOf (v :: vs) = (splitS v).1 ++ partsOf vs := by simp [partsOf]
    rw [h4, List.length_append, List.length_cons, Nat.add_mul]
    omega
theorem partsOf_items (vs : List (List UInt8)) (b : Nat) (h : ∀ v ∈ vs, v.length ≤ b) : ∀ x ∈ partsOf vs, x.length ≤ b := by
  intro x hx
  obtain ⟨v, hv, hx⟩ := List.mem_flatMap.1 hx
  have h1 := splitS_items v x hx
  have h2 := h v hv
  omega
theorem partsOf_snoc (vs : List (List UInt8)) (v : List UInt8) : partsOf (vs ++ [v]) = partsOf vs ++ (splitS v).1 := by simp [partsOf]
theorem partsOf_cons (vs : List (List UInt8)) (v : List UInt8) : partsOf (v :: vs) = (splitS v).1 ++ partsOf vs := by simp [partsOf]

theorem hops_Nominated_l0 {K : Nat} (vs : List (List UInt8)) (hl : vs.length ≤ 1000) (hv : ∀ v ∈ vs, v.length ≤ 1000) (hK : 1000000 ≤ K) :
    hops_Nominated.l0 K K (((), (vs, ((vs.length : Int), (0, ())))), ([], ([], ()))) = some (((), ()), ([], (partsOf vs, ()))) := by
  have H := idx_rule (l := hops_Nominated.l0 K) (hops_Nominated.t0 K) (fun _ _ => rfl) vs.length
    (fun i => (((), (vs, ((vs.length : Int), ((i : Int), ())))), ([], (partsOf (vs.take i), ())))) (fun i => (((), ()), ([], (partsOf vs, ())))) ?_ K 0 (by omega) (by omega)
  · exact H
  · intro i rec hi ih
    by_cases h : i < vs.length
    · have hh : (i : Int) < (vs.length : Int) := by omega
      have w1 := wrapSucc (show i < 9223372036854775807 by omega)
      have hm := getD_mem vs [] h
      have hb := hv _ hm
      have hc := items_Split_ok (K := K) (s := vs.getD i []) (by omega) (by omega)
      have hp := partsOf_len (vs.take i) 1000 (fun v hx => hv v (List.mem_of_mem_take hx))
      have hq := splitS_count (vs.getD i [])
      have hp2 : (vs.take i).length * (1000 + 1) ≤ 1000 * 1001 := by
        have : (vs.take i).length ≤ 1000 := by simp; omega
        exact Nat.mul_le_mul this (by omega)
      have hmax : ((partsOf (vs.take i)).length + (splitS (vs.getD i [])).1.length) * 16 ≤ maxRoom := by simp only [maxRoom]; omega
      have ih' := ih h
      rw [take_get vs [] h, partsOf_snoc] at ih'
      simp only [hops_Nominated.t0, bind_some', cond_true, cond_false, decide_true, decide_false, Bool.not_true, Bool.not_false, Bool.true_and, Bool.and_true, Bool.and_false, Bool.false_and, Int.toNat_natCast, Int.natCast_nonneg, if_true, if_false, Bool.false_eq_true, Int.toNat_zero, Int.natCast_zero, not_false_eq_true, not_true_eq_false, ite_true, ite_false, hh, hc, w1]
      rcases splitS_err (vs.getD i []) with e | ⟨e, e2⟩
      · simp only [e, hmax, w1, bind_some', cond_true, cond_false, decide_true, decide_false, Bool.not_true, Bool.not_false, Bool.true_and, Bool.and_true, Bool.and_false, Bool.false_and, Int.toNat_natCast, Int.natCast_nonneg, if_true, if_false, Bool.false_eq_true, Int.toNat_zero, Int.natCast_zero, not_false_eq_true, not_true_eq_false, ite_true, ite_false]
        exact ih'
      · rw [e2, List.append_nil] at ih'
        simp only [e, w1, bind_some', cond_true, cond_false, decide_true, decide_false, Bool.not_true, Bool.not_false, Bool.true_and, Bool.and_true, Bool.and_false, Bool.false_and, Int.toNat_natCast, Int.natCast_nonneg, if_true, if_false, Bool.false_eq_true, Int.toNat_zero, Int.natCast_zero, not_false_eq_true, not_true_eq_false, ite_true, ite_false, show ¬ (5 : Int) = 0 by decide]
        exact ih'
    · have h2 : i = vs.length := by omega
      subst h2
      simp only [hops_Nominated.t0, bind_some', cond_true, cond_false, decide_true, decide_false, Bool.not_true, Bool.not_false, Bool.true_and, Bool.and_true, Bool.and_false, Bool.false_and, Int.toNat_natCast, Int.natCast_nonneg, if_true, if_false, Bool.false_eq_true, Int.toNat_zero, Int.natCast_zero, not_false_eq_true, not_true_eq_false, ite_true, ite_false, Int.lt_irrefl, List.take_length]
theorem hops_Strip_l0 {K : Nat} (vs : List (List UInt8)) (hl : vs.length ≤ 1000) (hv : ∀ v ∈ vs, v.length ≤ 1000) (hK : 1000000 ≤ K) :
    hops_Strip.l0 K K (((), (vs, ((vs.length : Int), (0, ())))), ([], ([], ()))) = some (((), ()), ([], (partsOf vs, ()))) := by
  have H := idx_rule (l := hops_Strip.l0 K) (hops_Strip.t0 K) (fun _ _ => rfl) vs.length
    (fun i => (((), (vs, ((vs.length : Int), ((i : Int), ())))), ([], (partsOf (vs.take i), ())))) (fun i => (((), ()), ([], (partsOf vs, ())))) ?_ K 0 (by omega) (by omega)
  · exact H
  · intro i rec hi ih
    by_cases h : i < vs.length
    · have hh : (i : Int) < (vs.length : Int) := by omega
      have w1 := wrapSucc (show i < 9223372036854775807 by omega)
      have hm := getD_mem vs [] h
      have hb := hv _ hm
      have hc := items_Split_ok (K := K) (s := vs.getD i []) (by omega) (by omega)
      have hp := partsOf_len (vs.take i) 1000 (fun v hx => hv v (List.mem_of_mem_take hx))
      have hq := splitS_count (vs.getD i [])
      have hp2 : (vs.take i).length * (1000 + 1) ≤ 1000 * 1001 := by
        have : (vs.take i).length ≤ 1000 := by simp; omega
        exact Nat.mul_le_mul this (by omega)
      have hmax : ((partsOf (vs.take i)).length + (splitS (vs.getD i [])).1.length) * 16 ≤ maxRoom := by simp only [maxRoom]; omega
      have ih' := ih h
      rw [take_get vs [] h, partsOf_snoc] at ih'
      simp only [hops_Strip.t0, bind_some', cond_true, cond_false, decide_true, decide_false, Bool.not_true, Bool.not_false, Bool.true_and, Bool.and_true, Bool.and_false, Bool.false_and, Int.toNat_natCast, Int.natCast_nonneg, if_true, if_false, Bool.false_eq_true, Int.toNat_zero, Int.natCast_zero, not_false_eq_true, not_true_eq_false, ite_true, ite_false, hh, hc, w1]
      rcases splitS_err (vs.getD i []) with e | ⟨e, e2⟩
      · simp only [e, hmax, w1, bind_some', cond_true, cond_false, decide_true, decide_false, Bool.not_true, Bool.not_false, Bool.true_and, Bool.and_true, Bool.and_false, Bool.false_and, Int.toNat_natCast, Int.natCast_nonneg, if_true, if_false, Bool.false_eq_true, Int.toNat_zero, Int.natCast_zero, not_false_eq_true, not_true_eq_false, ite_true, ite_false]
        exact ih'
      · rw [e2, List.append_nil] at ih'
        simp only [e, w1, bind_some', cond_true, cond_false, decide_true, decide_false, Bool.not_true, Bool.not_false, Bool.true_and, Bool.and_true, Bool.and_false, Bool.false_and, Int.toNat_natCast, Int.natCast_nonneg, if_true, if_false, Bool.false_eq_true, Int.toNat_zero, Int.natCast_zero, not_false_eq_true, not_true_eq_false, ite_true, ite_false, show ¬ (5 : Int) = 0 by decide]
        exact ih'
    · have h2 : i = vs.length := by omega
      subst h2
      simp only [hops_Strip.t0, bind_some', cond_true, cond_false, decide_true, decide_false, Bool.not_true, Bool.not_false, Bool.true_and, Bool.and_true, Bool.and_false, Bool.false_and, Int.toNat_natCast, Int.natCast_nonneg, if_true, if_false, Bool.false_eq_true, Int.toNat_zero, Int.natCast_zero, not_false_eq_true, not_true_eq_false, ite_true, ite_false, Int.lt_irrefl, List.take_length]
theorem hops_Strip_l1 {K : Nat} (l : List Fld) (o : List (List UInt8)) (hl : o.length < 10000000) (hK : 1000000 ≤ K) :
    hops_Strip.l1 K K ((l, ((), (glob_hops_names, (0, ())))), ([], (o, ()))) = some ((l, ((), ())), ([], (o ++ glob_hops_names, ()))) := by
  have hn : glob_hops_names.length = 10 := rfl
  have H := idx_rule (l := hops_Strip.l1 K) (hops_Strip.t1 K) (fun _ _ => rfl) 10
    (fun i => ((l, ((), (glob_hops_names, ((i : Int), ())))), ([], (o ++ glob_hops_names.take i, ())))) (fun i => ((l, ((), ())), ([], (o ++ glob_hops_names, ())))) ?_ K 0 (by omega) (by omega)
  · simpa using H
  · intro i rec hi ih
    by_cases h : i < 10
    · have hh : (i : Int) < 10 := by omega
      have w1 := wrapSucc (show i < 9223372036854775807 by omega)
      have hmax : ((o ++ glob_hops_names.take i).length + 1) * 16 ≤ maxRoom := by simp [maxRoom]; omega
      have ih' := ih h
      rw [take_get glob_hops_names [] (by omega), ← List.append_assoc] at ih'
      simp only [hops_Strip.t1, bind_some', cond_true, cond_false, decide_true, decide_false, Bool.not_true, Bool.not_false, Bool.true_and, Bool.and_true, Bool.and_false, Bool.false_and, Int.toNat_natCast, Int.natCast_nonneg, if_true, if_false, Bool.false_eq_true, Int.toNat_zero, Int.natCast_zero, not_false_eq_true, not_true_eq_false, ite_true, ite_false, hh, hmax, w1]
      exact ih'
    · have h2 : i = 10 := by omega
      subst h2
      have e : glob_hops_names.take 10 = glob_hops_names := rfl
      rw [e]
      have hx : ¬ ((10 : Nat) : Int) < 10 := by decide
      simp only [hops_Strip.t1, bind_some', cond_true, cond_false, decide_true, decide_false, Bool.not_true, Bool.not_false, Bool.true_and, Bool.and_true, Bool.and_false, Bool.false_and, Int.toNat_natCast, Int.natCast_nonneg, if_true, if_false, Bool.false_eq_true, Int.toNat_zero, Int.natCast_zero, not_false_eq_true, not_true_eq_false, ite_true, ite_false, hx]

def conn : List UInt8 := [67, 111, 110, 110, 101, 99, 116, 105, 111, 110]
def nominated (l : List Fld) : List (List UInt8) := partsOf (allOf l conn)
def few (l : List Fld) (m : Nat) : Prop := l.length ≤ m ∧ ∀ f ∈ l, small 500 f
theorem few_all {l : List Fld} {m : Nat} (h : few l m) (name : List UInt8) : (allOf l name).length ≤ m ∧ ∀ v ∈ allOf l name, v.length ≤ 500 := by
  refine ⟨?_, fun v hv => ?_⟩
  · have := List.length_filter_le (fun f : Fld => same f.1 name) l
    simp only [allOf, List.length_map]
    have := h.1
    omega
  · obtain ⟨f, hf, rfl⟩ := List.mem_map.1 hv
    exact (h.2 f (List.mem_filter.1 hf).1).2
theorem few_nom {l : List Fld} {m : Nat} (h : few l m) (hm : m ≤ 1000) : (nominated l).length ≤ 501000 ∧ ∀ v ∈ nominated l, v.length ≤ 500 := by
  obtain ⟨h1, h2⟩ := few_all h conn
  have h3 := partsOf_len _ 500 h2
  refine ⟨?_, partsOf_items _ 500 h2⟩
  have : (allOf l conn).length * (500 + 1) ≤ 1000 * 501 := Nat.mul_le_mul (by omega) (by omega)
  simp only [nominated]
  omega
theorem few_sizes {l : List Fld} {m : Nat} (h : few l m) (hm : m ≤ 1000) : l.length < 1000000 ∧ ∀ f ∈ l, f.1.length < 1000000 :=
  ⟨by have := h.1; omega, fun f hf => by have := (h.2 f hf).1; omega⟩

theorem hops_Nominated_ok {K m : Nat} {l : List Fld} (h : few l m) (hm : m ≤ 1000) (hK : 1000000 ≤ K) : hops_Nominated K l = some (nominated l) := by
  obtain ⟨h1, h2⟩ := few_sizes h hm
  obtain ⟨h3, h4⟩ := few_all h conn
  have hA := fields_All_ok (K := K) (name := conn) h1 h2 (by decide) hK
  have hL := hops_Nominated_l0 (K := K) (allOf l conn) (by omega) (fun v hv => by have := h4 v hv; omega) hK
  simp only [conn] at hA hL
  simp only [hops_Nominated, hops_Nominated.tr, hA, hL, bind_some', cond_true, cond_false, decide_true, decide_false, Bool.not_true, Bool.not_false, Bool.true_and, Bool.and_true, Bool.and_false, Bool.false_and, Int.toNat_natCast, Int.natCast_nonneg, if_true, if_false, Bool.false_eq_true, Int.toNat_zero, Int.natCast_zero, not_false_eq_true, not_true_eq_false, ite_true, ite_false, nominated, conn]
theorem hops_Strip_ok {K m : Nat} {l : List Fld} (h : few l m) (hm : m ≤ 1000) (hK : 1000000 ≤ K) : hops_Strip K l = some (dropOf l (nominated l ++ glob_hops_names)) := by
  obtain ⟨h1, h2⟩ := few_sizes h hm
  obtain ⟨h3, h4⟩ := few_all h conn
  obtain ⟨h5, h6⟩ := few_nom h hm
  have hA := fields_All_ok (K := K) (name := conn) h1 h2 (by decide) hK
  have hL := hops_Strip_l0 (K := K) (allOf l conn) (by omega) (fun v hv => by have := h4 v hv; omega) hK
  have hL1 := hops_Strip_l1 (K := K) l (nominated l) (by omega) hK
  have hD := fields_Drop_ok (K := K) (names := nominated l ++ glob_hops_names) h1 h2 (by
    have : glob_hops_names.length = 10 := rfl
    rw [List.length_append]; omega) (fun n hn => by
      rcases List.mem_append.1 hn with hn | hn
      · have := h6 n hn; omega
      · have : ∀ n ∈ glob_hops_names, n.length < 1000000 := by decide
        exact this n hn) hK
  simp only [nominated, conn] at hA hL hL1 hD
  simp only [hops_Strip, hops_Strip.tr, hA, hL, hL1, hD, bind_some', cond_true, cond_false, decide_true, decide_false, Bool.not_true, Bool.not_false, Bool.true_and, Bool.and_true, Bool.and_false, Bool.false_and, Int.toNat_natCast, Int.natCast_nonneg, if_true, if_false, Bool.false_eq_true, Int.toNat_zero, Int.natCast_zero, not_false_eq_true, not_true_eq_false, ite_true, ite_false, nominated, conn]

def isHop (name : List UInt8) : Bool := glob_hops_names.any fun n => same n name
theorem hops_Hop_ok {K : Nat} {name : List UInt8} (h : name.length < 1000000) (hK : 1000000 ≤ K) : hops_Hop K name = some (isHop name) := by
  have hn : glob_hops_names.length = 10 := rfl
  have hs : ∀ n ∈ glob_hops_names, n.length < 1000000 := by decide
  have H := idx_rule (l := hops_Hop.l0 K) (hops_Hop.t0 K) (fun _ _ => rfl) 10
    (fun i => ((name, (glob_hops_names, ((i : Int), ()))), ())) (fun i => if ((glob_hops_names.drop i).any fun n => same n name) = true then .inr ((true, ()), ()) else .inl ((), ())) ?_ K 0 (by omega) (by omega)
  · simp only [Int.natCast_zero, List.drop_zero] at H
    simp only [hops_Hop, hops_Hop.tr, H, isHop]
    by_cases c : (glob_hops_names.any fun n => same n name) = true
    · simp only [c, bind_some', cond_true, cond_false, decide_true, decide_false, Bool.not_true, Bool.not_false, Bool.true_and, Bool.and_true, Bool.and_false, Bool.false_and, Int.toNat_natCast, Int.natCast_nonneg, if_true, if_false, Bool.false_eq_true, Int.toNat_zero, Int.natCast_zero, not_false_eq_true, not_true_eq_false, ite_true, ite_false]
    · simp only [c, bind_some', cond_true, cond_false, decide_true, decide_false, Bool.not_true, Bool.not_false, Bool.true_and, Bool.and_true, Bool.and_false, Bool.false_and, Int.toNat_natCast, Int.natCast_nonneg, if_true, if_false, Bool.false_eq_true, Int.toNat_zero, Int.natCast_zero, not_false_eq_true, not_true_eq_false, ite_true, ite_false]
  · intro i rec hi ih
    by_cases h1 : i < 10
    · have hh : (i : Int) < 10 := by omega
      have w1 := wrapSucc (show i < 9223372036854775807 by omega)
      have hm := getD_mem glob_hops_names [] (show i < glob_hops_names.length by omega)
      have hc := octet_Same_ok (K := K) (a := glob_hops_names.getD i []) (b := name) (by have := hs _ hm; omega) (by have := hs _ hm; omega) (by omega) (by omega)
      have ih' := ih h1
      rw [drop_get glob_hops_names [] (by omega)]
      simp only [hops_Hop.t0, bind_some', cond_true, cond_false, decide_true, decide_false, Bool.not_true, Bool.not_false, Bool.true_and, Bool.and_true, Bool.and_false, Bool.false_and, Int.toNat_natCast, Int.natCast_nonneg, if_true, if_false, Bool.false_eq_true, Int.toNat_zero, Int.natCast_zero, not_false_eq_true, not_true_eq_false, ite_true, ite_false, hh, hc, w1, List.any_cons]
      by_cases c : same (glob_hops_names.getD i []) name = true
      · simp only [c, bind_some', cond_true, cond_false, decide_true, decide_false, Bool.not_true, Bool.not_false, Bool.true_and, Bool.and_true, Bool.and_false, Bool.false_and, Int.toNat_natCast, Int.natCast_nonneg, if_true, if_false, Bool.false_eq_true, Int.toNat_zero, Int.natCast_zero, not_false_eq_true, not_true_eq_false, ite_true, ite_false, Bool.true_or]
      · simp only [c, bind_some', cond_true, cond_false, decide_true, decide_false, Bool.not_true, Bool.not_false, Bool.true_and, Bool.and_true, Bool.and_false, Bool.false_and, Int.toNat_natCast, Int.natCast_nonneg, if_true, if_false, Bool.false_eq_true, Int.toNat_zero, Int.natCast_zero, not_false_eq_true, not_true_eq_false, ite_true, ite_false, w1, Bool.false_or]
        exact ih'
    · have h2 : i = 10 := by omega
      subst h2
      have e : glob_hops_names.drop 10 = [] := rfl
      have hx : ¬ ((10 : Nat) : Int) < 10 := by decide
      rw [e]
      simp only [hops_Hop.t0, bind_some', cond_true, cond_false, decide_true, decide_false, Bool.not_true, Bool.not_false, Bool.true_and, Bool.and_true, Bool.and_false, Bool.false_and, Int.toNat_natCast, Int.natCast_nonneg, if_true, if_false, Bool.false_eq_true, Int.toNat_zero, Int.natCast_zero, not_false_eq_true, not_true_eq_false, ite_true, ite_false, hx, List.any_nil]
theorem ref16_Hop_ok {K : Nat} {name : List UInt8} (h : name.length < 1000000) (hK : 1000000 ≤ K) : depotref16_Hop K name = some (isHop name) := by
  have hn : glob_hops_names.length = 10 := rfl
  have hs : ∀ n ∈ glob_hops_names, n.length < 1000000 := by decide
  have H := idx_rule (l := depotref16_Hop.l0 K) (depotref16_Hop.t0 K) (fun _ _ => rfl) 10
    (fun i => ((name, (glob_hops_names, ((i : Int), ()))), ())) (fun i => if ((glob_hops_names.drop i).any fun n => same n name) = true then .inr ((true, ()), ()) else .inl ((), ())) ?_ K 0 (by omega) (by omega)
  · simp only [Int.natCast_zero, List.drop_zero] at H
    have H' : depotref16_Hop K name = (depotref16_Hop.l0 K K ((name, (glob_hops_names, (0, ()))), ())).bind fun y5 => (match y5 with | .inl z6 => (some false) | .inr z7 => (some z7.1.1)) := rfl
    rw [H', H, isHop]
    by_cases c : (glob_hops_names.any fun n => same n name) = true
    · simp only [c, bind_some', cond_true, cond_false, decide_true, decide_false, Bool.not_true, Bool.not_false, Bool.true_and, Bool.and_true, Bool.and_false, Bool.false_and, Int.toNat_natCast, Int.natCast_nonneg, if_true, if_false, Bool.false_eq_true, Int.toNat_zero, Int.natCast_zero, not_false_eq_true, not_true_eq_false, ite_true, ite_false]
    · simp only [c, bind_some', cond_true, cond_false, decide_true, decide_false, Bool.not_true, Bool.not_false, Bool.true_and, Bool.and_true, Bool.and_false, Bool.false_and, Int.toNat_natCast, Int.natCast_nonneg, if_true, if_false, Bool.false_eq_true, Int.toNat_zero, Int.natCast_zero, not_false_eq_true, not_true_eq_false, ite_true, ite_false]
  · intro i rec hi ih
    by_cases h1 : i < 10
    · have hh : (i : Int) < 10 := by omega
      have w1 := wrapSucc (show i < 9223372036854775807 by omega)
      have hhl : (i : Int) < (glob_hops_names.length : Int) := by omega
      have hm := getD_mem glob_hops_names [] (show i < glob_hops_names.length by omega)
      have hc := ref01_Same_ok (K := K) (a := glob_hops_names.getD i []) (b := name) (by have := hs _ hm; omega) (by have := hs _ hm; omega) (by omega) (by omega)
      have ih' := ih h1
      rw [drop_get glob_hops_names [] (by omega)]
      simp only [depotref16_Hop.t0, bind_some', cond_true, cond_false, decide_true, decide_false, Bool.not_true, Bool.not_false, Bool.true_and, Bool.and_true, Bool.and_false, Bool.false_and, Int.toNat_natCast, Int.natCast_nonneg, if_true, if_false, Bool.false_eq_true, Int.toNat_zero, Int.natCast_zero, not_false_eq_true, not_true_eq_false, ite_true, ite_false, hhl, hc, w1, List.any_cons]
      by_cases c : same (glob_hops_names.getD i []) name = true
      · simp only [c, bind_some', cond_true, cond_false, decide_true, decide_false, Bool.not_true, Bool.not_false, Bool.true_and, Bool.and_true, Bool.and_false, Bool.false_and, Int.toNat_natCast, Int.natCast_nonneg, if_true, if_false, Bool.false_eq_true, Int.toNat_zero, Int.natCast_zero, not_false_eq_true, not_true_eq_false, ite_true, ite_false, Bool.true_or]
      · simp only [c, bind_some', cond_true, cond_false, decide_true, decide_false, Bool.not_true, Bool.not_false, Bool.true_and, Bool.and_true, Bool.and_false, Bool.false_and, Int.toNat_natCast, Int.natCast_nonneg, if_true, if_false, Bool.false_eq_true, Int.toNat_zero, Int.natCast_zero, not_false_eq_true, not_true_eq_false, ite_true, ite_false, w1, Bool.false_or]
        exact ih'
    · have h2 : i = 10 := by omega
      subst h2
      have e : glob_hops_names.drop 10 = [] := rfl
      have hx : ¬ ((10 : Nat) : Int) < (glob_hops_names.length : Int) := by rw [hn]; decide
      rw [e]
      simp only [depotref16_Hop.t0, bind_some', cond_true, cond_false, decide_true, decide_false, Bool.not_true, Bool.not_false, Bool.true_and, Bool.and_true, Bool.and_false, Bool.false_and, Int.toNat_natCast, Int.natCast_nonneg, if_true, if_false, Bool.false_eq_true, Int.toNat_zero, Int.natCast_zero, not_false_eq_true, not_true_eq_false, ite_true, ite_false, hx, List.any_nil]

theorem ref16_Nominated_ok {K m : Nat} {l : List Fld} (h : few l m) (hm : m ≤ 1000) (hK : 1000000 ≤ K) : depotref16_Nominated K l = some (nominated l) := by
  obtain ⟨h1, h2⟩ := few_sizes h hm
  obtain ⟨h3, h4⟩ := few_all h conn
  have hA := ref09_All_ok (K := K) (name := conn) h1 h2 (by decide) hK
  simp only [conn] at hA
  simp only [depotref16_Nominated, depotref16_Nominated.tr, hA, bind_some', cond_true, cond_false, decide_true, decide_false, Bool.not_true, Bool.not_false, Bool.true_and, Bool.and_true, Bool.and_false, Bool.false_and, Int.toNat_natCast, Int.natCast_nonneg, if_true, if_false, Bool.false_eq_true, Int.toNat_zero, Int.natCast_zero, not_false_eq_true, not_true_eq_false, ite_true, ite_false, nominated]
  change Option.bind (depotref16_Nominated.l0 K K (((), (allOf l conn, (0, ()))), ([], ([], ())))) _ = _
  generalize allOf l conn = vs at h3 h4
  have H := idx_rule (l := depotref16_Nominated.l0 K) (depotref16_Nominated.t0 K) (fun _ _ => rfl) vs.length
    (fun i => (((), (vs, ((i : Int), ()))), ([], (partsOf (vs.take i), ())))) (fun i => (((), ()), ([], (partsOf vs, ())))) ?_ K 0 (by omega) (by omega)
  · simp only [Int.natCast_zero, List.take_zero] at H
    rw [show partsOf [] = [] from rfl] at H
    rw [H]
    simp only [bind_some', cond_true, cond_false, decide_true, decide_false, Bool.not_true, Bool.not_false, Bool.true_and, Bool.and_true, Bool.and_false, Bool.false_and, Int.toNat_natCast, Int.natCast_nonneg, if_true, if_false, Bool.false_eq_true, Int.toNat_zero, Int.natCast_zero, not_false_eq_true, not_true_eq_false, ite_true, ite_false]
  · intro i rec hi ih
    by_cases h : i < vs.length
    · have hh : (i : Int) < (vs.length : Int) := by omega
      have w1 := wrapSucc (show i < 9223372036854775807 by omega)
      have hm := getD_mem vs [] h
      have hb := h4 _ hm
      have hc := ref06_Split_ok (K := K) (s := vs.getD i []) (by omega) (by omega)
      have hp := partsOf_len (vs.take i) 500 (fun v hx => h4 v (List.mem_of_mem_take hx))
      have hq := splitS_count (vs.getD i [])
      have hp2 : (vs.take i).length * (500 + 1) ≤ 1000 * 501 := by
        have : (vs.take i).length ≤ 1000 := by simp; omega
        exact Nat.mul_le_mul this (by omega)
      have hmax : ((partsOf (vs.take i)).length + (splitS (vs.getD i [])).1.length) * 16 ≤ maxRoom := by simp only [maxRoom]; omega
      have ih' := ih h
      rw [take_get vs [] h, partsOf_snoc] at ih'
      simp only [depotref16_Nominated.t0, bind_some', cond_true, cond_false, decide_true, decide_false, Bool.not_true, Bool.not_false, Bool.true_and, Bool.and_true, Bool.and_false, Bool.false_and, Int.toNat_natCast, Int.natCast_nonneg, if_true, if_false, Bool.false_eq_true, Int.toNat_zero, Int.natCast_zero, not_false_eq_true, not_true_eq_false, ite_true, ite_false, hh, hc, w1, hmax]
      exact ih'
    · have h2 : i = vs.length := by omega
      subst h2
      simp only [depotref16_Nominated.t0, bind_some', cond_true, cond_false, decide_true, decide_false, Bool.not_true, Bool.not_false, Bool.true_and, Bool.and_true, Bool.and_false, Bool.false_and, Int.toNat_natCast, Int.natCast_nonneg, if_true, if_false, Bool.false_eq_true, Int.toNat_zero, Int.natCast_zero, not_false_eq_true, not_true_eq_false, ite_true, ite_false, Int.lt_irrefl, List.take_length]

theorem ref16_Strip_ok {K m : Nat} {l : List Fld} (h : few l m) (hm : m ≤ 1000) (hK : 1000000 ≤ K) : depotref16_Strip K l = some ((dropOf l (nominated l)).filter fun f => !isHop f.1) := by
  obtain ⟨h1, h2⟩ := few_sizes h hm
  obtain ⟨h5, h6⟩ := few_nom h hm
  have hD := ref09_Drop_ok (K := K) (names := nominated l) h1 h2 (by omega) (fun n hn => by have := h6 n hn; omega) hK
  simp only [depotref16_Strip, depotref16_Strip.tr, ref16_Nominated_ok h hm hK, hD, bind_some', cond_true, cond_false, decide_true, decide_false, Bool.not_true, Bool.not_false, Bool.true_and, Bool.and_true, Bool.and_false, Bool.false_and, Int.toNat_natCast, Int.natCast_nonneg, if_true, if_false, Bool.false_eq_true, Int.toNat_zero, Int.natCast_zero, not_false_eq_true, not_true_eq_false, ite_true, ite_false]
  have hd : (dropOf l (nominated l)).length ≤ l.length := List.length_filter_le _ _
  have hdm : ∀ f ∈ dropOf l (nominated l), f.1.length < 1000000 := fun f hf => h2 f (List.mem_filter.1 hf).1
  generalize dropOf l (nominated l) = d at hd hdm
  have H := idx_rule (l := depotref16_Strip.l0 K) (depotref16_Strip.t0 K) (fun _ _ => rfl) d.length
    (fun i => (((), (d, ((i : Int), ()))), ([], ((d.take i).filter (fun f => !isHop f.1), ())))) (fun i => (((), ()), ([], (d.filter (fun f => !isHop f.1), ())))) ?_ K 0 (by omega) (by omega)
  · simp only [Int.natCast_zero, List.take_zero, List.filter_nil] at H
    rw [H]
    simp only [bind_some', cond_true, cond_false, decide_true, decide_false, Bool.not_true, Bool.not_false, Bool.true_and, Bool.and_true, Bool.and_false, Bool.false_and, Int.toNat_natCast, Int.natCast_nonneg, if_true, if_false, Bool.false_eq_true, Int.toNat_zero, Int.natCast_zero, not_false_eq_true, not_true_eq_false, ite_true, ite_false]
  · intro i rec hi ih
    by_cases h : i < d.length
    · have hh : (i : Int) < (d.length : Int) := by omega
      have w1 := wrapSucc (show i < 9223372036854775807 by omega)
      have hm := getD_mem d (([], [], ()) : Fld) h
      have hc := ref16_Hop_ok (K := K) (hdm _ hm) hK
      have hlen : ((d.take i).filter (fun f => !isHop f.1)).length ≤ i := by
        have := List.length_filter_le (fun f : Fld => !isHop f.1) (d.take i); simp at this; omega
      have hmax : (((d.take i).filter (fun f => !isHop f.1)).length + 1) * 32 ≤ maxRoom := by simp only [maxRoom]; omega
      have ih' := ih h
      rw [take_get d (([], [], ()) : Fld) h, List.filter_append, List.filter_cons, List.filter_nil] at ih'
      simp only [depotref16_Strip.t0, bind_some', cond_true, cond_false, decide_true, decide_false, Bool.not_true, Bool.not_false, Bool.true_and, Bool.and_true, Bool.and_false, Bool.false_and, Int.toNat_natCast, Int.natCast_nonneg, if_true, if_false, Bool.false_eq_true, Int.toNat_zero, Int.natCast_zero, not_false_eq_true, not_true_eq_false, ite_true, ite_false, hh, hc, w1]
      by_cases c : isHop (d.getD i (([], [], ()) : Fld)).1 = true
      · simp only [c, w1, bind_some', cond_true, cond_false, decide_true, decide_false, Bool.not_true, Bool.not_false, Bool.true_and, Bool.and_true, Bool.and_false, Bool.false_and, Int.toNat_natCast, Int.natCast_nonneg, if_true, if_false, Bool.false_eq_true, Int.toNat_zero, Int.natCast_zero, not_false_eq_true, not_true_eq_false, ite_true, ite_false, List.append_nil] at ih' ⊢
        exact ih'
      · simp only [c, w1, bind_some', cond_true, cond_false, decide_true, decide_false, Bool.not_true, Bool.not_false, Bool.true_and, Bool.and_true, Bool.and_false, Bool.false_and, Int.toNat_natCast, Int.natCast_nonneg, if_true, if_false, Bool.false_eq_true, Int.toNat_zero, Int.natCast_zero, not_false_eq_true, not_true_eq_false, ite_true, ite_false] at ih' ⊢
        simp only [hh, hmax, w1, bind_some', cond_true, cond_false, decide_true, decide_false, Bool.not_true, Bool.not_false, Bool.true_and, Bool.and_true, Bool.and_false, Bool.false_and, Int.toNat_natCast, Int.natCast_nonneg, if_true, if_false, Bool.false_eq_true, Int.toNat_zero, Int.natCast_zero, not_false_eq_true, not_true_eq_false, ite_true, ite_false]
        exact ih'
    · have h2 : i = d.length := by omega
      subst h2
      simp only [depotref16_Strip.t0, bind_some', cond_true, cond_false, decide_true, decide_false, Bool.not_true, Bool.not_false, Bool.true_and, Bool.and_true, Bool.and_false, Bool.false_and, Int.toNat_natCast, Int.natCast_nonneg, if_true, if_false, Bool.false_eq_true, Int.toNat_zero, Int.natCast_zero, not_false_eq_true, not_true_eq_false, ite_true, ite_false, Int.lt_irrefl, List.take_length]

/-! The plain laws. -/
theorem anySame_append (a : List UInt8) (x y : List (List UInt8)) : anySame a (x ++ y) = (anySame a x || anySame a y) := by simp [anySame]
theorem isHop_eq (a : List UInt8) : isHop a = anySame a glob_hops_names := by simp only [isHop, anySame, same_comm a]
theorem strip_eq (l : List Fld) : dropOf l (nominated l ++ glob_hops_names) = (dropOf l (nominated l)).filter fun f => !isHop f.1 := by
  simp only [dropOf, List.filter_filter, anySame_append, isHop_eq, Bool.not_or]
  congr 1
  funext f
  rw [Bool.and_comm]
theorem strips_ok (K : Nat) (hK : 100 ≤ K) : depotlaw16_strips K = some true := by
  have : ∀ K, depotlaw16_strips (K + 100) = some true := fun K => by kernel_rfl
  have h := this (K - 100)
  rwa [Nat.sub_add_cancel hK] at h
theorem dropOf_len (l : List Fld) (n : List (List UInt8)) : (dropOf l n).length ≤ l.length := List.length_filter_le _ _

theorem hopsStrips_pure (a0 : List Fld) (a1 : List UInt8) : ∃ k, depotlaw16_HopsStrips k a0 a1 = some true := by
  refine ⟨100000000, ?_⟩
  obtain ⟨r, h1, h2⟩ := ref09_Few_ok 100000000 a0 70 500 (by decide) (by decide)
  have h1 : depotref09_Few 100000000 a0 70 500 = some r := h1
  have hs := strips_ok 100000000 (by decide)
  cases r with
  | false => simp only [depotlaw16_HopsStrips, h1, hs, bind_some', cond_true, cond_false, decide_true, decide_false, Bool.not_true, Bool.not_false, Bool.true_and, Bool.and_true, Bool.and_false, Bool.false_and, Int.toNat_natCast, Int.natCast_nonneg, if_true, if_false, Bool.false_eq_true, Int.toNat_zero, Int.natCast_zero, not_false_eq_true, not_true_eq_false, ite_true, ite_false]
  | true =>
    have hf : few a0 70 := h2 rfl
    by_cases h3 : (a1.length : Int) > 500
    · simp only [depotlaw16_HopsStrips, h1, h3, hs, bind_some', cond_true, cond_false, decide_true, decide_false, Bool.not_true, Bool.not_false, Bool.true_and, Bool.and_true, Bool.and_false, Bool.false_and, Int.toNat_natCast, Int.natCast_nonneg, if_true, if_false, Bool.false_eq_true, Int.toNat_zero, Int.natCast_zero, not_false_eq_true, not_true_eq_false, ite_true, ite_false]
    · obtain ⟨g1, g2⟩ := few_sizes hf (by decide)
      obtain ⟨g3, g4⟩ := few_nom hf (by decide)
      have hl := dropOf_len a0 (nominated a0 ++ glob_hops_names)
      simp only [depotlaw16_HopsStrips, h1, h3, hs, bind_some', cond_true, cond_false, decide_true, decide_false, Bool.not_true, Bool.not_false, Bool.true_and, Bool.and_true, Bool.and_false, Bool.false_and, Int.toNat_natCast, Int.natCast_nonneg, if_true, if_false, Bool.false_eq_true, Int.toNat_zero, Int.natCast_zero, not_false_eq_true, not_true_eq_false, ite_true, ite_false, hops_Strip_ok hf (show 70 ≤ 1000 by decide) (show 1000000 ≤ 100000000 by decide), ref16_Strip_ok hf (show 70 ≤ 1000 by decide) (show 1000000 ≤ 100000000 by decide), ← strip_eq,
        ref09_Equal_self (K := 100000000) (dropOf a0 (nominated a0 ++ glob_hops_names)) (by omega) (by decide), hops_Nominated_ok hf (show 70 ≤ 1000 by decide) (show 1000000 ≤ 100000000 by decide), ref16_Nominated_ok hf (show 70 ≤ 1000 by decide) (show 1000000 ≤ 100000000 by decide),
        ref06_Same_self (K := 100000000) (nominated a0) (by omega) (by decide), hops_Hop_ok (K := 100000000) (name := a1) (by omega) (by decide), ref16_Hop_ok (K := 100000000) (name := a1) (by omega) (by decide), beq_self_eq_true]
end Go.Proofs.X
