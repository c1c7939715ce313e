/-
  A part of the proof. No condition.
-/
import Derived.Test.YtikiloknlchppaaGreatDoorWP6
import Derived.Test.YtikiloknlchppaaGreatDoorWP5
/- Chapter 15 (vary): what each printed function of the program gives. No condition but on sizes. -/
set_option linter.unusedSimpArgs false
set_option linter.unusedVariables false
namespace Go.Proofs.X
open Go Go.Dp

def okT (x : List UInt8) : Bool := !(x == [42]) && isTok x
theorem names_l0 {K : Nat} (vals : List (List UInt8)) (ln ix : Int) (z : List (List UInt8)) (xs : List (List UInt8)) (hx : ∀ x ∈ xs, x.length < 1000000) (hxl : xs.length < 1000000000) (hK : 1000000 + 100 ≤ K) :
    ∀ (d i fuel : Nat) (P : List (List UInt8)), i + d = xs.length → d < fuel → P.length + d < 1000000000000 →
    ((xs.drop i).all okT = true → vary_Names.l0 K fuel (((), ((), (vals, (ln, (ix, (xs, ((xs.length : Int), ((i : Int), ())))))))), (z, (mp P, (dd P, ())))) = some (.inl (((), ((), (vals, (ln, (ix, ()))))), (z, (mp (P ++ (xs.drop i).map lower), (dd (P ++ (xs.drop i).map lower), ())))))) ∧
    ((xs.drop i).all okT = false → ∃ m n, vary_Names.l0 K fuel (((), ((), (vals, (ln, (ix, (xs, ((xs.length : Int), ((i : Int), ())))))))), (z, (mp P, (dd P, ())))) = some (.inr (((), (false, ())), (z, (m, (n, ([], ()))))))) := by
  intro d
  induction d with
  | zero =>
    intro i fuel P h1 h2 h3
    obtain ⟨fuel, rfl⟩ : ∃ f, fuel = f + 1 := ⟨fuel - 1, by omega⟩
    have hd : xs.drop i = [] := List.drop_eq_nil_of_le (by omega)
    rw [hd]
    refine ⟨fun _ => ?_, fun h => by cases h⟩
    have hh : ¬ (i : Int) < (xs.length : Int) := by omega
    simp only [vary_Names.l0, vary_Names.t0, bind_some', cond_true, cond_false, decide_true, decide_false, Bool.not_true, Bool.not_false, Bool.true_and, Bool.and_true, Bool.and_false, Bool.false_and, Int.toNat_natCast, Int.natCast_nonneg, if_true, if_false, Bool.false_eq_true, Int.toNat_zero, Int.natCast_zero, not_false_eq_true, not_true_eq_false, ite_true, ite_false, hh, List.map_nil, List.append_nil]
  | succ d ih =>
    intro i fuel P h1 h2 h3
    obtain ⟨fuel, rfl⟩ : ∃ f, fuel = f + 1 := ⟨fuel - 1, by omega⟩
    have hi : i < xs.length := by omega
    have hh : (i : Int) < (xs.length : Int) := by omega
    have w1 := wrapSucc (show i < 9223372036854775807 by omega)
    have hm := hx _ (getD_mem xs [] hi)
    have hd : xs.drop i = xs.getD i [] :: xs.drop (i + 1) := by
      rw [List.drop_eq_getElem_cons hi]
      simp [List.getD_eq_getElem?_getD, hi]
    rw [hd, List.all_cons, List.map_cons]
    have hl := octet_Lower_ok (K := K) (s := xs.getD i []) (by omega) (by omega)
    have ht := octet_IsToken_ok (K := K) (s := xs.getD i []) (by omega) (by omega)
    have hN := ih (i + 1) fuel (P ++ [lower (xs.getD i [])]) (by omega) (by omega) (by simp; omega)
    have hc := cnt_mp P.length P (lower (xs.getD i [])) rfl (by omega)
    have hcl := List.count_le_length (a := lower (xs.getD i [])) (l := P)
    have hr : ((dd P).length + 1) * 16 ≤ maxRoom := by have := dd_len P; simp only [maxRoom]; omega
    have hc' : Option.getD (mfind (eqv .str) (mp P) (lower (xs.getD i []))) 0 = (P.count (lower (xs.getD i [])) : Int) := hc
    have hw : IntKind.i64.wrap ((P.count (lower (xs.getD i [])) : Int) + 1) = ((P.count (lower (xs.getD i [])) + 1 : Nat) : Int) := wrapSucc (by omega)
    have hmp : mput (eqv .str) (mp P) (lower (xs.getD i [])) ((P.count (lower (xs.getD i [])) + 1 : Nat) : Int) = mp (P ++ [lower (xs.getD i [])]) := by
      rw [mp_snoc, mstep, hc, hw]
    have hf : Option.getD (mfind (eqv .str) (mp (P ++ [lower (xs.getD i [])])) (lower (xs.getD i []))) 0 = ((P.count (lower (xs.getD i [])) + 1 : Nat) : Int) := by
      rw [← hmp, mfind_mput, if_pos rfl]; rfl
    have e1 : ∀ (Q : List (List UInt8)) (y : List UInt8) (r : List (List UInt8)), Q ++ [y] ++ r = Q ++ y :: r := fun Q y r => by simp
    rw [e1] at hN
    by_cases c1 : (xs.getD i [] == [42]) = true
    · have ho : okT (xs.getD i []) = false := by simp only [okT, c1, Bool.not_true, Bool.false_and]
      rw [ho, Bool.false_and]
      refine ⟨fun h => (by cases h), fun _ => ⟨mp P, dd P, ?_⟩⟩
      simp only [vary_Names.l0, vary_Names.t0, bind_some', cond_true, cond_false, decide_true, decide_false, Bool.not_true, Bool.not_false, Bool.true_and, Bool.and_true, Bool.and_false, Bool.false_and, Int.toNat_natCast, Int.natCast_nonneg, if_true, if_false, Bool.false_eq_true, Int.toNat_zero, Int.natCast_zero, not_false_eq_true, not_true_eq_false, ite_true, ite_false, hh, c1]
    · have c1 : (xs.getD i [] == [42]) = false := by simpa using c1
      cases c2 : isTok (xs.getD i []) with
      | false =>
        have ho : okT (xs.getD i []) = false := by simp only [okT, c2, Bool.and_false]
        rw [ho, Bool.false_and]
        refine ⟨fun h => (by cases h), fun _ => ⟨mp P, dd P, ?_⟩⟩
        simp only [vary_Names.l0, vary_Names.t0, bind_some', cond_true, cond_false, decide_true, decide_false, Bool.not_true, Bool.not_false, Bool.true_and, Bool.and_true, Bool.and_false, Bool.false_and, Int.toNat_natCast, Int.natCast_nonneg, if_true, if_false, Bool.false_eq_true, Int.toNat_zero, Int.natCast_zero, not_false_eq_true, not_true_eq_false, ite_true, ite_false, hh, c1, ht, c2]
      | true =>
        have ho : okT (xs.getD i []) = true := by simp only [okT, c1, c2, Bool.not_false, Bool.and_self]
        rw [ho, Bool.true_and]
        have key : vary_Names.l0 K (fuel + 1) (((), ((), (vals, (ln, (ix, (xs, ((xs.length : Int), ((i : Int), ())))))))), (z, (mp P, (dd P, ())))) = vary_Names.l0 K fuel (((), ((), (vals, (ln, (ix, (xs, ((xs.length : Int), (((i + 1 : Nat) : Int), ())))))))), (z, (mp (P ++ [lower (xs.getD i [])]), (dd (P ++ [lower (xs.getD i [])]), ())))) := by
          by_cases c3 : lower (xs.getD i []) ∈ P
          · have h5 : 0 < P.count (lower (xs.getD i [])) := List.count_pos_iff.2 c3
            have h6 : ¬ ((P.count (lower (xs.getD i [])) + 1 : Nat) : Int) = 1 := by omega
            have h7 : dd (P ++ [lower (xs.getD i [])]) = dd P := by rw [dd_snoc, addT, if_pos ((dd_mem _ _).2 c3)]
            rw [h7]
            simp only [vary_Names.l0, vary_Names.t0, bind_some', cond_true, cond_false, decide_true, decide_false, Bool.not_true, Bool.not_false, Bool.true_and, Bool.and_true, Bool.and_false, Bool.false_and, Int.toNat_natCast, Int.natCast_nonneg, if_true, if_false, Bool.false_eq_true, Int.toNat_zero, Int.natCast_zero, not_false_eq_true, not_true_eq_false, ite_true, ite_false, hh, c1, ht, c2, hl, hc', hw, hmp, hf, h6, w1]
          · have h5 : P.count (lower (xs.getD i [])) = 0 := List.count_eq_zero.2 c3
            have h6 : ((P.count (lower (xs.getD i [])) + 1 : Nat) : Int) = 1 := by omega
            have h7 : dd (P ++ [lower (xs.getD i [])]) = dd P ++ [lower (xs.getD i [])] := by rw [dd_snoc, addT, if_neg (fun h => c3 ((dd_mem _ _).1 h))]
            rw [h7]
            rw [h6] at hw hmp hf
            simp only [vary_Names.l0, vary_Names.t0, bind_some', cond_true, cond_false, decide_true, decide_false, Bool.not_true, Bool.not_false, Bool.true_and, Bool.and_true, Bool.and_false, Bool.false_and, Int.toNat_natCast, Int.natCast_nonneg, if_true, if_false, Bool.false_eq_true, Int.toNat_zero, Int.natCast_zero, not_false_eq_true, not_true_eq_false, ite_true, ite_false, hh, c1, ht, c2, hl, hc', hw, hmp, hf, hr, w1, eq_self]
        rw [key]
        exact hN
def goodV (v : List UInt8) : Bool := decide ((splitS v).2.1 = 0) && (splitS v).1.all okT
def toks (vs : List (List UInt8)) : List (List UInt8) := vs.flatMap fun v => (splitS v).1.map lower
theorem names_l1 {K : Nat} (z : List (List UInt8)) (vs : List (List UInt8)) (hx : ∀ x ∈ vs, x.length < 100000) (hxl : vs.length < 1000000) (hK : 1000000 + 100 ≤ K) :
    ∀ (d i fuel : Nat) (P : List (List UInt8)), i + d = vs.length → d < fuel → P.length + d * 100001 < 900000000000 →
    ((vs.drop i).all goodV = true → vary_Names.l1 K fuel (((), ((), (vs, ((vs.length : Int), ((i : Int), ()))))), (z, (mp P, (dd P, ())))) = some (.inl (((), ()), (z, (mp (P ++ toks (vs.drop i)), (dd (P ++ toks (vs.drop i)), ())))))) ∧
    ((vs.drop i).all goodV = false → ∃ m n, vary_Names.l1 K fuel (((), ((), (vs, ((vs.length : Int), ((i : Int), ()))))), (z, (mp P, (dd P, ())))) = some (.inr (((), (false, ())), (z, (m, (n, ([], ()))))))) := by
  intro d
  induction d with
  | zero =>
    intro i fuel P h1 h2 h3
    obtain ⟨fuel, rfl⟩ : ∃ f, fuel = f + 1 := ⟨fuel - 1, by omega⟩
    have hd : vs.drop i = [] := List.drop_eq_nil_of_le (by omega)
    rw [hd]
    refine ⟨fun _ => ?_, fun h => by cases h⟩
    have hh : ¬ (i : Int) < (vs.length : Int) := by omega
    simp only [vary_Names.l1, vary_Names.t1, bind_some', cond_true, cond_false, decide_true, decide_false, Bool.not_true, Bool.not_false, Bool.true_and, Bool.and_true, Bool.and_false, Bool.false_and, Int.toNat_natCast, Int.natCast_nonneg, if_true, if_false, Bool.false_eq_true, Int.toNat_zero, Int.natCast_zero, not_false_eq_true, not_true_eq_false, ite_true, ite_false, hh, toks, List.flatMap_nil, List.append_nil]
  | succ d ih =>
    intro i fuel P h1 h2 h3
    obtain ⟨fuel, rfl⟩ : ∃ f, fuel = f + 1 := ⟨fuel - 1, by omega⟩
    have hi : i < vs.length := by omega
    have hh : (i : Int) < (vs.length : Int) := by omega
    have w1 := wrapSucc (show i < 9223372036854775807 by omega)
    have hm := hx _ (getD_mem vs [] hi)
    have hd : vs.drop i = vs.getD i [] :: vs.drop (i + 1) := by
      rw [List.drop_eq_getElem_cons hi]
      simp [List.getD_eq_getElem?_getD, hi]
    have hsc := splitS_count (vs.getD i [])
    have hsi := splitS_items (vs.getD i [])
    have hs := items_Split_ok (K := K) (s := vs.getD i []) (by omega) (by omega)
    have et : toks (vs.getD i [] :: vs.drop (i + 1)) = (splitS (vs.getD i [])).1.map lower ++ toks (vs.drop (i + 1)) := by simp [toks]
    rw [hd, List.all_cons, et, ← List.append_assoc]
    have h0 := names_l0 (K := K) vs (vs.length : Int) (i : Int) z (splitS (vs.getD i [])).1 (fun x hx => by have := hsi x hx; omega) (by omega) hK (splitS (vs.getD i [])).1.length 0 K P (by omega) (by omega) (by omega)
    rw [List.drop_zero] at h0
    have hN := ih (i + 1) fuel (P ++ (splitS (vs.getD i [])).1.map lower) (by omega) (by omega) (by rw [List.length_append, List.length_map]; omega)
    by_cases c1 : (splitS (vs.getD i [])).2.1 = 0
    · cases c2 : (splitS (vs.getD i [])).1.all okT with
      | false =>
        have ho : goodV (vs.getD i []) = false := by simp only [goodV, c2, Bool.and_false]
        rw [ho, Bool.false_and]
        obtain ⟨m, n, h4⟩ := h0.2 c2
        refine ⟨fun h => (by cases h), fun _ => ⟨m, n, ?_⟩⟩
        simp only [vary_Names.l1, vary_Names.t1, bind_some', cond_true, cond_false, decide_true, decide_false, Bool.not_true, Bool.not_false, Bool.true_and, Bool.and_true, Bool.and_false, Bool.false_and, Int.toNat_natCast, Int.natCast_nonneg, if_true, if_false, Bool.false_eq_true, Int.toNat_zero, Int.natCast_zero, not_false_eq_true, not_true_eq_false, ite_true, ite_false, hh, hs, c1]
        rw [show ((0 : Nat) : Int) = 0 from rfl] at h4
        rw [h4]
        simp only [bind_some', cond_true, cond_false, decide_true, decide_false, Bool.not_true, Bool.not_false, Bool.true_and, Bool.and_true, Bool.and_false, Bool.false_and, Int.toNat_natCast, Int.natCast_nonneg, if_true, if_false, Bool.false_eq_true, Int.toNat_zero, Int.natCast_zero, not_false_eq_true, not_true_eq_false, ite_true, ite_false]
      | true =>
        have ho : goodV (vs.getD i []) = true := by simp only [goodV, c1, c2, decide_true, Bool.and_self]
        rw [ho, Bool.true_and]
        have h4 := h0.1 c2
        have key : vary_Names.l1 K (fuel + 1) (((), ((), (vs, ((vs.length : Int), ((i : Int), ()))))), (z, (mp P, (dd P, ())))) = vary_Names.l1 K fuel (((), ((), (vs, ((vs.length : Int), (((i + 1 : Nat) : Int), ()))))), (z, (mp (P ++ (splitS (vs.getD i [])).1.map lower), (dd (P ++ (splitS (vs.getD i [])).1.map lower), ())))) := by
          simp only [vary_Names.l1, vary_Names.t1, bind_some', cond_true, cond_false, decide_true, decide_false, Bool.not_true, Bool.not_false, Bool.true_and, Bool.and_true, Bool.and_false, Bool.false_and, Int.toNat_natCast, Int.natCast_nonneg, if_true, if_false, Bool.false_eq_true, Int.toNat_zero, Int.natCast_zero, not_false_eq_true, not_true_eq_false, ite_true, ite_false, hh, hs, c1]
          rw [show ((0 : Nat) : Int) = 0 from rfl] at h4
          rw [h4]
          simp only [bind_some', cond_true, cond_false, decide_true, decide_false, Bool.not_true, Bool.not_false, Bool.true_and, Bool.and_true, Bool.and_false, Bool.false_and, Int.toNat_natCast, Int.natCast_nonneg, if_true, if_false, Bool.false_eq_true, Int.toNat_zero, Int.natCast_zero, not_false_eq_true, not_true_eq_false, ite_true, ite_false, w1]
        rw [key]
        exact hN
    · have ho : goodV (vs.getD i []) = false := by simp only [goodV, c1, decide_false, Bool.false_and]
      rw [ho, Bool.false_and]
      refine ⟨fun h => (by cases h), fun _ => ⟨mp P, dd P, ?_⟩⟩
      simp only [vary_Names.l1, vary_Names.t1, bind_some', cond_true, cond_false, decide_true, decide_false, Bool.not_true, Bool.not_false, Bool.true_and, Bool.and_true, Bool.and_false, Bool.false_and, Int.toNat_natCast, Int.natCast_nonneg, if_true, if_false, Bool.false_eq_true, Int.toNat_zero, Int.natCast_zero, not_false_eq_true, not_true_eq_false, ite_true, ite_false, hh, hs, c1]
def hV : List UInt8 := [86, 97, 114, 121]
def namesV (vs : List (List UInt8)) : List (List UInt8) × Bool × Unit := if vs.all goodV then (ord (toks vs), true, ()) else ([], false, ())
def namesO (l : List Fld) : List (List UInt8) × Bool × Unit := namesV (allOf l hV)
theorem toks_len {m : Nat} : ∀ (vs : List (List UInt8)), (∀ v ∈ vs, v.length ≤ m) → (toks vs).length ≤ vs.length * (m + 1) := by
  intro vs
  induction vs with
  | nil => intro _; simp [toks]
  | cons v vs ih =>
    intro h
    have h1 := ih fun x hx => h x (List.mem_cons_of_mem _ hx)
    have h2 := h v (by simp)
    have h3 := splitS_count v
    have e : toks (v :: vs) = (splitS v).1.map lower ++ toks vs := by simp [toks]
    rw [e, List.length_append, List.length_map, List.length_cons, Nat.succ_mul]
    omega
theorem vary_Names_ok {K : Nat} {l : List Fld} (h : sized l) (hK : 1000000 + 100 ≤ K) : vary_Names K l = some (namesO l) := by
  have hlen := h.1
  have h3 := allOf_len l hV
  have hb : ∀ v ∈ allOf l hV, v.length ≤ 99999 := allOf_mem fun f hf => by have := (h.2 f hf).2; omega
  have hA : fields_All K l [86, 97, 114, 121] = some (allOf l hV) := fields_All_ok h.1 (fun f hf => by have := (h.2 f hf).1; omega) (name := hV) (by decide) (by omega)
  have h1 := names_l1 (K := K) [] (allOf l hV) (fun v hv => by have := hb v hv; omega) (by omega) hK (allOf l hV).length 0 K [] (by omega) (by omega) (by simp; omega)
  rw [List.drop_zero] at h1
  simp only [vary_Names, vary_Names.tr, hA, bind_some', cond_true, cond_false, decide_true, decide_false, Bool.not_true, Bool.not_false, Bool.true_and, Bool.and_true, Bool.and_false, Bool.false_and, Int.toNat_natCast, Int.natCast_nonneg, if_true, if_false, Bool.false_eq_true, Int.toNat_zero, Int.natCast_zero, not_false_eq_true, not_true_eq_false, ite_true, ite_false]
  change Option.bind (vary_Names.l1 K K (((), ((), (allOf l hV, (((allOf l hV).length : Int), (((0 : Nat) : Int), ()))))), ([], (mp [], (dd [], ()))))) _ = _
  have h6 := toks_len (allOf l hV) hb
  cases c : (allOf l hV).all goodV with
  | false =>
    obtain ⟨m, n, h4⟩ := h1.2 c
    rw [h4]
    simp only [bind_some', cond_true, cond_false, decide_true, decide_false, Bool.not_true, Bool.not_false, Bool.true_and, Bool.and_true, Bool.and_false, Bool.false_and, Int.toNat_natCast, Int.natCast_nonneg, if_true, if_false, Bool.false_eq_true, Int.toNat_zero, Int.natCast_zero, not_false_eq_true, not_true_eq_false, ite_true, ite_false, namesO, namesV, c]
  | true =>
    rw [h1.1 c]
    have h5 : sortS K (dd (toks (allOf l hV))) = some (ord (toks (allOf l hV))) := by
      have h7 := dd_len (toks (allOf l hV))
      have : (dd (toks (allOf l hV))).length < 4611686018427387904 := by omega
      simp only [sortS, sortF, this, bind_some', cond_true, cond_false, decide_true, decide_false, Bool.not_true, Bool.not_false, Bool.true_and, Bool.and_true, Bool.and_false, Bool.false_and, Int.toNat_natCast, Int.natCast_nonneg, if_true, if_false, Bool.false_eq_true, Int.toNat_zero, Int.natCast_zero, not_false_eq_true, not_true_eq_false, ite_true, ite_false]
      rfl
    simp only [bind_some', cond_true, cond_false, decide_true, decide_false, Bool.not_true, Bool.not_false, Bool.true_and, Bool.and_true, Bool.and_false, Bool.false_and, Int.toNat_natCast, Int.natCast_nonneg, if_true, if_false, Bool.false_eq_true, Int.toNat_zero, Int.natCast_zero, not_false_eq_true, not_true_eq_false, ite_true, ite_false, List.nil_append, h5, namesO, namesV, c]

/-! Blanks. -/
theorem single_l0 {K : Nat} : ∀ (n : Nat) (s : List UInt8) (fuel : Nat), s.length ≤ n → n < fuel → n < 1000000000 → vary_single.l0 K fuel ((s, ()), ()) = some ((col false s, ()), ()) := by
  intro n
  induction n with
  | zero =>
    intro s fuel h h2 _
    obtain rfl := List.eq_nil_of_length_eq_zero (by omega : s.length = 0)
    obtain ⟨fuel, rfl⟩ : ∃ f, fuel = f + 1 := ⟨fuel - 1, by omega⟩
    have hc := contains_two 0 [] (by simp)
    have h1 : ([] : List UInt8).length < 4294967281 := by decide
    simp only [vary_single.l0, vary_single.t0, containsS, containsF, h1, bind_some', cond_true, cond_false, decide_true, decide_false, Bool.not_true, Bool.not_false, Bool.true_and, Bool.and_true, Bool.and_false, Bool.false_and, Int.toNat_natCast, Int.natCast_nonneg, if_true, if_false, Bool.false_eq_true, Int.toNat_zero, Int.natCast_zero, not_false_eq_true, not_true_eq_false, ite_true, ite_false, hc, hasD]
    rfl
  | succ n ih =>
    intro s fuel h h2 h3
    obtain ⟨fuel, rfl⟩ : ∃ f, fuel = f + 1 := ⟨fuel - 1, by omega⟩
    have hc := contains_two s.length s (Nat.le_refl _)
    have h1 : s.length < 4294967281 := by omega
    cases hd : hasD s with
    | false =>
      have h4 := (col_none s.length s (Nat.le_refl _) hd).1
      simp only [vary_single.l0, vary_single.t0, containsS, containsF, h1, bind_some', cond_true, cond_false, decide_true, decide_false, Bool.not_true, Bool.not_false, Bool.true_and, Bool.and_true, Bool.and_false, Bool.false_and, Int.toNat_natCast, Int.natCast_nonneg, if_true, if_false, Bool.false_eq_true, Int.toNat_zero, Int.natCast_zero, not_false_eq_true, not_true_eq_false, ite_true, ite_false, hc, hd, h4]
    | true =>
      have h4 := (halve_le s.length s (Nat.le_refl _)).2 hd
      have h5 : Lib.replaceAll s [32, 32] [32] = halve s := by rw [replaceAll_RR (by decide), RR_two s.length s (Nat.le_refl _)]
      have h6 : s.length + (s.length + 1) * ([32] : List UInt8).length ≤ 140737488355328 := by simp only [List.length_cons, List.length_nil]; omega
      have h7 : 1 ≤ ([32, 32] : List UInt8).length := by decide
      have h8 := ih (halve s) fuel (by omega) (by omega) (by omega)
      rw [col_halve s.length s (Nat.le_refl _)] at h8
      simp only [vary_single.l0, vary_single.t0, containsS, containsF, replaceS, replaceF, h1, bind_some', cond_true, cond_false, decide_true, decide_false, Bool.not_true, Bool.not_false, Bool.true_and, Bool.and_true, Bool.and_false, Bool.false_and, Int.toNat_natCast, Int.natCast_nonneg, if_true, if_false, Bool.false_eq_true, Int.toNat_zero, Int.natCast_zero, not_false_eq_true, not_true_eq_false, ite_true, ite_false, hc, hd, h5, h6, h7, h8]
theorem vary_single_ok {K : Nat} {s : List UInt8} (h : s.length < 1000000) (hK : 1000000 ≤ K) : vary_single K s = some (sgl s) := by
  have h1 : s.length < 4294967281 := by omega
  have h5 : Lib.replaceAll s [9] [32] = s.map tb := by rw [replaceAll_RR (by decide), RR_tab]
  have h6 : s.length + (s.length + 1) * ([32] : List UInt8).length ≤ 140737488355328 := by simp only [List.length_cons, List.length_nil]; omega
  have h7 : 1 ≤ ([9] : List UInt8).length := by decide
  have h8 := single_l0 (K := K) s.length (s.map tb) K (by simp) (by omega) (by omega)
  simp only [vary_single, vary_single.tr, replaceS, replaceF, h1, bind_some', cond_true, cond_false, decide_true, decide_false, Bool.not_true, Bool.not_false, Bool.true_and, Bool.and_true, Bool.and_false, Bool.false_and, Int.toNat_natCast, Int.natCast_nonneg, if_true, if_false, Bool.false_eq_true, Int.toNat_zero, Int.natCast_zero, not_false_eq_true, not_true_eq_false, ite_true, ite_false, h5, h6, h7, h8, sgl]

/-! Picks. -/
abbrev Pick := List UInt8 × Bool × List UInt8 × Unit
def pickOf (name : List UInt8) (l : List Fld) : Pick := (name, decide ((allOf l name).length > 0), Lib.join ((allOf l name).map sgl) sep2, ())
theorem pick_l0 {K : Nat} (z : Pick) (j : List (List UInt8)) (fs : List Fld) (hl : fs.length < 1000000) (hK : 1000000 ≤ K) :
    vary_pick.l0 K K (((), (fs, ((fs.length : Int), (0, ())))), (z, (j, ([], ())))) = some (((), ()), (z, (j, (fs.map (·.2.1), ())))) := by
  have H := idx_rule (l := vary_pick.l0 K) (vary_pick.t0 K) (fun _ _ => rfl) fs.length
    (fun i => (((), (fs, ((fs.length : Int), ((i : Int), ())))), (z, (j, ((fs.take i).map (·.2.1), ()))))) (fun i => (((), ()), (z, (j, (fs.map (·.2.1), ()))))) ?_ K 0 (by omega) (by omega)
  · exact H
  · intro i rec hi ih
    by_cases h : i < fs.length
    · have hh : (i : Int) < (fs.length : Int) := by omega
      have w1 := wrapSucc (show i < 9223372036854775807 by omega)
      have ih' := ih h
      rw [take_get fs (([], [], ()) : Fld) h, List.map_append, List.map_cons, List.map_nil] at ih'
      have hr : ((List.map (fun x => x.2.1) (fs.take i)).length + 1) * 16 ≤ maxRoom := by simp [maxRoom]; omega
      simp only [vary_pick.t0, bind_some', cond_true, cond_false, decide_true, decide_false, Bool.not_true, Bool.not_false, Bool.true_and, Bool.and_true, Bool.and_false, Bool.false_and, Int.toNat_natCast, Int.natCast_nonneg, if_true, if_false, Bool.false_eq_true, Int.toNat_zero, Int.natCast_zero, not_false_eq_true, not_true_eq_false, ite_true, ite_false, hh, hr, w1]
      exact ih'
    · have h2 : i = fs.length := by omega
      subst h2
      simp only [vary_pick.t0, bind_some', cond_true, cond_false, decide_true, decide_false, Bool.not_true, Bool.not_false, Bool.true_and, Bool.and_true, Bool.and_false, Bool.false_and, Int.toNat_natCast, Int.natCast_nonneg, if_true, if_false, Bool.false_eq_true, Int.toNat_zero, Int.natCast_zero, not_false_eq_true, not_true_eq_false, ite_true, ite_false, Int.lt_irrefl, List.take_length]
theorem pick_l1 {K : Nat} (nm : List UInt8) (z : Pick) (j vs : List (List UInt8)) (hl : vs.length < 1000000) (hv : ∀ v ∈ vs, v.length < 1000000) (hK : 1000000 ≤ K) :
    vary_pick.l1 K K ((nm, (0, ((), ((), ((vs.length : Int), (0, ())))))), (z, (j, (vs, ())))) = some ((nm, (0, ((), ()))), (z, (j, (vs.map sgl, ())))) := by
  have H := idx_rule (l := vary_pick.l1 K) (vary_pick.t1 K) (fun _ _ => rfl) vs.length
    (fun i => ((nm, (0, ((), ((), ((vs.length : Int), ((i : Int), ())))))), (z, (j, ((vs.take i).map sgl ++ vs.drop i, ()))))) (fun i => ((nm, (0, ((), ()))), (z, (j, (vs.map sgl, ()))))) ?_ K 0 (by omega) (by omega)
  · exact H
  · intro i rec hi ih
    by_cases h : i < vs.length
    · have hh : (i : Int) < (vs.length : Int) := by omega
      have w1 := wrapSucc (show i < 9223372036854775807 by omega)
      have hm := hv _ (getD_mem vs [] h)
      have ih' := ih h
      rw [take_get vs [] h, List.map_append, List.map_cons, List.map_nil] at ih'
      have hd : vs.drop i = vs.getD i [] :: vs.drop (i + 1) := by
        rw [List.drop_eq_getElem_cons h]
        simp [List.getD_eq_getElem?_getD, h]
      have hL : ((vs.take i).map sgl ++ vs.drop i).length = vs.length := by simp; omega
      have hT : ((vs.take i).map sgl).length = i := by simp; omega
      have hg : ((vs.take i).map sgl ++ vs.drop i).getD i [] = vs.getD i [] := by
        rw [hd]
        simp only [List.getD_eq_getElem?_getD]
        rw [List.getElem?_append_right (by omega), hT, Nat.sub_self]
        simp
      have hs : ((vs.take i).map sgl ++ vs.drop i).set i (sgl (vs.getD i [])) = (vs.take i).map sgl ++ [sgl (vs.getD i [])] ++ vs.drop (i + 1) := by
        rw [hd, List.set_append_right _ _ (by omega), hT, Nat.sub_self]
        simp
      simp only [vary_pick.t1, bind_some', cond_true, cond_false, decide_true, decide_false, Bool.not_true, Bool.not_false, Bool.true_and, Bool.and_true, Bool.and_false, Bool.false_and, Int.toNat_natCast, Int.natCast_nonneg, if_true, if_false, Bool.false_eq_true, Int.toNat_zero, Int.natCast_zero, not_false_eq_true, not_true_eq_false, ite_true, ite_false, hh, hL, hg, vary_single_ok hm hK, hs, w1]
      exact ih'
    · have h2 : i = vs.length := by omega
      subst h2
      simp only [vary_pick.t1, bind_some', cond_true, cond_false, decide_true, decide_false, Bool.not_true, Bool.not_false, Bool.true_and, Bool.and_true, Bool.and_false, Bool.false_and, Int.toNat_natCast, Int.natCast_nonneg, if_true, if_false, Bool.false_eq_true, Int.toNat_zero, Int.natCast_zero, not_false_eq_true, not_true_eq_false, ite_true, ite_false, Int.lt_irrefl, List.take_length, List.drop_length, List.append_nil]
theorem vary_pick_ok {K : Nat} {l : List Fld} {name : List UInt8} (h : sized l) (h2 : name.length < 1000000) (hK : 1000000 ≤ K) : vary_pick K name l = some (pickOf name l) := by
  have hlen := h.1
  have h3 := allOf_len l name
  have hb : ∀ v ∈ allOf l name, v.length ≤ 99999 := allOf_mem fun f hf => by have := (h.2 f hf).2; omega
  have hC : fields_chosen__named_c1 K l (name, ()) = some (l.filter fun f => same f.1 name) := chosen_named_ok h.1 (fun f hf => by have := (h.2 f hf).1; omega) h2 hK
  have hF : (l.filter fun f => same f.1 name).length < 1000000 := by have := List.length_filter_le (fun f : Fld => same f.1 name) l; omega
  have h0 := pick_l0 (K := K) ([], false, [], ()) [] (l.filter fun f => same f.1 name) hF hK
  have h1 := pick_l1 (K := K) name ([], false, [], ()) [] (allOf l name) (by omega) (fun v hv => by have := hb v hv; omega) hK
  have hj := joinS_eq (K := K) (l := (allOf l name).map sgl) (sep := [44, 32]) (by simp; omega) 99999 (by omega) (by decide) (fun v hv => by
    obtain ⟨u, hu, rfl⟩ := List.mem_map.1 hv
    have := sgl_len u
    have := hb u hu
    omega)
  simp only [vary_pick, vary_pick.tr, fields_named, hC, bind_some', cond_true, cond_false, decide_true, decide_false, Bool.not_true, Bool.not_false, Bool.true_and, Bool.and_true, Bool.and_false, Bool.false_and, Int.toNat_natCast, Int.natCast_nonneg, if_true, if_false, Bool.false_eq_true, Int.toNat_zero, Int.natCast_zero, not_false_eq_true, not_true_eq_false, ite_true, ite_false, h0]
  change Option.bind (vary_pick.l1 K K ((name, (0, ((), ((), (((allOf l name).length : Int), (0, ())))))), (([], false, [], ()), ([], (allOf l name, ()))))) _ = _
  rw [h1]
  simp only [bind_some', cond_true, cond_false, decide_true, decide_false, Bool.not_true, Bool.not_false, Bool.true_and, Bool.and_true, Bool.and_false, Bool.false_and, Int.toNat_natCast, Int.natCast_nonneg, if_true, if_false, Bool.false_eq_true, Int.toNat_zero, Int.natCast_zero, not_false_eq_true, not_true_eq_false, ite_true, ite_false, items_Join, hj, pickOf, List.length_map]
  congr 4
  exact propext ⟨fun h => by omega, fun h => by omega⟩
def picksOf (names : List (List UInt8)) (l : List Fld) : List Pick := names.map fun n => pickOf n l
theorem vary_Picks_ok {K : Nat} {l : List Fld} {names : List (List UInt8)} (h : sized l) (hn : names.length < 1000000) (h2 : ∀ n ∈ names, n.length < 1000000) (hK : 1000000 ≤ K) : vary_Picks K names l = some (picksOf names l) := by
  have H := idx_rule (l := vary_Picks.l0 K) (vary_Picks.t0 K) (fun _ _ => rfl) names.length
    (fun i => ((l, ((), (names, ((names.length : Int), ((i : Int), ()))))), ([], (picksOf (names.take i) l, ())))) (fun i => (((), ()), ([], (picksOf names l, ())))) ?_ K 0 (by omega) (by omega)
  · simp only [vary_Picks, vary_Picks.tr, bind_some', cond_true, cond_false, decide_true, decide_false, Bool.not_true, Bool.not_false, Bool.true_and, Bool.and_true, Bool.and_false, Bool.false_and, Int.toNat_natCast, Int.natCast_nonneg, if_true, if_false, Bool.false_eq_true, Int.toNat_zero, Int.natCast_zero, not_false_eq_true, not_true_eq_false, ite_true, ite_false]
    change Option.bind (vary_Picks.l0 K K ((l, ((), (names, ((names.length : Int), (((0 : Nat) : Int), ()))))), ([], (picksOf (names.take 0) l, ())))) _ = _
    rw [H]
    simp only [bind_some', cond_true, cond_false, decide_true, decide_false, Bool.not_true, Bool.not_false, Bool.true_and, Bool.and_true, Bool.and_false, Bool.false_and, Int.toNat_natCast, Int.natCast_nonneg, if_true, if_false, Bool.false_eq_true, Int.toNat_zero, Int.natCast_zero, not_false_eq_true, not_true_eq_false, ite_true, ite_false]
  · intro i rec hi ih
    by_cases h' : i < names.length
    · have hh : (i : Int) < (names.length : Int) := by omega
      have w1 := wrapSucc (show i < 9223372036854775807 by omega)
      have hm := h2 _ (getD_mem names [] h')
      have ih' := ih h'
      rw [take_get names [] h', picksOf, List.map_append, List.map_cons, List.map_nil] at ih'
      have hr : ((picksOf (names.take i) l).length + 1) * 40 ≤ maxRoom := by simp [picksOf, maxRoom]; omega
      simp only [vary_Picks.t0, bind_some', cond_true, cond_false, decide_true, decide_false, Bool.not_true, Bool.not_false, Bool.true_and, Bool.and_true, Bool.and_false, Bool.false_and, Int.toNat_natCast, Int.natCast_nonneg, if_true, if_false, Bool.false_eq_true, Int.toNat_zero, Int.natCast_zero, not_false_eq_true, not_true_eq_false, ite_true, ite_false, hh, vary_pick_ok h hm hK, hr, w1]
      exact ih'
    · have h2 : i = names.length := by omega
      subst h2
      simp only [vary_Picks.t0, bind_some', cond_true, cond_false, decide_true, decide_false, Bool.not_true, Bool.not_false, Bool.true_and, Bool.and_true, Bool.and_false, Bool.false_and, Int.toNat_natCast, Int.natCast_nonneg, if_true, if_false, Bool.false_eq_true, Int.toNat_zero, Int.natCast_zero, not_false_eq_true, not_true_eq_false, ite_true, ite_false, Int.lt_irrefl, List.take_length]
theorem pick_beq (x y : Pick) : (x.1 == y.1 && (x.2.1 == y.2.1 && x.2.2.1 == y.2.2.1)) = decide (x = y) := by
  obtain ⟨a, b, c, u⟩ := x
  obtain ⟨a', b', c', u'⟩ := y
  by_cases h1 : a = a' <;> by_cases h2 : b = b' <;> by_cases h3 : c = c' <;> simp [h1, h2, h3]
def dP : Pick := ([], false, [], ())
def matchOf (p : List Pick) (l : List Fld) : Bool := p.all fun x => decide (pickOf x.1 l = x)
theorem vary_Match_ok {K : Nat} {l : List Fld} {p : List Pick} (h : sized l) (hn : p.length < 1000000) (h2 : ∀ x ∈ p, x.1.length < 1000000) (hK : 1000000 ≤ K) : vary_Match K p l = some (matchOf p l) := by
  have H := idx_rule (l := vary_Match.l0 K) (vary_Match.t0 K) (fun _ _ => rfl) p.length
    (fun i => ((l, (p, ((p.length : Int), ((i : Int), ())))), ())) (fun i => if matchOf (p.drop i) l then .inl ((), ()) else .inr ((false, ()), ())) ?_ K 0 (by omega) (by omega)
  · simp only [vary_Match, vary_Match.tr, bind_some', cond_true, cond_false, decide_true, decide_false, Bool.not_true, Bool.not_false, Bool.true_and, Bool.and_true, Bool.and_false, Bool.false_and, Int.toNat_natCast, Int.natCast_nonneg, if_true, if_false, Bool.false_eq_true, Int.toNat_zero, Int.natCast_zero, not_false_eq_true, not_true_eq_false, ite_true, ite_false]
    change Option.bind (vary_Match.l0 K K ((l, (p, ((p.length : Int), (((0 : Nat) : Int), ())))), ())) _ = _
    rw [H, List.drop_zero]
    cases matchOf p l <;> rfl
  · intro i rec hi ih
    by_cases h' : i < p.length
    · have hh : (i : Int) < (p.length : Int) := by omega
      have w1 := wrapSucc (show i < 9223372036854775807 by omega)
      have hm := h2 _ (getD_mem p dP h')
      have ih' := ih h'
      have hd : p.drop i = p.getD i dP :: p.drop (i + 1) := by
        rw [List.drop_eq_getElem_cons h']
        simp [List.getD_eq_getElem?_getD, h']
      have hpk := vary_pick_ok (K := K) (name := (p.getD i dP).1) h hm hK
      have hb := pick_beq (pickOf (p.getD i dP).1 l) (p.getD i dP)
      simp only [dP] at hpk hb hd
      rw [hd, matchOf, List.all_cons]
      simp only [vary_Match.t0, bind_some', cond_true, cond_false, decide_true, decide_false, Bool.not_true, Bool.not_false, Bool.true_and, Bool.and_true, Bool.and_false, Bool.false_and, Int.toNat_natCast, Int.natCast_nonneg, if_true, if_false, Bool.false_eq_true, Int.toNat_zero, Int.natCast_zero, not_false_eq_true, not_true_eq_false, ite_true, ite_false, hh, hpk, hb, w1]
      by_cases c : pickOf (p.getD i ([], false, [], ())).1 l = p.getD i ([], false, [], ())
      · simp only [c, bind_some', cond_true, cond_false, decide_true, decide_false, Bool.not_true, Bool.not_false, Bool.true_and, Bool.and_true, Bool.and_false, Bool.false_and, Int.toNat_natCast, Int.natCast_nonneg, if_true, if_false, Bool.false_eq_true, Int.toNat_zero, Int.natCast_zero, not_false_eq_true, not_true_eq_false, ite_true, ite_false]
        exact ih'
      · simp only [c, bind_some', cond_true, cond_false, decide_true, decide_false, Bool.not_true, Bool.not_false, Bool.true_and, Bool.and_true, Bool.and_false, Bool.false_and, Int.toNat_natCast, Int.natCast_nonneg, if_true, if_false, Bool.false_eq_true, Int.toNat_zero, Int.natCast_zero, not_false_eq_true, not_true_eq_false, ite_true, ite_false]
    · have h2 : i = p.length := by omega
      subst h2
      simp only [vary_Match.t0, bind_some', cond_true, cond_false, decide_true, decide_false, Bool.not_true, Bool.not_false, Bool.true_and, Bool.and_true, Bool.and_false, Bool.false_and, Int.toNat_natCast, Int.natCast_nonneg, if_true, if_false, Bool.false_eq_true, Int.toNat_zero, Int.natCast_zero, not_false_eq_true, not_true_eq_false, ite_true, ite_false, Int.lt_irrefl, List.drop_length, matchOf, List.all_nil]
theorem vary_Match_nil (K : Nat) (l : List Fld) (hK : 1 ≤ K) : vary_Match K [] l = some true := by
  obtain ⟨k, rfl⟩ : ∃ k, K = k + 1 := ⟨K - 1, by omega⟩
  rfl
end Go.Proofs.X

