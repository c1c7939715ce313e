/-
  A part of the proof. No condition.
-/
import Derived.Test.YtomeobbellhooaaDoorKP3
/- Chapter 09 (fields): what each printed function gives. No condition but on sizes. -/
set_option linter.unusedSimpArgs false
set_option linter.unusedVariables false
namespace Go.Proofs.X
open Go Go.Dp

theorem fld_eta (f : Fld) : ((f.1, (f.2.1, ())) : Fld) = f := rfl
theorem fld_beq (f g : Fld) : (f.1 == g.1 && (f.2.1 == g.2.1 && true)) = decide (f = g) := by
  obtain ⟨a, b, u⟩ := f
  obtain ⟨c, d, v⟩ := g
  simp only [Bool.and_true]
  by_cases h : a = c <;> by_cases h2 : b = d <;> simp [h, h2]

/-! Parse, Line. -/
def parseOf (s : List UInt8) : Fld × Int × Unit :=
  if s.length > 8192 then (([], [], ()), 4, ()) else
  let r := cutAt s 58
  let v := trim r.2.1
  if r.2.2.1 && isTok r.1 && v.all txt then ((r.1, v, ()), 0, ()) else (([], [], ()), 21, ())
theorem cutAt_lens (s : List UInt8) (b : UInt8) : (cutAt s b).1.length ≤ s.length ∧ (cutAt s b).2.1.length ≤ s.length := by
  unfold cutAt
  split
  · have h1 := takeWhile_len s (· != b)
    have h2 := cutAt_join s b (by assumption)
    have h3 := congrArg List.length h2
    simp only [List.length_append, List.length_singleton] at h3
    exact ⟨h1, by simp only; omega⟩
  · exact ⟨Nat.le_refl _, by simp⟩
theorem fields_Parse_ok {K : Nat} {s : List UInt8} (hs : s.length < 1000000) (hK : 1000000 + 100 ≤ K) : fields_Parse K s = some (parseOf s) := by
  obtain ⟨h1, h2⟩ := cutAt_lens s 58
  have h3 := length_trim (cutAt s 58).2.1
  have hc := octet_Cut_ok (K := K) (s := s) 58 (by omega)
  have hc : octet_Cut K s 58 = some (cutAt s 58) := hc
  simp only [fields_Parse, parseOf, hc, bind_some', cond_true, cond_false, decide_true, decide_false, Bool.not_true, Bool.not_false, Bool.true_and, Bool.and_true, Bool.and_false, Bool.false_and, Int.toNat_natCast, Int.natCast_nonneg, if_true, if_false, Bool.false_eq_true, Int.toNat_zero, Int.natCast_zero, not_false_eq_true, not_true_eq_false, ite_true, ite_false, octet_Trim_ok (K := K) (s := (cutAt s 58).2.1) (by omega) (by omega), octet_IsToken_ok (K := K) (s := (cutAt s 58).1) (by omega) (by omega), octet_IsText_ok (K := K) (s := trim (cutAt s 58).2.1) (by omega) (by omega)]
  by_cases h : s.length > 8192
  · have h' : (s.length : Int) > 8192 := by omega
    simp only [h, h', bind_some', cond_true, cond_false, decide_true, decide_false, Bool.not_true, Bool.not_false, Bool.true_and, Bool.and_true, Bool.and_false, Bool.false_and, Int.toNat_natCast, Int.natCast_nonneg, if_true, if_false, Bool.false_eq_true, Int.toNat_zero, Int.natCast_zero, not_false_eq_true, not_true_eq_false, ite_true, ite_false]
  · have h' : ¬ (s.length : Int) > 8192 := by omega
    simp only [h, h', bind_some', cond_true, cond_false, decide_true, decide_false, Bool.not_true, Bool.not_false, Bool.true_and, Bool.and_true, Bool.and_false, Bool.false_and, Int.toNat_natCast, Int.natCast_nonneg, if_true, if_false, Bool.false_eq_true, Int.toNat_zero, Int.natCast_zero, not_false_eq_true, not_true_eq_false, ite_true, ite_false]
    cases (cutAt s 58).2.2.1 <;> cases isTok (cutAt s 58).1 <;> cases (trim (cutAt s 58).2.1).all txt <;> simp only [bind_some', cond_true, cond_false, decide_true, decide_false, Bool.not_true, Bool.not_false, Bool.true_and, Bool.and_true, Bool.and_false, Bool.false_and, Int.toNat_natCast, Int.natCast_nonneg, if_true, if_false, Bool.false_eq_true, Int.toNat_zero, Int.natCast_zero, not_false_eq_true, not_true_eq_false, ite_true, ite_false]
theorem ref09_Parse_ok {K : Nat} {s : List UInt8} (hs : s.length < 1000000) (hK : 1000000 + 100 ≤ K) : depotref09_Parse K s = some (parseOf s) := by
  obtain ⟨h1, h2⟩ := cutAt_lens s 58
  have h3 := length_trim (cutAt s 58).2.1
  have hc := ref01_Cut_ok (K := K) (s := s) 58 (by omega) (by omega)
  have hc : depotref01_Cut K s 58 = some (cutAt s 58) := hc
  simp only [depotref09_Parse, parseOf, hc, bind_some', cond_true, cond_false, decide_true, decide_false, Bool.not_true, Bool.not_false, Bool.true_and, Bool.and_true, Bool.and_false, Bool.false_and, Int.toNat_natCast, Int.natCast_nonneg, if_true, if_false, Bool.false_eq_true, Int.toNat_zero, Int.natCast_zero, not_false_eq_true, not_true_eq_false, ite_true, ite_false, ref01_Trim_ok (K := K) (s := (cutAt s 58).2.1) (by omega) (by omega), ref01_IsToken_ok (K := K) (s := (cutAt s 58).1) (by omega) (by omega), ref01_IsText_ok (K := K) (s := trim (cutAt s 58).2.1) (by omega) (by omega)]
  by_cases h : s.length > 8192
  · have h' : (s.length : Int) > 8192 := by omega
    simp only [h, h', bind_some', cond_true, cond_false, decide_true, decide_false, Bool.not_true, Bool.not_false, Bool.true_and, Bool.and_true, Bool.and_false, Bool.false_and, Int.toNat_natCast, Int.natCast_nonneg, if_true, if_false, Bool.false_eq_true, Int.toNat_zero, Int.natCast_zero, not_false_eq_true, not_true_eq_false, ite_true, ite_false]
  · have h' : ¬ (s.length : Int) > 8192 := by omega
    simp only [h, h', bind_some', cond_true, cond_false, decide_true, decide_false, Bool.not_true, Bool.not_false, Bool.true_and, Bool.and_true, Bool.and_false, Bool.false_and, Int.toNat_natCast, Int.natCast_nonneg, if_true, if_false, Bool.false_eq_true, Int.toNat_zero, Int.natCast_zero, not_false_eq_true, not_true_eq_false, ite_true, ite_false]
    cases (cutAt s 58).2.2.1 <;> cases isTok (cutAt s 58).1 <;> cases (trim (cutAt s 58).2.1).all txt <;> simp only [bind_some', cond_true, cond_false, decide_true, decide_false, Bool.not_true, Bool.not_false, Bool.true_and, Bool.and_true, Bool.and_false, Bool.false_and, Int.toNat_natCast, Int.natCast_nonneg, if_true, if_false, Bool.false_eq_true, Int.toNat_zero, Int.natCast_zero, not_false_eq_true, not_true_eq_false, ite_true, ite_false]
def lineOf (f : Fld) : List UInt8 := f.1 ++ [58, 32] ++ f.2.1
theorem lineOf_len (f : Fld) : (lineOf f).length = f.1.length + 2 + f.2.1.length := by simp [lineOf]; omega
theorem fields_Line_ok {K : Nat} {f : Fld} (h1 : f.1.length < 1000000) (h2 : f.2.1.length < 1000000) : fields_Line K f = some (lineOf f) := by
  have q1 : f.1.length + 2 ≤ maxRoom := by simp only [maxRoom]; omega
  have q2 : (f.1 ++ [58, 32]).length + f.2.1.length ≤ maxRoom := by simp [maxRoom]; omega
  simp only [fields_Line, q1, q2, bind_some', cond_true, cond_false, decide_true, decide_false, Bool.not_true, Bool.not_false, Bool.true_and, Bool.and_true, Bool.and_false, Bool.false_and, Int.toNat_natCast, Int.natCast_nonneg, if_true, if_false, Bool.false_eq_true, Int.toNat_zero, Int.natCast_zero, not_false_eq_true, not_true_eq_false, ite_true, ite_false, lineOf]
theorem ref09_Line_ok {K : Nat} {f : Fld} (h1 : f.1.length < 1000000) (h2 : f.2.1.length < 1000000) : depotref09_Line K f = some (lineOf f) := by
  have q1 : f.1.length + 2 ≤ maxRoom := by simp only [maxRoom]; omega
  have q2 : (f.1 ++ [58, 32]).length + f.2.1.length ≤ maxRoom := by simp [maxRoom]; omega
  simp only [depotref09_Line, q1, q2, bind_some', cond_true, cond_false, decide_true, decide_false, Bool.not_true, Bool.not_false, Bool.true_and, Bool.and_true, Bool.and_false, Bool.false_and, Int.toNat_natCast, Int.natCast_nonneg, if_true, if_false, Bool.false_eq_true, Int.toNat_zero, Int.natCast_zero, not_false_eq_true, not_true_eq_false, ite_true, ite_false, lineOf]

/-! Check. -/
def badF (f : Fld) : Bool := !isTok f.1 || !f.2.1.all txt || !(trim f.2.1 == f.2.1)
def longF (f : Fld) : Bool := decide ((lineOf f).length > 8192)
def checkOf (l : List Fld) : Int := if l.length > 64 then 4 else if l.any badF then 21 else if l.any longF then 4 else 0
def sized (l : List Fld) : Prop := l.length < 1000000 ∧ ∀ f ∈ l, f.1.length < 100000 ∧ f.2.1.length < 100000
theorem fields_Check_ok {K : Nat} {l : List Fld} (h : sized l) (hK : 1000000 + 100 ≤ K) : fields_Check K l = some (checkOf l) := by
  obtain ⟨hl, hf⟩ := h
  have H := idx_rule (l := fields_Check.l0 K) (fields_Check.t0 K) (fun _ _ => rfl) l.length
    (fun i => (((l.take i).any longF, (l, ((l.length : Int), ((i : Int), ())))), ())) (fun i => if (l.drop i).any badF then .inr ((21, ()), ()) else .inl ((l.any longF, ()), ())) ?_ K 0 (by omega) (by omega)
  · simp only [Int.natCast_zero, List.take_zero, List.any_nil, List.drop_zero] at H
    simp only [fields_Check, fields_Check.tr, H, checkOf]
    by_cases c : l.length > 64
    · have c' : (l.length : Int) > 64 := by omega
      simp only [c, c', bind_some', cond_true, cond_false, decide_true, decide_false, Bool.not_true, Bool.not_false, Bool.true_and, Bool.and_true, Bool.and_false, Bool.false_and, Int.toNat_natCast, Int.natCast_nonneg, if_true, if_false, Bool.false_eq_true, Int.toNat_zero, Int.natCast_zero, not_false_eq_true, not_true_eq_false, ite_true, ite_false]
    · have c' : ¬ (l.length : Int) > 64 := by omega
      simp only [c, c', bind_some', cond_true, cond_false, decide_true, decide_false, Bool.not_true, Bool.not_false, Bool.true_and, Bool.and_true, Bool.and_false, Bool.false_and, Int.toNat_natCast, Int.natCast_nonneg, if_true, if_false, Bool.false_eq_true, Int.toNat_zero, Int.natCast_zero, not_false_eq_true, not_true_eq_false, ite_true, ite_false]
      cases l.any badF <;> cases l.any longF <;> simp only [bind_some', cond_true, cond_false, decide_true, decide_false, Bool.not_true, Bool.not_false, Bool.true_and, Bool.and_true, Bool.and_false, Bool.false_and, Int.toNat_natCast, Int.natCast_nonneg, if_true, if_false, Bool.false_eq_true, Int.toNat_zero, Int.natCast_zero, not_false_eq_true, not_true_eq_false, ite_true, ite_false]
  · intro i rec hi ih
    by_cases h : i < l.length
    · have hh : (i : Int) < (l.length : Int) := by omega
      have w1 := wrapSucc (show i < 9223372036854775807 by omega)
      have hm := getD_mem l (([], [], ()) : Fld) h
      have hb := hf _ hm
      have ih' := ih h
      rw [take_get l (([], [], ()) : Fld) h, List.any_append] at ih'
      simp only [List.any_cons, List.any_nil, Bool.or_false] at ih'
      rw [drop_get l (([], [], ()) : Fld) h, List.any_cons]
      simp only [fields_Check.t0, bind_some', cond_true, cond_false, decide_true, decide_false, Bool.not_true, Bool.not_false, Bool.true_and, Bool.and_true, Bool.and_false, Bool.false_and, Int.toNat_natCast, Int.natCast_nonneg, if_true, if_false, Bool.false_eq_true, Int.toNat_zero, Int.natCast_zero, not_false_eq_true, not_true_eq_false, ite_true, ite_false, hh, w1, octet_IsToken_ok (K := K) (s := (l.getD i (([], [], ()) : Fld)).1) (by omega) (by omega), octet_IsText_ok (K := K) (s := (l.getD i (([], [], ()) : Fld)).2.1) (by omega) (by omega), octet_Trim_ok (K := K) (s := (l.getD i (([], [], ()) : Fld)).2.1) (by omega) (by omega),
        fld_eta, fields_Line_ok (K := K) (f := l.getD i (([], [], ()) : Fld)) (by omega) (by omega)]
      have hlong : decide (((lineOf (l.getD i (([], [], ()) : Fld))).length : Int) > 8192) = longF (l.getD i (([], [], ()) : Fld)) := by
        simp only [longF]
        exact decide_eq_decide.2 (by omega)
      cases b1 : isTok (l.getD i (([], [], ()) : Fld)).1 with
      | false => simp only [badF, b1, bind_some', cond_true, cond_false, decide_true, decide_false, Bool.not_true, Bool.not_false, Bool.true_and, Bool.and_true, Bool.and_false, Bool.false_and, Int.toNat_natCast, Int.natCast_nonneg, if_true, if_false, Bool.false_eq_true, Int.toNat_zero, Int.natCast_zero, not_false_eq_true, not_true_eq_false, ite_true, ite_false, Bool.true_or]
      | true =>
        cases b2 : (l.getD i (([], [], ()) : Fld)).2.1.all txt with
        | false => simp only [badF, b1, b2, bind_some', cond_true, cond_false, decide_true, decide_false, Bool.not_true, Bool.not_false, Bool.true_and, Bool.and_true, Bool.and_false, Bool.false_and, Int.toNat_natCast, Int.natCast_nonneg, if_true, if_false, Bool.false_eq_true, Int.toNat_zero, Int.natCast_zero, not_false_eq_true, not_true_eq_false, ite_true, ite_false, Bool.false_or, Bool.true_or]
        | true =>
          cases b3 : (trim (l.getD i (([], [], ()) : Fld)).2.1 == (l.getD i (([], [], ()) : Fld)).2.1) with
          | false => simp only [badF, b1, b2, b3, bind_some', cond_true, cond_false, decide_true, decide_false, Bool.not_true, Bool.not_false, Bool.true_and, Bool.and_true, Bool.and_false, Bool.false_and, Int.toNat_natCast, Int.natCast_nonneg, if_true, if_false, Bool.false_eq_true, Int.toNat_zero, Int.natCast_zero, not_false_eq_true, not_true_eq_false, ite_true, ite_false, Bool.false_or, Bool.true_or]
          | true =>
            have hbf : badF (l.getD i (([], [], ()) : Fld)) = false := by simp only [badF, b1, b2, b3]; rfl
            simp only [hbf, b1, b2, b3, w1, bind_some', cond_true, cond_false, decide_true, decide_false, Bool.not_true, Bool.not_false, Bool.true_and, Bool.and_true, Bool.and_false, Bool.false_and, Int.toNat_natCast, Int.natCast_nonneg, if_true, if_false, Bool.false_eq_true, Int.toNat_zero, Int.natCast_zero, not_false_eq_true, not_true_eq_false, ite_true, ite_false, Bool.false_or, fld_eta, fields_Line_ok (K := K) (f := l.getD i (([], [], ()) : Fld)) (by omega) (by omega), hlong]
            cases b4 : (l.take i).any longF with
            | true => simp only [b4, w1, bind_some', cond_true, cond_false, decide_true, decide_false, Bool.not_true, Bool.not_false, Bool.true_and, Bool.and_true, Bool.and_false, Bool.false_and, Int.toNat_natCast, Int.natCast_nonneg, if_true, if_false, Bool.false_eq_true, Int.toNat_zero, Int.natCast_zero, not_false_eq_true, not_true_eq_false, ite_true, ite_false, Bool.true_or] at ih' ⊢; exact ih'
            | false => simp only [b4, w1, bind_some', cond_true, cond_false, decide_true, decide_false, Bool.not_true, Bool.not_false, Bool.true_and, Bool.and_true, Bool.and_false, Bool.false_and, Int.toNat_natCast, Int.natCast_nonneg, if_true, if_false, Bool.false_eq_true, Int.toNat_zero, Int.natCast_zero, not_false_eq_true, not_true_eq_false, ite_true, ite_false, Bool.false_or] at ih' ⊢; exact ih'
    · have h2 : i = l.length := by omega
      subst h2
      simp only [fields_Check.t0, bind_some', cond_true, cond_false, decide_true, decide_false, Bool.not_true, Bool.not_false, Bool.true_and, Bool.and_true, Bool.and_false, Bool.false_and, Int.toNat_natCast, Int.natCast_nonneg, if_true, if_false, Bool.false_eq_true, Int.toNat_zero, Int.natCast_zero, not_false_eq_true, not_true_eq_false, ite_true, ite_false, Int.lt_irrefl, List.take_length, drop_len, List.any_nil]
theorem ref09_Check_ok {K : Nat} {l : List Fld} (h : sized l) (hK : 1000000 + 100 ≤ K) : depotref09_Check K l = some (checkOf l) := by
  obtain ⟨hl, hf⟩ := h
  have H := idx_rule (l := depotref09_Check.l0 K) (depotref09_Check.t0 K) (fun _ _ => rfl) l.length
    (fun i => ((l, ((i : Int), ())), ())) (fun i => if (l.drop i).any badF then .inr ((21, ()), ()) else .inl ((l, ()), ())) ?_ K 0 (by omega) (by omega)
  · have H1 := idx_rule (l := depotref09_Check.l1 K) (depotref09_Check.t1 K) (fun _ _ => rfl) l.length
      (fun i => ((l, ((i : Int), ())), ())) (fun i => if (l.drop i).any longF then .inr ((4, ()), ()) else .inl ((), ())) ?_ K 0 (by omega) (by omega)
    · simp only [Int.natCast_zero, List.drop_zero] at H H1
      simp only [depotref09_Check, depotref09_Check.tr, H, checkOf]
      by_cases c : l.length > 64
      · have c' : (l.length : Int) > 64 := by omega
        simp only [c, c', bind_some', cond_true, cond_false, decide_true, decide_false, Bool.not_true, Bool.not_false, Bool.true_and, Bool.and_true, Bool.and_false, Bool.false_and, Int.toNat_natCast, Int.natCast_nonneg, if_true, if_false, Bool.false_eq_true, Int.toNat_zero, Int.natCast_zero, not_false_eq_true, not_true_eq_false, ite_true, ite_false]
      · have c' : ¬ (l.length : Int) > 64 := by omega
        simp only [c, c', bind_some', cond_true, cond_false, decide_true, decide_false, Bool.not_true, Bool.not_false, Bool.true_and, Bool.and_true, Bool.and_false, Bool.false_and, Int.toNat_natCast, Int.natCast_nonneg, if_true, if_false, Bool.false_eq_true, Int.toNat_zero, Int.natCast_zero, not_false_eq_true, not_true_eq_false, ite_true, ite_false]
        cases l.any badF with
        | true => simp only [bind_some', cond_true, cond_false, decide_true, decide_false, Bool.not_true, Bool.not_false, Bool.true_and, Bool.and_true, Bool.and_false, Bool.false_and, Int.toNat_natCast, Int.natCast_nonneg, if_true, if_false, Bool.false_eq_true, Int.toNat_zero, Int.natCast_zero, not_false_eq_true, not_true_eq_false, ite_true, ite_false]
        | false =>
          simp only [bind_some', cond_true, cond_false, decide_true, decide_false, Bool.not_true, Bool.not_false, Bool.true_and, Bool.and_true, Bool.and_false, Bool.false_and, Int.toNat_natCast, Int.natCast_nonneg, if_true, if_false, Bool.false_eq_true, Int.toNat_zero, Int.natCast_zero, not_false_eq_true, not_true_eq_false, ite_true, ite_false, H1]
          cases l.any longF <;> simp only [bind_some', cond_true, cond_false, decide_true, decide_false, Bool.not_true, Bool.not_false, Bool.true_and, Bool.and_true, Bool.and_false, Bool.false_and, Int.toNat_natCast, Int.natCast_nonneg, if_true, if_false, Bool.false_eq_true, Int.toNat_zero, Int.natCast_zero, not_false_eq_true, not_true_eq_false, ite_true, ite_false]
    · intro i rec hi ih
      by_cases h : i < l.length
      · have hh : (i : Int) < (l.length : Int) := by omega
        have w1 := wrapSucc (show i < 9223372036854775807 by omega)
        have hm := getD_mem l (([], [], ()) : Fld) h
        have hb := hf _ hm
        have ih' := ih h
        rw [drop_get l (([], [], ()) : Fld) h, List.any_cons]
        have e1 : IntKind.wrap .i64 (((l.getD i (([], [], ()) : Fld)).1.length : Int) + ((l.getD i (([], [], ()) : Fld)).2.1.length : Int)) = (((l.getD i (([], [], ()) : Fld)).1.length + (l.getD i (([], [], ()) : Fld)).2.1.length : Nat) : Int) := wrapAdd _ (by omega)
        have e2 := wrapTwo (show (l.getD i (([], [], ()) : Fld)).1.length + (l.getD i (([], [], ()) : Fld)).2.1.length < 9223372036854775806 by omega)
        have hlong : decide ((((l.getD i (([], [], ()) : Fld)).1.length + (l.getD i (([], [], ()) : Fld)).2.1.length + 2 : Nat) : Int) > 8192) = longF (l.getD i (([], [], ()) : Fld)) := by
          simp only [longF, lineOf_len]
          exact decide_eq_decide.2 (by omega)
        simp only [depotref09_Check.t1, bind_some', cond_true, cond_false, decide_true, decide_false, Bool.not_true, Bool.not_false, Bool.true_and, Bool.and_true, Bool.and_false, Bool.false_and, Int.toNat_natCast, Int.natCast_nonneg, if_true, if_false, Bool.false_eq_true, Int.toNat_zero, Int.natCast_zero, not_false_eq_true, not_true_eq_false, ite_true, ite_false, hh, w1, e1, e2, hlong]
        cases b4 : longF (l.getD i (([], [], ()) : Fld)) with
        | true => simp only [bind_some', cond_true, cond_false, decide_true, decide_false, Bool.not_true, Bool.not_false, Bool.true_and, Bool.and_true, Bool.and_false, Bool.false_and, Int.toNat_natCast, Int.natCast_nonneg, if_true, if_false, Bool.false_eq_true, Int.toNat_zero, Int.natCast_zero, not_false_eq_true, not_true_eq_false, ite_true, ite_false, Bool.true_or]
        | false => simp only [bind_some', cond_true, cond_false, decide_true, decide_false, Bool.not_true, Bool.not_false, Bool.true_and, Bool.and_true, Bool.and_false, Bool.false_and, Int.toNat_natCast, Int.natCast_nonneg, if_true, if_false, Bool.false_eq_true, Int.toNat_zero, Int.natCast_zero, not_false_eq_true, not_true_eq_false, ite_true, ite_false, Bool.false_or]; exact ih'
      · have h2 : i = l.length := by omega
        subst h2
        simp only [depotref09_Check.t1, bind_some', cond_true, cond_false, decide_true, decide_false, Bool.not_true, Bool.not_false, Bool.true_and, Bool.and_true, Bool.and_false, Bool.false_and, Int.toNat_natCast, Int.natCast_nonneg, if_true, if_false, Bool.false_eq_true, Int.toNat_zero, Int.natCast_zero, not_false_eq_true, not_true_eq_false, ite_true, ite_false, Int.lt_irrefl, drop_len, List.any_nil]
  · intro i rec hi ih
    by_cases h : i < l.length
    · have hh : (i : Int) < (l.length : Int) := by omega
      have w1 := wrapSucc (show i < 9223372036854775807 by omega)
      have hm := getD_mem l (([], [], ()) : Fld) h
      have hb := hf _ hm
      have ih' := ih h
      rw [drop_get l (([], [], ()) : Fld) h, List.any_cons]
      simp only [depotref09_Check.t0, bind_some', cond_true, cond_false, decide_true, decide_false, Bool.not_true, Bool.not_false, Bool.true_and, Bool.and_true, Bool.and_false, Bool.false_and, Int.toNat_natCast, Int.natCast_nonneg, if_true, if_false, Bool.false_eq_true, Int.toNat_zero, Int.natCast_zero, not_false_eq_true, not_true_eq_false, ite_true, ite_false, hh, w1, ref01_IsToken_ok (K := K) (s := (l.getD i (([], [], ()) : Fld)).1) (by omega) (by omega), ref01_IsText_ok (K := K) (s := (l.getD i (([], [], ()) : Fld)).2.1) (by omega) (by omega), ref01_Trim_ok (K := K) (s := (l.getD i (([], [], ()) : Fld)).2.1) (by omega) (by omega)]
      cases b1 : isTok (l.getD i (([], [], ()) : Fld)).1 with
      | false => simp only [badF, b1, bind_some', cond_true, cond_false, decide_true, decide_false, Bool.not_true, Bool.not_false, Bool.true_and, Bool.and_true, Bool.and_false, Bool.false_and, Int.toNat_natCast, Int.natCast_nonneg, if_true, if_false, Bool.false_eq_true, Int.toNat_zero, Int.natCast_zero, not_false_eq_true, not_true_eq_false, ite_true, ite_false, Bool.true_or]
      | true =>
        cases b2 : (l.getD i (([], [], ()) : Fld)).2.1.all txt with
        | false => simp only [badF, b1, b2, bind_some', cond_true, cond_false, decide_true, decide_false, Bool.not_true, Bool.not_false, Bool.true_and, Bool.and_true, Bool.and_false, Bool.false_and, Int.toNat_natCast, Int.natCast_nonneg, if_true, if_false, Bool.false_eq_true, Int.toNat_zero, Int.natCast_zero, not_false_eq_true, not_true_eq_false, ite_true, ite_false, Bool.false_or, Bool.true_or]
        | true =>
          cases b3 : (trim (l.getD i (([], [], ()) : Fld)).2.1 == (l.getD i (([], [], ()) : Fld)).2.1) with
          | false => simp only [badF, b1, b2, b3, bind_some', cond_true, cond_false, decide_true, decide_false, Bool.not_true, Bool.not_false, Bool.true_and, Bool.and_true, Bool.and_false, Bool.false_and, Int.toNat_natCast, Int.natCast_nonneg, if_true, if_false, Bool.false_eq_true, Int.toNat_zero, Int.natCast_zero, not_false_eq_true, not_true_eq_false, ite_true, ite_false, Bool.false_or, Bool.true_or]
          | true =>
            have hbf : badF (l.getD i (([], [], ()) : Fld)) = false := by simp only [badF, b1, b2, b3]; rfl
            simp only [hbf, b1, b2, b3, w1, bind_some', cond_true, cond_false, decide_true, decide_false, Bool.not_true, Bool.not_false, Bool.true_and, Bool.and_true, Bool.and_false, Bool.false_and, Int.toNat_natCast, Int.natCast_nonneg, if_true, if_false, Bool.false_eq_true, Int.toNat_zero, Int.natCast_zero, not_false_eq_true, not_true_eq_false, ite_true, ite_false, Bool.false_or]
            exact ih'
    · have h2 : i = l.length := by omega
      subst h2
      simp only [depotref09_Check.t0, bind_some', cond_true, cond_false, decide_true, decide_false, Bool.not_true, Bool.not_false, Bool.true_and, Bool.and_true, Bool.and_false, Bool.false_and, Int.toNat_natCast, Int.natCast_nonneg, if_true, if_false, Bool.false_eq_true, Int.toNat_zero, Int.natCast_zero, not_false_eq_true, not_true_eq_false, ite_true, ite_false, Int.lt_irrefl, drop_len, List.any_nil]

/-! Join, Get. -/
theorem joinTail_snoc (sep : List UInt8) (r : List (List UInt8)) (y : List UInt8) : Lib.joinTail sep (r ++ [y]) = Lib.joinTail sep r ++ (sep ++ y) := by simp [Lib.joinTail]
theorem join_snoc (l : List (List UInt8)) (y sep : List UInt8) : Lib.join (l ++ [y]) sep = if l = [] then y else Lib.join l sep ++ sep ++ y := by
  cases l with
  | nil => simp [Lib.join_one]
  | cons x r => rw [List.cons_append, Lib.join_cons, joinTail_snoc, Lib.join_cons]; simp
theorem join_len (l : List (List UInt8)) (sep : List UInt8) (b : Nat) (h : ∀ v ∈ l, v.length ≤ b) : (Lib.join l sep).length ≤ l.length * (b + sep.length) := by
  cases l with
  | nil => simp [Lib.join_nil]
  | cons x r =>
    rw [Lib.join_cons]
    have ht : ∀ r : List (List UInt8), (∀ v ∈ r, v.length ≤ b) → (Lib.joinTail sep r).length ≤ r.length * (b + sep.length) := by
      intro r
      induction r with
      | nil => intro _; simp [Lib.joinTail]
      | cons y r ih =>
        intro hr
        have h1 := ih fun v hv => hr v (List.mem_cons_of_mem _ hv)
        have h2 := hr y List.mem_cons_self
        have e : Lib.joinTail sep (y :: r) = sep ++ y ++ Lib.joinTail sep r := by simp [Lib.joinTail]
        rw [e, List.length_append, List.length_append, List.length_cons, Nat.add_mul]
        omega
    have h1 := ht r fun v hv => h v (List.mem_cons_of_mem _ hv)
    have h2 := h x List.mem_cons_self
    rw [List.length_append, List.length_cons, Nat.add_mul]
    omega
theorem joinS_eq {K : Nat} {l : List (List UInt8)} {sep : List UInt8} (hl : l.length ≤ 1000000) (b : Nat) (hb : b ≤ 1000000) (hs : sep.length ≤ 100) (h : ∀ v ∈ l, v.length ≤ b) : joinS K l sep = some (Lib.join l sep) := by
  have h1 := join_len l sep b h
  have h2 : l.length * (b + sep.length) ≤ 1000000 * 1000100 := Nat.mul_le_mul hl (by omega)
  have q1 : l.length ≤ 140737488355328 := by omega
  have q2 : (Lib.join l sep).length ≤ 140737488355328 := by omega
  simp only [joinS, joinF, q1, q2, bind_some', cond_true, cond_false, decide_true, decide_false, Bool.not_true, Bool.not_false, Bool.true_and, Bool.and_true, Bool.and_false, Bool.false_and, Int.toNat_natCast, Int.natCast_nonneg, if_true, if_false, Bool.false_eq_true, Int.toNat_zero, Int.natCast_zero, not_false_eq_true, not_true_eq_false, ite_true, ite_false]
def sep2 : List UInt8 := [44, 32]
theorem ref06_Join_ok {K : Nat} {l : List (List UInt8)} (hl : l.length < 1000000) (b : Nat) (hb : b ≤ 1000000) (h : ∀ v ∈ l, v.length ≤ b) (hK : 1000000 ≤ K) : depotref06_Join K l = some (Lib.join l sep2) := by
  have H := idx_rule (l := depotref06_Join.l0 K) (depotref06_Join.t0 K) (fun _ _ => rfl) l.length
    (fun i => ((l, (Lib.join (l.take i) sep2, ((i : Int), ()))), ())) (fun i => ((Lib.join l sep2, ()), ())) ?_ K 0 (by omega) (by omega)
  · simp only [Int.natCast_zero, List.take_zero, Lib.join_nil] at H
    simp only [depotref06_Join, depotref06_Join.tr, H, bind_some', cond_true, cond_false, decide_true, decide_false, Bool.not_true, Bool.not_false, Bool.true_and, Bool.and_true, Bool.and_false, Bool.false_and, Int.toNat_natCast, Int.natCast_nonneg, if_true, if_false, Bool.false_eq_true, Int.toNat_zero, Int.natCast_zero, not_false_eq_true, not_true_eq_false, ite_true, ite_false]
  · intro i rec hi ih
    by_cases h0 : i < l.length
    · have hh : (i : Int) < (l.length : Int) := by omega
      have w1 := wrapSucc (show i < 9223372036854775807 by omega)
      have hm := getD_mem l [] h0
      have hbm := h _ hm
      have h1 := join_len (l.take i) sep2 b (fun v hv => h v (List.mem_of_mem_take hv))
      have hsl : sep2.length = 2 := rfl
      have h2 : (l.take i).length * (b + sep2.length) ≤ 1000000 * 1000002 := Nat.mul_le_mul (by simp; omega) (by omega)
      have q1 : (Lib.join (l.take i) sep2).length + 2 ≤ maxRoom := by simp only [maxRoom]; omega
      have q2 : (Lib.join (l.take i) sep2 ++ [44, 32]).length + (l.getD i []).length ≤ maxRoom := by simp only [List.length_append, List.length_cons, List.length_nil, maxRoom]; omega
      have q3 : (Lib.join (l.take i) sep2).length + (l.getD i []).length ≤ maxRoom := by simp only [maxRoom]; omega
      have ih' := ih h0
      rw [take_get l [] h0, join_snoc] at ih'
      by_cases c : i = 0
      · subst c
        simp only [List.take_zero, if_true, Lib.join_nil] at ih' q3 ⊢
        simp only [depotref06_Join.t0, bind_some', cond_true, cond_false, decide_true, decide_false, Bool.not_true, Bool.not_false, Bool.true_and, Bool.and_true, Bool.and_false, Bool.false_and, Int.toNat_natCast, Int.natCast_nonneg, if_true, if_false, Bool.false_eq_true, Int.toNat_zero, Int.natCast_zero, not_false_eq_true, not_true_eq_false, ite_true, ite_false, w1, hh, Int.lt_irrefl, List.nil_append, q3, show ¬ ((0 : Nat) : Int) > 0 by decide]
        simp only [bind_some', cond_true, cond_false, decide_true, decide_false, Bool.not_true, Bool.not_false, Bool.true_and, Bool.and_true, Bool.and_false, Bool.false_and, Int.toNat_natCast, Int.natCast_nonneg, if_true, if_false, Bool.false_eq_true, Int.toNat_zero, Int.natCast_zero, not_false_eq_true, not_true_eq_false, ite_true, ite_false] at hh w1 ih' ⊢
        simp only [hh, w1, q3, bind_some', cond_true, cond_false, decide_true, decide_false, Bool.not_true, Bool.not_false, Bool.true_and, Bool.and_true, Bool.and_false, Bool.false_and, Int.toNat_natCast, Int.natCast_nonneg, if_true, if_false, Bool.false_eq_true, Int.toNat_zero, Int.natCast_zero, not_false_eq_true, not_true_eq_false, ite_true, ite_false, show ¬ (0 : Int) > 0 by decide, List.nil_append]
        exact ih'
      · have hc : (i : Int) > 0 := by omega
        have hne : ¬ l.take i = [] := by
          intro e
          have := congrArg List.length e
          rw [List.length_take, List.length_nil] at this
          omega
        rw [if_neg hne] at ih'
        simp only [depotref06_Join.t0, bind_some', cond_true, cond_false, decide_true, decide_false, Bool.not_true, Bool.not_false, Bool.true_and, Bool.and_true, Bool.and_false, Bool.false_and, Int.toNat_natCast, Int.natCast_nonneg, if_true, if_false, Bool.false_eq_true, Int.toNat_zero, Int.natCast_zero, not_false_eq_true, not_true_eq_false, ite_true, ite_false, w1, hh, hc, q1, q2]
        exact ih'
    · have h2 : i = l.length := by omega
      subst h2
      simp only [depotref06_Join.t0, bind_some', cond_true, cond_false, decide_true, decide_false, Bool.not_true, Bool.not_false, Bool.true_and, Bool.and_true, Bool.and_false, Bool.false_and, Int.toNat_natCast, Int.natCast_nonneg, if_true, if_false, Bool.false_eq_true, Int.toNat_zero, Int.natCast_zero, not_false_eq_true, not_true_eq_false, ite_true, ite_false, Int.lt_irrefl, List.take_length]

def getOf (l : List Fld) (name : List UInt8) : List UInt8 × Bool × Unit := (Lib.join (allOf l name) sep2, decide ((allOf l name).length > 0), ())
theorem allOf_len (l : List Fld) (name : List UInt8) : (allOf l name).length ≤ l.length := by
  have := List.length_filter_le (fun f : Fld => same f.1 name) l
  simp only [allOf, List.length_map]; omega
theorem allOf_mem {l : List Fld} {name : List UInt8} {b : Nat} (h : ∀ f ∈ l, f.2.1.length ≤ b) : ∀ v ∈ allOf l name, v.length ≤ b := by
  intro v hv
  obtain ⟨f, hf, rfl⟩ := List.mem_map.1 hv
  exact h f (List.mem_filter.1 hf).1
theorem fields_Get_ok {K : Nat} {l : List Fld} {name : List UInt8} (h : sized l) (h2 : name.length < 1000000) (hK : 1000000 ≤ K) : fields_Get K l name = some (getOf l name) := by
  have h3 := allOf_len l name
  have hd : decide (((allOf l name).length : Int) > 0) = decide ((allOf l name).length > 0) := decide_eq_decide.2 (by omega)
  have hb : ∀ v ∈ allOf l name, v.length ≤ 100000 := allOf_mem fun f hf => by have := (h.2 f hf).2; omega
  have hj := joinS_eq (K := K) (sep := [44, 32]) (by have := h.1; omega) 100000 (by omega) (by decide) hb
  simp only [fields_Get, fields_All_ok h.1 (fun f hf => by have := (h.2 f hf).1; omega) h2 hK, bind_some', cond_true, cond_false, decide_true, decide_false, Bool.not_true, Bool.not_false, Bool.true_and, Bool.and_true, Bool.and_false, Bool.false_and, Int.toNat_natCast, Int.natCast_nonneg, if_true, if_false, Bool.false_eq_true, Int.toNat_zero, Int.natCast_zero, not_false_eq_true, not_true_eq_false, ite_true, ite_false, hj, getOf, hd, sep2]
theorem ref09_Get_ok {K : Nat} {l : List Fld} {name : List UInt8} (h : sized l) (h2 : name.length < 1000000) (hK : 1000000 ≤ K) : depotref09_Get K l name = some (getOf l name) := by
  have h3 := allOf_len l name
  have hd : decide (((allOf l name).length : Int) > 0) = decide ((allOf l name).length > 0) := decide_eq_decide.2 (by omega)
  have hb : ∀ v ∈ allOf l name, v.length ≤ 100000 := allOf_mem fun f hf => by have := (h.2 f hf).2; omega
  have hj := ref06_Join_ok (K := K) (by have := h.1; omega) 100000 (by omega) hb hK
  simp only [depotref09_Get, ref09_All_ok h.1 (fun f hf => by have := (h.2 f hf).1; omega) h2 hK, bind_some', cond_true, cond_false, decide_true, decide_false, Bool.not_true, Bool.not_false, Bool.true_and, Bool.and_true, Bool.and_false, Bool.false_and, Int.toNat_natCast, Int.natCast_nonneg, if_true, if_false, Bool.false_eq_true, Int.toNat_zero, Int.natCast_zero, not_false_eq_true, not_true_eq_false, ite_true, ite_false, hj, getOf, hd]
/-! Has. -/
def itemIn (v item : List UInt8) : Bool := (splitS v).1.any fun x => same x item
theorem items_Has_ok {K : Nat} {v item : List UInt8} (hv : v.length < 1000000) (hi : item.length < 1000000) (hK : 1000000 + 100 ≤ K) : items_Has K v item = some (itemIn v item) := by
  have hc := splitS_count v
  have hit := splitS_items v
  simp only [items_Has, items_Has.tr, items_Split_ok (K := K) (s := v) (by omega) (by omega), bind_some', cond_true, cond_false, decide_true, decide_false, Bool.not_true, Bool.not_false, Bool.true_and, Bool.and_true, Bool.and_false, Bool.false_and, Int.toNat_natCast, Int.natCast_nonneg, if_true, if_false, Bool.false_eq_true, Int.toNat_zero, Int.natCast_zero, not_false_eq_true, not_true_eq_false, ite_true, ite_false, itemIn]
  generalize (splitS v).1 = xs at hc hit
  have H := idx_rule (l := items_Has.l0 K) (items_Has.t0 K) (fun _ _ => rfl) xs.length
    (fun i => ((item, (xs, ((xs.length : Int), ((i : Int), ())))), ())) (fun i => if (xs.drop i).any (fun x => same x item) then .inr ((true, ()), ()) else .inl ((), ())) ?_ K 0 (by omega) (by omega)
  · simp only [Int.natCast_zero, List.drop_zero] at H
    rw [H]
    cases xs.any (fun x => same x item) <;> simp only [bind_some', cond_true, cond_false, decide_true, decide_false, Bool.not_true, Bool.not_false, Bool.true_and, Bool.and_true, Bool.and_false, Bool.false_and, Int.toNat_natCast, Int.natCast_nonneg, if_true, if_false, Bool.false_eq_true, Int.toNat_zero, Int.natCast_zero, not_false_eq_true, not_true_eq_false, ite_true, ite_false]
  · intro i rec hi' ih
    by_cases h : i < xs.length
    · have hh : (i : Int) < (xs.length : Int) := by omega
      have w1 := wrapSucc (show i < 9223372036854775807 by omega)
      have hm := getD_mem xs [] h
      have hb := hit _ hm
      have hs := octet_Same_ok (K := K) (a := xs.getD i []) (b := item) (by omega) (by omega) (by omega) (by omega)
      have ih' := ih h
      rw [drop_get xs [] h, List.any_cons]
      simp only [items_Has.t0, bind_some', cond_true, cond_false, decide_true, decide_false, Bool.not_true, Bool.not_false, Bool.true_and, Bool.and_true, Bool.and_false, Bool.false_and, Int.toNat_natCast, Int.natCast_nonneg, if_true, if_false, Bool.false_eq_true, Int.toNat_zero, Int.natCast_zero, not_false_eq_true, not_true_eq_false, ite_true, ite_false, hh, hs, w1]
      cases c : same (xs.getD i []) item with
      | true => simp only [bind_some', cond_true, cond_false, decide_true, decide_false, Bool.not_true, Bool.not_false, Bool.true_and, Bool.and_true, Bool.and_false, Bool.false_and, Int.toNat_natCast, Int.natCast_nonneg, if_true, if_false, Bool.false_eq_true, Int.toNat_zero, Int.natCast_zero, not_false_eq_true, not_true_eq_false, ite_true, ite_false, Bool.true_or]
      | false => simp only [bind_some', cond_true, cond_false, decide_true, decide_false, Bool.not_true, Bool.not_false, Bool.true_and, Bool.and_true, Bool.and_false, Bool.false_and, Int.toNat_natCast, Int.natCast_nonneg, if_true, if_false, Bool.false_eq_true, Int.toNat_zero, Int.natCast_zero, not_false_eq_true, not_true_eq_false, ite_true, ite_false, w1, Bool.false_or]; exact ih'
    · have h2 : i = xs.length := by omega
      subst h2
      simp only [items_Has.t0, bind_some', cond_true, cond_false, decide_true, decide_false, Bool.not_true, Bool.not_false, Bool.true_and, Bool.and_true, Bool.and_false, Bool.false_and, Int.toNat_natCast, Int.natCast_nonneg, if_true, if_false, Bool.false_eq_true, Int.toNat_zero, Int.natCast_zero, not_false_eq_true, not_true_eq_false, ite_true, ite_false, Int.lt_irrefl, drop_len, List.any_nil]
theorem ref06_Has_ok {K : Nat} {v item : List UInt8} (hv : v.length < 1000000) (hi : item.length < 1000000) (hK : 1000000 + 100 ≤ K) : depotref06_Has K v item = some (itemIn v item) := by
  have hc := splitS_count v
  have hit := splitS_items v
  simp only [depotref06_Has, depotref06_Has.tr, ref06_Split_ok (K := K) (s := v) (by omega) (by omega), bind_some', cond_true, cond_false, decide_true, decide_false, Bool.not_true, Bool.not_false, Bool.true_and, Bool.and_true, Bool.and_false, Bool.false_and, Int.toNat_natCast, Int.natCast_nonneg, if_true, if_false, Bool.false_eq_true, Int.toNat_zero, Int.natCast_zero, not_false_eq_true, not_true_eq_false, ite_true, ite_false, itemIn]
  generalize (splitS v).1 = xs at hc hit
  have H := idx_rule (l := depotref06_Has.l0 K) (depotref06_Has.t0 K) (fun _ _ => rfl) xs.length
    (fun i => ((item, (xs, ((i : Int), ()))), ())) (fun i => if (xs.drop i).any (fun x => same x item) then .inr ((true, ()), ()) else .inl ((), ())) ?_ K 0 (by omega) (by omega)
  · simp only [Int.natCast_zero, List.drop_zero] at H
    rw [H]
    cases xs.any (fun x => same x item) <;> simp only [bind_some', cond_true, cond_false, decide_true, decide_false, Bool.not_true, Bool.not_false, Bool.true_and, Bool.and_true, Bool.and_false, Bool.false_and, Int.toNat_natCast, Int.natCast_nonneg, if_true, if_false, Bool.false_eq_true, Int.toNat_zero, Int.natCast_zero, not_false_eq_true, not_true_eq_false, ite_true, ite_false]
  · intro i rec hi' ih
    by_cases h : i < xs.length
    · have hh : (i : Int) < (xs.length : Int) := by omega
      have w1 := wrapSucc (show i < 9223372036854775807 by omega)
      have hm := getD_mem xs [] h
      have hb := hit _ hm
      have hs := ref01_Same_ok (K := K) (a := xs.getD i []) (b := item) (by omega) (by omega) (by omega) (by omega)
      have ih' := ih h
      rw [drop_get xs [] h, List.any_cons]
      simp only [depotref06_Has.t0, bind_some', cond_true, cond_false, decide_true, decide_false, Bool.not_true, Bool.not_false, Bool.true_and, Bool.and_true, Bool.and_false, Bool.false_and, Int.toNat_natCast, Int.natCast_nonneg, if_true, if_false, Bool.false_eq_true, Int.toNat_zero, Int.natCast_zero, not_false_eq_true, not_true_eq_false, ite_true, ite_false, hh, hs, w1]
      cases c : same (xs.getD i []) item with
      | true => simp only [bind_some', cond_true, cond_false, decide_true, decide_false, Bool.not_true, Bool.not_false, Bool.true_and, Bool.and_true, Bool.and_false, Bool.false_and, Int.toNat_natCast, Int.natCast_nonneg, if_true, if_false, Bool.false_eq_true, Int.toNat_zero, Int.natCast_zero, not_false_eq_true, not_true_eq_false, ite_true, ite_false, Bool.true_or]
      | false => simp only [bind_some', cond_true, cond_false, decide_true, decide_false, Bool.not_true, Bool.not_false, Bool.true_and, Bool.and_true, Bool.and_false, Bool.false_and, Int.toNat_natCast, Int.natCast_nonneg, if_true, if_false, Bool.false_eq_true, Int.toNat_zero, Int.natCast_zero, not_false_eq_true, not_true_eq_false, ite_true, ite_false, w1, Bool.false_or]; exact ih'
    · have h2 : i = xs.length := by omega
      subst h2
      simp only [depotref06_Has.t0, bind_some', cond_true, cond_false, decide_true, decide_false, Bool.not_true, Bool.not_false, Bool.true_and, Bool.and_true, Bool.and_false, Bool.false_and, Int.toNat_natCast, Int.natCast_nonneg, if_true, if_false, Bool.false_eq_true, Int.toNat_zero, Int.natCast_zero, not_false_eq_true, not_true_eq_false, ite_true, ite_false, Int.lt_irrefl, drop_len, List.any_nil]
def hasOf (l : List Fld) (name item : List UInt8) : Bool := (allOf l name).any fun v => itemIn v item
theorem fields_Has_ok {K : Nat} {l : List Fld} {name item : List UInt8} (h : sized l) (h2 : name.length < 1000000) (hi : item.length < 1000000) (hK : 1000000 + 100 ≤ K) : fields_Has K l name item = some (hasOf l name item) := by
  have h3 := allOf_len l name
  have hb : ∀ v ∈ allOf l name, v.length ≤ 100000 := allOf_mem fun f hf => by have := (h.2 f hf).2; omega
  have hl := h.1
  simp only [fields_Has, fields_Has.tr, fields_All_ok h.1 (fun f hf => by have := (h.2 f hf).1; omega) h2 (show 1000000 ≤ K by omega), bind_some', cond_true, cond_false, decide_true, decide_false, Bool.not_true, Bool.not_false, Bool.true_and, Bool.and_true, Bool.and_false, Bool.false_and, Int.toNat_natCast, Int.natCast_nonneg, if_true, if_false, Bool.false_eq_true, Int.toNat_zero, Int.natCast_zero, not_false_eq_true, not_true_eq_false, ite_true, ite_false, hasOf]
  generalize allOf l name = xs at h3 hb
  have H := idx_rule (l := fields_Has.l0 K) (fields_Has.t0 K) (fun _ _ => rfl) xs.length
    (fun i => ((item, (xs, ((xs.length : Int), ((i : Int), ())))), ())) (fun i => if (xs.drop i).any (fun v => itemIn v item) then .inr ((true, ()), ()) else .inl ((), ())) ?_ K 0 (by omega) (by omega)
  · simp only [Int.natCast_zero, List.drop_zero] at H
    rw [H]
    cases xs.any (fun v => itemIn v item) <;> simp only [bind_some', cond_true, cond_false, decide_true, decide_false, Bool.not_true, Bool.not_false, Bool.true_and, Bool.and_true, Bool.and_false, Bool.false_and, Int.toNat_natCast, Int.natCast_nonneg, if_true, if_false, Bool.false_eq_true, Int.toNat_zero, Int.natCast_zero, not_false_eq_true, not_true_eq_false, ite_true, ite_false]
  · intro i rec hi' ih
    by_cases h : i < xs.length
    · have hh : (i : Int) < (xs.length : Int) := by omega
      have w1 := wrapSucc (show i < 9223372036854775807 by omega)
      have hm := getD_mem xs [] h
      have hs := items_Has_ok (K := K) (v := xs.getD i []) (by have := hb _ hm; omega) hi hK
      have ih' := ih h
      rw [drop_get xs [] h, List.any_cons]
      simp only [fields_Has.t0, bind_some', cond_true, cond_false, decide_true, decide_false, Bool.not_true, Bool.not_false, Bool.true_and, Bool.and_true, Bool.and_false, Bool.false_and, Int.toNat_natCast, Int.natCast_nonneg, if_true, if_false, Bool.false_eq_true, Int.toNat_zero, Int.natCast_zero, not_false_eq_true, not_true_eq_false, ite_true, ite_false, hh, hs, w1]
      cases c : itemIn (xs.getD i []) item with
      | true => simp only [bind_some', cond_true, cond_false, decide_true, decide_false, Bool.not_true, Bool.not_false, Bool.true_and, Bool.and_true, Bool.and_false, Bool.false_and, Int.toNat_natCast, Int.natCast_nonneg, if_true, if_false, Bool.false_eq_true, Int.toNat_zero, Int.natCast_zero, not_false_eq_true, not_true_eq_false, ite_true, ite_false, Bool.true_or]
      | false => simp only [bind_some', cond_true, cond_false, decide_true, decide_false, Bool.not_true, Bool.not_false, Bool.true_and, Bool.and_true, Bool.and_false, Bool.false_and, Int.toNat_natCast, Int.natCast_nonneg, if_true, if_false, Bool.false_eq_true, Int.toNat_zero, Int.natCast_zero, not_false_eq_true, not_true_eq_false, ite_true, ite_false, w1, Bool.false_or]; exact ih'
    · have h2 : i = xs.length := by omega
      subst h2
      simp only [fields_Has.t0, bind_some', cond_true, cond_false, decide_true, decide_false, Bool.not_true, Bool.not_false, Bool.true_and, Bool.and_true, Bool.and_false, Bool.false_and, Int.toNat_natCast, Int.natCast_nonneg, if_true, if_false, Bool.false_eq_true, Int.toNat_zero, Int.natCast_zero, not_false_eq_true, not_true_eq_false, ite_true, ite_false, Int.lt_irrefl, drop_len, List.any_nil]
theorem ref09_Has_ok {K : Nat} {l : List Fld} {name item : List UInt8} (h : sized l) (h2 : name.length < 1000000) (hi : item.length < 1000000) (hK : 1000000 + 100 ≤ K) : depotref09_Has K l name item = some (hasOf l name item) := by
  have h3 := allOf_len l name
  have hb : ∀ v ∈ allOf l name, v.length ≤ 100000 := allOf_mem fun f hf => by have := (h.2 f hf).2; omega
  have hl := h.1
  simp only [depotref09_Has, depotref09_Has.tr, ref09_All_ok h.1 (fun f hf => by have := (h.2 f hf).1; omega) h2 (show 1000000 ≤ K by omega), bind_some', cond_true, cond_false, decide_true, decide_false, Bool.not_true, Bool.not_false, Bool.true_and, Bool.and_true, Bool.and_false, Bool.false_and, Int.toNat_natCast, Int.natCast_nonneg, if_true, if_false, Bool.false_eq_true, Int.toNat_zero, Int.natCast_zero, not_false_eq_true, not_true_eq_false, ite_true, ite_false, hasOf]
  generalize allOf l name = xs at h3 hb
  have H := idx_rule (l := depotref09_Has.l0 K) (depotref09_Has.t0 K) (fun _ _ => rfl) xs.length
    (fun i => ((item, (xs, ((i : Int), ()))), ())) (fun i => if (xs.drop i).any (fun v => itemIn v item) then .inr ((true, ()), ()) else .inl ((), ())) ?_ K 0 (by omega) (by omega)
  · simp only [Int.natCast_zero, List.drop_zero] at H
    rw [H]
    cases xs.any (fun v => itemIn v item) <;> simp only [bind_some', cond_true, cond_false, decide_true, decide_false, Bool.not_true, Bool.not_false, Bool.true_and, Bool.and_true, Bool.and_false, Bool.false_and, Int.toNat_natCast, Int.natCast_nonneg, if_true, if_false, Bool.false_eq_true, Int.toNat_zero, Int.natCast_zero, not_false_eq_true, not_true_eq_false, ite_true, ite_false]
  · intro i rec hi' ih
    by_cases h : i < xs.length
    · have hh : (i : Int) < (xs.length : Int) := by omega
      have w1 := wrapSucc (show i < 9223372036854775807 by omega)
      have hm := getD_mem xs [] h
      have hs := ref06_Has_ok (K := K) (v := xs.getD i []) (by have := hb _ hm; omega) hi hK
      have ih' := ih h
      rw [drop_get xs [] h, List.any_cons]
      simp only [depotref09_Has.t0, bind_some', cond_true, cond_false, decide_true, decide_false, Bool.not_true, Bool.not_false, Bool.true_and, Bool.and_true, Bool.and_false, Bool.false_and, Int.toNat_natCast, Int.natCast_nonneg, if_true, if_false, Bool.false_eq_true, Int.toNat_zero, Int.natCast_zero, not_false_eq_true, not_true_eq_false, ite_true, ite_false, hh, hs, w1]
      cases c : itemIn (xs.getD i []) item with
      | true => simp only [bind_some', cond_true, cond_false, decide_true, decide_false, Bool.not_true, Bool.not_false, Bool.true_and, Bool.and_true, Bool.and_false, Bool.false_and, Int.toNat_natCast, Int.natCast_nonneg, if_true, if_false, Bool.false_eq_true, Int.toNat_zero, Int.natCast_zero, not_false_eq_true, not_true_eq_false, ite_true, ite_false, Bool.true_or]
      | false => simp only [bind_some', cond_true, cond_false, decide_true, decide_false, Bool.not_true, Bool.not_false, Bool.true_and, Bool.and_true, Bool.and_false, Bool.false_and, Int.toNat_natCast, Int.natCast_nonneg, if_true, if_false, Bool.false_eq_true, Int.toNat_zero, Int.natCast_zero, not_false_eq_true, not_true_eq_false, ite_true, ite_false, w1, Bool.false_or]; exact ih'
    · have h2 : i = xs.length := by omega
      subst h2
      simp only [depotref09_Has.t0, bind_some', cond_true, cond_false, decide_true, decide_false, Bool.not_true, Bool.not_false, Bool.true_and, Bool.and_true, Bool.and_false, Bool.false_and, Int.toNat_natCast, Int.natCast_nonneg, if_true, if_false, Bool.false_eq_true, Int.toNat_zero, Int.natCast_zero, not_false_eq_true, not_true_eq_false, ite_true, ite_false, Int.lt_irrefl, drop_len, List.any_nil]

/-! Set. -/
def keep1 (name : List UInt8) : Bool → List Fld → List Fld
  | _, [] => []
  | b, x :: r => if same x.1 name then (if b then x :: keep1 name false r else keep1 name false r) else x :: keep1 name b r
def rep (f : Fld) : List Fld → List Fld
  | [] => [f]
  | x :: r => if same x.1 f.1 then f :: r else x :: rep f r
def sr (f : Fld) : Bool → List Fld → List Fld
  | put, [] => if put then [] else [f]
  | put, x :: r => if same x.1 f.1 then (if put then sr f put r else f :: sr f true r) else x :: sr f put r
theorem keep1_false (f : Fld) (l : List Fld) : keep1 f.1 false l = sr f true l := by
  induction l with
  | nil => rfl
  | cons x r ih => simp only [keep1, sr, ih, if_true, if_false, Bool.false_eq_true]
theorem rep_keep (f : Fld) (l : List Fld) : rep f (keep1 f.1 true l) = sr f false l := by
  induction l with
  | nil => rfl
  | cons x r ih =>
    simp only [keep1, sr, if_true, Bool.false_eq_true, if_false]
    by_cases h : same x.1 f.1 = true
    · simp only [h, if_true, rep, keep1_false]
    · simp only [h, if_false, rep, ih, Bool.false_eq_true]
theorem keep1_len (name : List UInt8) (l : List Fld) : ∀ b, (keep1 name b l).length ≤ l.length := by
  induction l with
  | nil => intro b; simp [keep1]
  | cons x r ih =>
    intro b
    have h1 := ih b
    have h2 := ih false
    simp only [keep1]
    split
    · split <;> simp <;> omega
    · simp; omega
theorem keep1_mem (name : List UInt8) (l : List Fld) : ∀ b, ∀ f ∈ keep1 name b l, f ∈ l := by
  induction l with
  | nil => intro b f hf; cases hf
  | cons x r ih =>
    intro b f hf
    simp only [keep1] at hf
    split at hf
    · split at hf
      · rcases List.mem_cons.1 hf with rfl | hf
        · exact List.mem_cons_self
        · exact List.mem_cons_of_mem _ (ih _ f hf)
      · exact List.mem_cons_of_mem _ (ih _ f hf)
    · rcases List.mem_cons.1 hf with rfl | hf
      · exact List.mem_cons_self
      · exact List.mem_cons_of_mem _ (ih _ f hf)
theorem keep1_cons (name : List UInt8) (b : Bool) (x : Fld) (r : List Fld) : keep1 name b (x :: r) = if same x.1 name then (if b then x :: keep1 name false r else keep1 name false r) else x :: keep1 name b r := rfl

theorem fields_Set_l0 {K : Nat} {l : List Fld} {f : Fld} (hl : l.length < 1000000) (hf : ∀ x ∈ l, x.1.length < 1000000) (h1 : f.1.length < 1000000) (hK : 1000000 ≤ K) :
    ∃ b, fields_Set.l0 K K (((0, (0, ())), ((), (l, ((l.length : Int), (0, ()))))), ([], (true, ((f.1, ()), ([], ([], ())))))) = some (((), ()), ([], (b, ((f.1, ()), ([], (keep1 f.1 true l, ())))))) := by
  have H := loop_ex (l := fields_Set.l0 K) (fields_Set.t0 K) (fun _ _ => rfl)
    (fun x => ∃ (i : Nat) (b : Bool) (o : List Fld), x = (((0, (0, ())), ((), (l, ((l.length : Int), ((i : Int), ()))))), ([], (b, ((f.1, ()), ([], (o, ())))))) ∧ i ≤ l.length ∧ o.length ≤ i ∧ o ++ keep1 f.1 b (l.drop i) = keep1 f.1 true l)
    (fun x => l.length - x.1.2.2.2.2.1.toNat)
    (fun y => ∃ b, y = (((), ()), ([], (b, ((f.1, ()), ([], (keep1 f.1 true l, ()))))))) ?_ K _ ⟨0, true, [], rfl, by omega, by simp, by simp⟩ (by simp; omega)
  · obtain ⟨y, hy, b, rfl⟩ := H
    exact ⟨b, hy⟩
  · rintro x rec ⟨i, b, o, rfl, hi, ho, hk⟩ ih
    by_cases h : i < l.length
    · have hh : (i : Int) < (l.length : Int) := by omega
      have w1 := wrapSucc (show i < 9223372036854775807 by omega)
      have hm := getD_mem l (([], [], ()) : Fld) h
      have hc := fields_named_c1_ok (K := K) (f := l.getD i (([], [], ()) : Fld)) (hf _ hm) h1 hK
      have hmax : (o.length + 1) * 32 ≤ maxRoom := by simp only [maxRoom]; omega
      have go : ∀ (b' : Bool) (o' : List Fld), o'.length ≤ i + 1 → o' ++ keep1 f.1 b' (l.drop (i + 1)) = keep1 f.1 true l → _ := fun b' o' h1 h2 => ih _ ⟨i + 1, b', o', rfl, by omega, h1, h2⟩ (by simp; omega)
      rw [drop_get l (([], [], ()) : Fld) h, keep1_cons] at hk
      simp only [fields_Set.t0, bind_some', cond_true, cond_false, decide_true, decide_false, Bool.not_true, Bool.not_false, Bool.true_and, Bool.and_true, Bool.and_false, Bool.false_and, Int.toNat_natCast, Int.natCast_nonneg, if_true, if_false, Bool.false_eq_true, Int.toNat_zero, Int.natCast_zero, not_false_eq_true, not_true_eq_false, ite_true, ite_false, hh, hc, w1, fld_eta]
      by_cases c : same (l.getD i (([], [], ()) : Fld)).1 f.1 = true
      · rw [if_pos c] at hk
        cases b with
        | true =>
          simp only [c, bind_some', cond_true, cond_false, decide_true, decide_false, Bool.not_true, Bool.not_false, Bool.true_and, Bool.and_true, Bool.and_false, Bool.false_and, Int.toNat_natCast, Int.natCast_nonneg, if_true, if_false, Bool.false_eq_true, Int.toNat_zero, Int.natCast_zero, not_false_eq_true, not_true_eq_false, ite_true, ite_false, w1, hmax, fld_eta] at hk ⊢
          exact go false (o ++ [l.getD i (([], [], ()) : Fld)]) (by simp; omega) (by rw [List.append_assoc]; exact hk)
        | false =>
          simp only [c, bind_some', cond_true, cond_false, decide_true, decide_false, Bool.not_true, Bool.not_false, Bool.true_and, Bool.and_true, Bool.and_false, Bool.false_and, Int.toNat_natCast, Int.natCast_nonneg, if_true, if_false, Bool.false_eq_true, Int.toNat_zero, Int.natCast_zero, not_false_eq_true, not_true_eq_false, ite_true, ite_false, w1, fld_eta] at hk ⊢
          exact go false o (by omega) hk
      · rw [if_neg c] at hk
        simp only [c, bind_some', cond_true, cond_false, decide_true, decide_false, Bool.not_true, Bool.not_false, Bool.true_and, Bool.and_true, Bool.and_false, Bool.false_and, Int.toNat_natCast, Int.natCast_nonneg, if_true, if_false, Bool.false_eq_true, Int.toNat_zero, Int.natCast_zero, not_false_eq_true, not_true_eq_false, ite_true, ite_false, w1, hmax, fld_eta] at hk ⊢
        exact go b (o ++ [l.getD i (([], [], ()) : Fld)]) (by simp; omega) (by rw [List.append_assoc]; exact hk)
    · have h2 : i = l.length := by omega
      subst h2
      rw [drop_len] at hk
      have hk : o = keep1 f.1 true l := by simpa [keep1] using hk
      simp only [fields_Set.t0, bind_some', cond_true, cond_false, decide_true, decide_false, Bool.not_true, Bool.not_false, Bool.true_and, Bool.and_true, Bool.and_false, Bool.false_and, Int.toNat_natCast, Int.natCast_nonneg, if_true, if_false, Bool.false_eq_true, Int.toNat_zero, Int.natCast_zero, not_false_eq_true, not_true_eq_false, ite_true, ite_false, Int.lt_irrefl, hk]
      exact ⟨_, rfl, b, rfl⟩

theorem rep_append (f : Fld) (a b : List Fld) (h : ∀ x ∈ a, same x.1 f.1 = false) : rep f (a ++ b) = a ++ rep f b := by
  induction a with
  | nil => rfl
  | cons x a ih => rw [List.cons_append, rep, if_neg (by rw [h x List.mem_cons_self]; simp), ih fun y hy => h y (List.mem_cons_of_mem _ hy)]; rfl
theorem fields_Set_ok {K : Nat} {l : List Fld} {f : Fld} (hl : l.length < 1000000) (hf : ∀ x ∈ l, x.1.length < 1000000) (h1 : f.1.length < 1000000) (hK : 1000000 ≤ K) : fields_Set K l f = some (sr f false l) := by
  obtain ⟨b, h0⟩ := fields_Set_l0 (K := K) hl hf h1 hK
  simp only [fields_Set, fields_Set.tr, fields_named, bind_some', cond_true, cond_false, decide_true, decide_false, Bool.not_true, Bool.not_false, Bool.true_and, Bool.and_true, Bool.and_false, Bool.false_and, Int.toNat_natCast, Int.natCast_nonneg, if_true, if_false, Bool.false_eq_true, Int.toNat_zero, Int.natCast_zero, not_false_eq_true, not_true_eq_false, ite_true, ite_false, h0, ← rep_keep]
  have hol := keep1_len f.1 l true
  have hom := keep1_mem f.1 l true
  generalize keep1 f.1 true l = o at hol hom
  have hof : ∀ x ∈ o, x.1.length < 1000000 := fun x hx => hf x (hom x hx)
  have H := idx_ex (l := fields_Set.l1 K) (fields_Set.t1 K) (fun _ _ => rfl) o.length
    (fun i => ((f, (0, ((), ((), ((o.length : Int), ((i : Int), ())))))), ([], (b, ((f.1, ()), ([], (o, ()))))))) (fun i => ∀ x ∈ o.take i, same x.1 f.1 = false)
    (fun y => (y = .inl ((f, ((), ())), ([], (b, ((f.1, ()), ([], (o, ())))))) ∧ rep f o = o ++ [f]) ∨ y = .inr (((), ()), ([], (b, ((f.1, ()), ([], (rep f o, ()))))))) ?_ K 0 (by omega) (by omega) (by simp)
  · simp only [Int.natCast_zero] at H
    obtain ⟨y, hy, hy2⟩ := H
    rw [hy]
    have hmax : (o.length + 1) * 32 ≤ maxRoom := by simp only [maxRoom]; omega
    rcases hy2 with ⟨rfl, h⟩ | rfl
    · simp only [bind_some', cond_true, cond_false, decide_true, decide_false, Bool.not_true, Bool.not_false, Bool.true_and, Bool.and_true, Bool.and_false, Bool.false_and, Int.toNat_natCast, Int.natCast_nonneg, if_true, if_false, Bool.false_eq_true, Int.toNat_zero, Int.natCast_zero, not_false_eq_true, not_true_eq_false, ite_true, ite_false, hmax, h]
    · simp only [bind_some', cond_true, cond_false, decide_true, decide_false, Bool.not_true, Bool.not_false, Bool.true_and, Bool.and_true, Bool.and_false, Bool.false_and, Int.toNat_natCast, Int.natCast_nonneg, if_true, if_false, Bool.false_eq_true, Int.toNat_zero, Int.natCast_zero, not_false_eq_true, not_true_eq_false, ite_true, ite_false]
  · intro i rec hi hn ih
    by_cases h : i < o.length
    · have hh : (i : Int) < (o.length : Int) := by omega
      have w1 := wrapSucc (show i < 9223372036854775807 by omega)
      have hm := getD_mem o (([], [], ()) : Fld) h
      have hc := fields_named_c1_ok (K := K) (f := o.getD i (([], [], ()) : Fld)) (hof _ hm) h1 hK
      simp only [fields_Set.t1, bind_some', cond_true, cond_false, decide_true, decide_false, Bool.not_true, Bool.not_false, Bool.true_and, Bool.and_true, Bool.and_false, Bool.false_and, Int.toNat_natCast, Int.natCast_nonneg, if_true, if_false, Bool.false_eq_true, Int.toNat_zero, Int.natCast_zero, not_false_eq_true, not_true_eq_false, ite_true, ite_false, hh, hc, w1, fld_eta]
      by_cases c : same (o.getD i (([], [], ()) : Fld)).1 f.1 = true
      · simp only [c, bind_some', cond_true, cond_false, decide_true, decide_false, Bool.not_true, Bool.not_false, Bool.true_and, Bool.and_true, Bool.and_false, Bool.false_and, Int.toNat_natCast, Int.natCast_nonneg, if_true, if_false, Bool.false_eq_true, Int.toNat_zero, Int.natCast_zero, not_false_eq_true, not_true_eq_false, ite_true, ite_false]
        refine ⟨_, rfl, .inr ?_⟩
        have e : rep f o = o.set i f := by
          conv => lhs; rw [← List.take_append_drop i o, drop_get o (([], [], ()) : Fld) h]
          rw [rep_append f _ _ hn, rep, if_pos c, List.set_eq_take_append_cons_drop, if_pos h]
        rw [e]
      · have c : same (o.getD i (([], [], ()) : Fld)).1 f.1 = false := by simpa using c
        simp only [c, bind_some', cond_true, cond_false, decide_true, decide_false, Bool.not_true, Bool.not_false, Bool.true_and, Bool.and_true, Bool.and_false, Bool.false_and, Int.toNat_natCast, Int.natCast_nonneg, if_true, if_false, Bool.false_eq_true, Int.toNat_zero, Int.natCast_zero, not_false_eq_true, not_true_eq_false, ite_true, ite_false]
        refine ih h fun x hx => ?_
        rw [take_get o (([], [], ()) : Fld) h] at hx
        rcases List.mem_append.1 hx with hx | hx
        · exact hn x hx
        · obtain rfl := List.mem_singleton.1 hx
          exact c
    · have h2 : i = o.length := by omega
      subst h2
      simp only [fields_Set.t1, bind_some', cond_true, cond_false, decide_true, decide_false, Bool.not_true, Bool.not_false, Bool.true_and, Bool.and_true, Bool.and_false, Bool.false_and, Int.toNat_natCast, Int.natCast_nonneg, if_true, if_false, Bool.false_eq_true, Int.toNat_zero, Int.natCast_zero, not_false_eq_true, not_true_eq_false, ite_true, ite_false, Int.lt_irrefl]
      refine ⟨_, rfl, .inl ⟨rfl, ?_⟩⟩
      rw [List.take_length] at hn
      have := rep_append f o [] hn
      simpa [rep] using this
theorem ref09_Set_ok {K : Nat} {l : List Fld} {f : Fld} (hl : l.length < 1000000) (hf : ∀ x ∈ l, x.1.length < 1000000) (h1 : f.1.length < 1000000) (hK : 1000000 ≤ K) : depotref09_Set K l f = some (sr f false l) := by
  have H := loop_ex (l := depotref09_Set.l0 K) (depotref09_Set.t0 K) (fun _ _ => rfl)
    (fun x => ∃ (i : Nat) (put : Bool) (o : List Fld), x = ((l, (f, ((), (put, ((i : Int), ()))))), ([], (o, ()))) ∧ i ≤ l.length ∧ o.length ≤ i ∧ o ++ sr f put (l.drop i) = sr f false l)
    (fun x => l.length - x.1.2.2.2.2.1.toNat)
    (fun y => ∃ (put : Bool) (o : List Fld), y = ((f, ((), (put, ()))), ([], (o, ()))) ∧ o.length ≤ l.length ∧ o ++ (if put then [] else [f]) = sr f false l) ?_ K _ ⟨0, false, [], rfl, by omega, by simp, by simp⟩ (by simp; omega)
  · obtain ⟨y, hy, put, o, rfl, ho, hk⟩ := H
    simp only [Int.natCast_zero] at hy
    have hmax : (o.length + 1) * 32 ≤ maxRoom := by simp only [maxRoom]; omega
    simp only [depotref09_Set, depotref09_Set.tr, hy, bind_some', cond_true, cond_false, decide_true, decide_false, Bool.not_true, Bool.not_false, Bool.true_and, Bool.and_true, Bool.and_false, Bool.false_and, Int.toNat_natCast, Int.natCast_nonneg, if_true, if_false, Bool.false_eq_true, Int.toNat_zero, Int.natCast_zero, not_false_eq_true, not_true_eq_false, ite_true, ite_false]
    cases put with
    | true => simp only [bind_some', cond_true, cond_false, decide_true, decide_false, Bool.not_true, Bool.not_false, Bool.true_and, Bool.and_true, Bool.and_false, Bool.false_and, Int.toNat_natCast, Int.natCast_nonneg, if_true, if_false, Bool.false_eq_true, Int.toNat_zero, Int.natCast_zero, not_false_eq_true, not_true_eq_false, ite_true, ite_false, List.append_nil] at hk ⊢; rw [hk]
    | false => simp only [bind_some', cond_true, cond_false, decide_true, decide_false, Bool.not_true, Bool.not_false, Bool.true_and, Bool.and_true, Bool.and_false, Bool.false_and, Int.toNat_natCast, Int.natCast_nonneg, if_true, if_false, Bool.false_eq_true, Int.toNat_zero, Int.natCast_zero, not_false_eq_true, not_true_eq_false, ite_true, ite_false, hmax] at hk ⊢; rw [hk]
  · rintro x rec ⟨i, put, o, rfl, hi, ho, hk⟩ ih
    by_cases h : i < l.length
    · have hh : (i : Int) < (l.length : Int) := by omega
      have w1 := wrapSucc (show i < 9223372036854775807 by omega)
      have hm := getD_mem l (([], [], ()) : Fld) h
      have hc := ref01_Same_ok (K := K) (a := (l.getD i (([], [], ()) : Fld)).1) (b := f.1) (by have := hf _ hm; omega) (by have := hf _ hm; omega) (by omega) (by omega)
      have hmax : (o.length + 1) * 32 ≤ maxRoom := by simp only [maxRoom]; omega
      have go : ∀ (p' : Bool) (o' : List Fld), o'.length ≤ i + 1 → o' ++ sr f p' (l.drop (i + 1)) = sr f false l → _ := fun p' o' h1 h2 => ih _ ⟨i + 1, p', o', rfl, by omega, h1, h2⟩ (by simp; omega)
      rw [drop_get l (([], [], ()) : Fld) h, sr] at hk
      simp only [depotref09_Set.t0, bind_some', cond_true, cond_false, decide_true, decide_false, Bool.not_true, Bool.not_false, Bool.true_and, Bool.and_true, Bool.and_false, Bool.false_and, Int.toNat_natCast, Int.natCast_nonneg, if_true, if_false, Bool.false_eq_true, Int.toNat_zero, Int.natCast_zero, not_false_eq_true, not_true_eq_false, ite_true, ite_false, hh, hc, w1]
      by_cases c : same (l.getD i (([], [], ()) : Fld)).1 f.1 = true
      · rw [if_pos c] at hk
        cases put with
        | true =>
          simp only [c, bind_some', cond_true, cond_false, decide_true, decide_false, Bool.not_true, Bool.not_false, Bool.true_and, Bool.and_true, Bool.and_false, Bool.false_and, Int.toNat_natCast, Int.natCast_nonneg, if_true, if_false, Bool.false_eq_true, Int.toNat_zero, Int.natCast_zero, not_false_eq_true, not_true_eq_false, ite_true, ite_false, w1] at hk ⊢
          exact go true o (by omega) hk
        | false =>
          simp only [c, bind_some', cond_true, cond_false, decide_true, decide_false, Bool.not_true, Bool.not_false, Bool.true_and, Bool.and_true, Bool.and_false, Bool.false_and, Int.toNat_natCast, Int.natCast_nonneg, if_true, if_false, Bool.false_eq_true, Int.toNat_zero, Int.natCast_zero, not_false_eq_true, not_true_eq_false, ite_true, ite_false, w1, hmax] at hk ⊢
          exact go true (o ++ [f]) (by simp; omega) (by rw [List.append_assoc]; exact hk)
      · rw [if_neg c] at hk
        have c : same (l.getD i (([], [], ()) : Fld)).1 f.1 = false := by simpa using c
        simp only [c, bind_some', cond_true, cond_false, decide_true, decide_false, Bool.not_true, Bool.not_false, Bool.true_and, Bool.and_true, Bool.and_false, Bool.false_and, Int.toNat_natCast, Int.natCast_nonneg, if_true, if_false, Bool.false_eq_true, Int.toNat_zero, Int.natCast_zero, not_false_eq_true, not_true_eq_false, ite_true, ite_false, w1, hh, hmax] at hk ⊢
        exact go put (o ++ [l.getD i (([], [], ()) : Fld)]) (by simp; omega) (by rw [List.append_assoc]; exact hk)
    · have h2 : i = l.length := by omega
      subst h2
      rw [drop_len, sr] at hk
      simp only [depotref09_Set.t0, bind_some', cond_true, cond_false, decide_true, decide_false, Bool.not_true, Bool.not_false, Bool.true_and, Bool.and_true, Bool.and_false, Bool.false_and, Int.toNat_natCast, Int.natCast_nonneg, if_true, if_false, Bool.false_eq_true, Int.toNat_zero, Int.natCast_zero, not_false_eq_true, not_true_eq_false, ite_true, ite_false, Int.lt_irrefl]
      exact ⟨_, rfl, put, o, rfl, ho, hk⟩

/-! Same. -/
def sameL : List Fld → List Fld → Bool
  | [], [] => true
  | x :: a, y :: b => same x.1 y.1 && (x.2.1 == y.2.1) && sameL a b
  | _, _ => false
theorem sameL_self (l : List Fld) : sameL l l = true := by
  induction l with
  | nil => rfl
  | cons x l ih => simp [sameL, ih]
theorem sameL_len : ∀ (a b : List Fld), a.length ≠ b.length → sameL a b = false := by
  intro a
  induction a with
  | nil => intro b h; cases b <;> simp_all [sameL]
  | cons x a ih => intro b h; cases b <;> simp_all [sameL]
theorem fields_Same_ok {K : Nat} {a b : List Fld} (hl : a.length < 1000000) (ha : ∀ f ∈ a, f.1.length < 1000000) (hb : ∀ f ∈ b, f.1.length < 1000000) (hK : 1000000 ≤ K) : fields_Same K a b = some (sameL a b) := by
  by_cases he : a.length = b.length
  · have H := idx_rule (l := fields_Same.l0 K) (fields_Same.t0 K) (fun _ _ => rfl) a.length
      (fun i => ((b, (a, ((a.length : Int), ((i : Int), ())))), ())) (fun i => if sameL (a.drop i) (b.drop i) then .inl ((), ()) else .inr ((false, ()), ())) ?_ K 0 (by omega) (by omega)
    · simp only [Int.natCast_zero, List.drop_zero] at H
      have he' : (a.length : Int) = (b.length : Int) := by omega
      simp only [fields_Same, fields_Same.tr, he', bind_some', cond_true, cond_false, decide_true, decide_false, Bool.not_true, Bool.not_false, Bool.true_and, Bool.and_true, Bool.and_false, Bool.false_and, Int.toNat_natCast, Int.natCast_nonneg, if_true, if_false, Bool.false_eq_true, Int.toNat_zero, Int.natCast_zero, not_false_eq_true, not_true_eq_false, ite_true, ite_false] at H ⊢
      rw [H]
      cases sameL a b <;> simp only [bind_some', cond_true, cond_false, decide_true, decide_false, Bool.not_true, Bool.not_false, Bool.true_and, Bool.and_true, Bool.and_false, Bool.false_and, Int.toNat_natCast, Int.natCast_nonneg, if_true, if_false, Bool.false_eq_true, Int.toNat_zero, Int.natCast_zero, not_false_eq_true, not_true_eq_false, ite_true, ite_false]
    · intro i rec hi ih
      by_cases h : i < a.length
      · have hh : (i : Int) < (a.length : Int) := by omega
        have hhb : (i : Int) < (b.length : Int) := by omega
        have w1 := wrapSucc (show i < 9223372036854775807 by omega)
        have hc := octet_Same_ok (K := K) (a := (a.getD i (([], [], ()) : Fld)).1) (b := (b.getD i (([], [], ()) : Fld)).1) (by have := ha _ (getD_mem a (([], [], ()) : Fld) h); omega) (by have := ha _ (getD_mem a (([], [], ()) : Fld) h); omega) (by have := hb _ (getD_mem b (([], [], ()) : Fld) (show i < b.length by omega)); omega) (by have := hb _ (getD_mem b (([], [], ()) : Fld) (show i < b.length by omega)); omega)
        have ih' := ih h
        rw [drop_get a (([], [], ()) : Fld) h, drop_get b (([], [], ()) : Fld) (by omega), sameL]
        simp only [fields_Same.t0, bind_some', cond_true, cond_false, decide_true, decide_false, Bool.not_true, Bool.not_false, Bool.true_and, Bool.and_true, Bool.and_false, Bool.false_and, Int.toNat_natCast, Int.natCast_nonneg, if_true, if_false, Bool.false_eq_true, Int.toNat_zero, Int.natCast_zero, not_false_eq_true, not_true_eq_false, ite_true, ite_false, hh, hhb, hc, w1]
        cases c1 : same (a.getD i (([], [], ()) : Fld)).1 (b.getD i (([], [], ()) : Fld)).1 with
        | false => simp only [bind_some', cond_true, cond_false, decide_true, decide_false, Bool.not_true, Bool.not_false, Bool.true_and, Bool.and_true, Bool.and_false, Bool.false_and, Int.toNat_natCast, Int.natCast_nonneg, if_true, if_false, Bool.false_eq_true, Int.toNat_zero, Int.natCast_zero, not_false_eq_true, not_true_eq_false, ite_true, ite_false]
        | true =>
          cases c2 : ((a.getD i (([], [], ()) : Fld)).2.1 == (b.getD i (([], [], ()) : Fld)).2.1) with
          | false => simp only [bind_some', cond_true, cond_false, decide_true, decide_false, Bool.not_true, Bool.not_false, Bool.true_and, Bool.and_true, Bool.and_false, Bool.false_and, Int.toNat_natCast, Int.natCast_nonneg, if_true, if_false, Bool.false_eq_true, Int.toNat_zero, Int.natCast_zero, not_false_eq_true, not_true_eq_false, ite_true, ite_false, c2]
          | true => simp only [bind_some', cond_true, cond_false, decide_true, decide_false, Bool.not_true, Bool.not_false, Bool.true_and, Bool.and_true, Bool.and_false, Bool.false_and, Int.toNat_natCast, Int.natCast_nonneg, if_true, if_false, Bool.false_eq_true, Int.toNat_zero, Int.natCast_zero, not_false_eq_true, not_true_eq_false, ite_true, ite_false, c2, w1]; exact ih'
      · have h2 : i = a.length := by omega
        subst h2
        have e : b.drop a.length = [] := List.drop_eq_nil_of_le (by omega)
        simp only [fields_Same.t0, bind_some', cond_true, cond_false, decide_true, decide_false, Bool.not_true, Bool.not_false, Bool.true_and, Bool.and_true, Bool.and_false, Bool.false_and, Int.toNat_natCast, Int.natCast_nonneg, if_true, if_false, Bool.false_eq_true, Int.toNat_zero, Int.natCast_zero, not_false_eq_true, not_true_eq_false, ite_true, ite_false, Int.lt_irrefl, drop_len, e, sameL]
  · have he' : ¬ (a.length : Int) = (b.length : Int) := by omega
    simp only [fields_Same, fields_Same.tr, he', bind_some', cond_true, cond_false, decide_true, decide_false, Bool.not_true, Bool.not_false, Bool.true_and, Bool.and_true, Bool.and_false, Bool.false_and, Int.toNat_natCast, Int.natCast_nonneg, if_true, if_false, Bool.false_eq_true, Int.toNat_zero, Int.natCast_zero, not_false_eq_true, not_true_eq_false, ite_true, ite_false, sameL_len a b he]
theorem ref09_Same_ok {K : Nat} {a b : List Fld} (hl : a.length < 1000000) (ha : ∀ f ∈ a, f.1.length < 1000000) (hb : ∀ f ∈ b, f.1.length < 1000000) (hK : 1000000 ≤ K) : depotref09_Same K a b = some (sameL a b) := by
  by_cases he : a.length = b.length
  · have H := idx_rule (l := depotref09_Same.l0 K) (depotref09_Same.t0 K) (fun _ _ => rfl) a.length
      (fun i => ((a, (b, ((i : Int), ()))), ())) (fun i => if sameL (a.drop i) (b.drop i) then .inl ((), ()) else .inr ((false, ()), ())) ?_ K 0 (by omega) (by omega)
    · simp only [Int.natCast_zero, List.drop_zero] at H
      have he' : (a.length : Int) = (b.length : Int) := by omega
      simp only [depotref09_Same, depotref09_Same.tr, he', bind_some', cond_true, cond_false, decide_true, decide_false, Bool.not_true, Bool.not_false, Bool.true_and, Bool.and_true, Bool.and_false, Bool.false_and, Int.toNat_natCast, Int.natCast_nonneg, if_true, if_false, Bool.false_eq_true, Int.toNat_zero, Int.natCast_zero, not_false_eq_true, not_true_eq_false, ite_true, ite_false] at H ⊢
      rw [H]
      cases sameL a b <;> simp only [bind_some', cond_true, cond_false, decide_true, decide_false, Bool.not_true, Bool.not_false, Bool.true_and, Bool.and_true, Bool.and_false, Bool.false_and, Int.toNat_natCast, Int.natCast_nonneg, if_true, if_false, Bool.false_eq_true, Int.toNat_zero, Int.natCast_zero, not_false_eq_true, not_true_eq_false, ite_true, ite_false]
    · intro i rec hi ih
      by_cases h : i < a.length
      · have hh : (i : Int) < (a.length : Int) := by omega
        have hhb : (i : Int) < (b.length : Int) := by omega
        have w1 := wrapSucc (show i < 9223372036854775807 by omega)
        have hc := ref01_Same_ok (K := K) (a := (a.getD i (([], [], ()) : Fld)).1) (b := (b.getD i (([], [], ()) : Fld)).1) (by have := ha _ (getD_mem a (([], [], ()) : Fld) h); omega) (by have := ha _ (getD_mem a (([], [], ()) : Fld) h); omega) (by have := hb _ (getD_mem b (([], [], ()) : Fld) (show i < b.length by omega)); omega) (by have := hb _ (getD_mem b (([], [], ()) : Fld) (show i < b.length by omega)); omega)
        have ih' := ih h
        rw [drop_get a (([], [], ()) : Fld) h, drop_get b (([], [], ()) : Fld) (by omega), sameL]
        simp only [depotref09_Same.t0, bind_some', cond_true, cond_false, decide_true, decide_false, Bool.not_true, Bool.not_false, Bool.true_and, Bool.and_true, Bool.and_false, Bool.false_and, Int.toNat_natCast, Int.natCast_nonneg, if_true, if_false, Bool.false_eq_true, Int.toNat_zero, Int.natCast_zero, not_false_eq_true, not_true_eq_false, ite_true, ite_false, hh, hhb, hc, w1]
        cases c1 : same (a.getD i (([], [], ()) : Fld)).1 (b.getD i (([], [], ()) : Fld)).1 with
        | false => simp only [bind_some', cond_true, cond_false, decide_true, decide_false, Bool.not_true, Bool.not_false, Bool.true_and, Bool.and_true, Bool.and_false, Bool.false_and, Int.toNat_natCast, Int.natCast_nonneg, if_true, if_false, Bool.false_eq_true, Int.toNat_zero, Int.natCast_zero, not_false_eq_true, not_true_eq_false, ite_true, ite_false]
        | true =>
          cases c2 : ((a.getD i (([], [], ()) : Fld)).2.1 == (b.getD i (([], [], ()) : Fld)).2.1) with
          | false => simp only [bind_some', cond_true, cond_false, decide_true, decide_false, Bool.not_true, Bool.not_false, Bool.true_and, Bool.and_true, Bool.and_false, Bool.false_and, Int.toNat_natCast, Int.natCast_nonneg, if_true, if_false, Bool.false_eq_true, Int.toNat_zero, Int.natCast_zero, not_false_eq_true, not_true_eq_false, ite_true, ite_false, c2, hh, hhb]
          | true => simp only [bind_some', cond_true, cond_false, decide_true, decide_false, Bool.not_true, Bool.not_false, Bool.true_and, Bool.and_true, Bool.and_false, Bool.false_and, Int.toNat_natCast, Int.natCast_nonneg, if_true, if_false, Bool.false_eq_true, Int.toNat_zero, Int.natCast_zero, not_false_eq_true, not_true_eq_false, ite_true, ite_false, c2, w1, hh, hhb]; exact ih'
      · have h2 : i = a.length := by omega
        subst h2
        have e : b.drop a.length = [] := List.drop_eq_nil_of_le (by omega)
        simp only [depotref09_Same.t0, bind_some', cond_true, cond_false, decide_true, decide_false, Bool.not_true, Bool.not_false, Bool.true_and, Bool.and_true, Bool.and_false, Bool.false_and, Int.toNat_natCast, Int.natCast_nonneg, if_true, if_false, Bool.false_eq_true, Int.toNat_zero, Int.natCast_zero, not_false_eq_true, not_true_eq_false, ite_true, ite_false, Int.lt_irrefl, drop_len, e, sameL]
  · have he' : ¬ (a.length : Int) = (b.length : Int) := by omega
    simp only [depotref09_Same, depotref09_Same.tr, he', bind_some', cond_true, cond_false, decide_true, decide_false, Bool.not_true, Bool.not_false, Bool.true_and, Bool.and_true, Bool.and_false, Bool.false_and, Int.toNat_natCast, Int.natCast_nonneg, if_true, if_false, Bool.false_eq_true, Int.toNat_zero, Int.natCast_zero, not_false_eq_true, not_true_eq_false, ite_true, ite_false, sameL_len a b he]
end Go.Proofs.X
