/-
  A part of the proof. No condition.
-/
import Derived.Test.YtidmfdgokeijlaaDoorP1
/- Chapter 01: the laws OctetTexts, OctetCase, OctetTrims and OctetParts, as plain Lean. No condition but that a byte is a byte. -/
set_option linter.unusedSimpArgs false
set_option linter.unusedVariables false
namespace Go.Proofs.X
open Go Go.Dp

theorem law01_bytes_ok (K : Nat) (hK : 40 ≤ K) : depotlaw01_bytes K = some true := by
  have : ∀ K, depotlaw01_bytes (K + 40) = some true := fun K => by kernel_rfl
  have h := this (K - 40)
  rwa [Nat.sub_add_cancel hK] at h

theorem octetTexts_pure (a0 a1 : List UInt8) (a2 : Int) (h0 : 0 ≤ a2) (h1 : a2 < 256) : ∃ k, depotlaw01_OctetTexts k a0 a1 a2 = some true := by
  obtain ⟨b, rfl⟩ := byte_of_int h0 h1
  refine ⟨4000, ?_⟩
  by_cases h2 : a0.length ≤ 3000
  · by_cases h3 : a1.length ≤ 3000
    · have e2 : ¬ (a0.length : Int) > 3000 := by omega
      have e3 : ¬ (a1.length : Int) > 3000 := by omega
      simp only [depotlaw01_OctetTexts, e2, e3, decide_false, decide_true, Bool.not_false, cond_true, cond_false, bind_some', octet_Cut_ok b (s := a0) (by omega), ref01_Cut_ok (K := 4000) b (s := a0) (by omega) (by omega),
        octet_Lower_ok (K := 4000) (s := a0) (by omega) (by omega), ref01_Lower_ok (K := 4000) (s := a0) (by omega) (by omega), beq_self_eq_true,
        octet_Same_ok (K := 4000) (a := a0) (b := a1) (by omega) (by omega) (by omega) (by omega), ref01_Same_ok (K := 4000) (a := a0) (b := a1) (by omega) (by omega) (by omega) (by omega),
        octet_Trim_ok (K := 4000) (s := a0) (by omega) (by omega), ref01_Trim_ok (K := 4000) (s := a0) (by omega) (by omega),
        octet_IsToken_ok (K := 4000) (s := a0) (by omega) (by omega), ref01_IsToken_ok (K := 4000) (s := a0) (by omega) (by omega),
        octet_IsText_ok (K := 4000) (s := a0) (by omega) (by omega), ref01_IsText_ok (K := 4000) (s := a0) (by omega) (by omega), law01_bytes_ok 4000 (by omega)]
    · have e2 : ¬ (a0.length : Int) > 3000 := by omega
      have e3 : (a1.length : Int) > 3000 := by omega
      simp only [depotlaw01_OctetTexts, e2, e3, decide_false, decide_true, Bool.not_false, cond_true, cond_false, bind_some', law01_bytes_ok 4000 (by omega)]
  · have e2 : (a0.length : Int) > 3000 := by omega
    simp only [depotlaw01_OctetTexts, e2, decide_false, decide_true, Bool.not_true, cond_true, cond_false, bind_some', law01_bytes_ok 4000 (by omega)]

theorem octetCase_pure (a0 a1 : List UInt8) : ∃ k, depotlaw01_OctetCase k a0 a1 = some true := by
  refine ⟨4000, ?_⟩
  by_cases h2 : a0.length ≤ 3000
  · by_cases h3 : a1.length ≤ 3000
    · have e2 : ¬ (a0.length : Int) > 3000 := by omega
      have e3 : ¬ (a1.length : Int) > 3000 := by omega
      have hl := length_lower a0
      have et : isTok (lower a0) = isTok a0 := by
        simp only [isTok, lower, List.all_map, Function.comp_def, tok_low]
        cases a0 <;> rfl
      have eb : (lower a1 == lower a0) = same a0 a1 := by rw [same_comm]; rfl
      simp only [depotlaw01_OctetCase, e2, e3, decide_false, decide_true, Bool.not_false, cond_true, cond_false, bind_some',
        octet_Lower_ok (K := 4000) (s := a0) (by omega) (by omega), octet_Lower_ok (K := 4000) (s := lower a0) (by omega) (by omega), octet_Lower_ok (K := 4000) (s := a1) (by omega) (by omega), lower_lower, beq_self_eq_true,
        octet_Same_ok (K := 4000) (a := a0) (b := lower a0) (by omega) (by omega) (by omega) (by omega), same_lower, length_lower,
        octet_Same_ok (K := 4000) (a := a0) (b := a1) (by omega) (by omega) (by omega) (by omega), octet_Same_ok (K := 4000) (a := a1) (b := a0) (by omega) (by omega) (by omega) (by omega), same_comm a1 a0, eb,
        octet_IsToken_ok (K := 4000) (s := a0) (by omega) (by omega), octet_IsToken_ok (K := 4000) (s := lower a0) (by omega) (by omega), et, law01_bytes_ok 4000 (by omega)]
    · have e2 : ¬ (a0.length : Int) > 3000 := by omega
      have e3 : (a1.length : Int) > 3000 := by omega
      simp only [depotlaw01_OctetCase, e2, e3, decide_false, decide_true, Bool.not_false, cond_true, cond_false, bind_some', law01_bytes_ok 4000 (by omega)]
  · have e2 : (a0.length : Int) > 3000 := by omega
    simp only [depotlaw01_OctetCase, e2, decide_false, decide_true, Bool.not_true, cond_true, cond_false, bind_some', law01_bytes_ok 4000 (by omega)]

theorem mod9 (a : Int) : ∃ m : Nat, m < 9 ∧ Int.tmod (IntKind.wrap .i64 (Int.tmod a 9 + 9)) 9 = (m : Int) := by
  have h1 : Int.tmod a 9 < 9 := Int.tmod_lt_of_pos a (by decide)
  have h2 : -9 < Int.tmod a 9 := Int.lt_tmod_of_pos a (by decide)
  rw [wrap64 (by omega) (by omega)]
  have h3 : 0 ≤ Int.tmod (Int.tmod a 9 + 9) 9 := Int.tmod_nonneg _ (by omega)
  have h4 : Int.tmod (Int.tmod a 9 + 9) 9 < 9 := Int.tmod_lt_of_pos _ (by decide)
  exact ⟨(Int.tmod (Int.tmod a 9 + 9) 9).toNat, by omega, by omega⟩
theorem trim_ahead (s : List UInt8) (n : Nat) : trim (List.replicate n 32 ++ s) = trim s := by
  induction n with
  | zero => rfl
  | succ n ih => rw [List.replicate_succ, List.cons_append, trim_cons _ _ rfl, ih]
theorem trim_behind (s : List UInt8) (n : Nat) : trim (s ++ List.replicate n 9) = trim s := by
  induction n with
  | zero => simp
  | succ n ih => rw [List.replicate_succ', ← List.append_assoc, trim_snoc _ _ rfl, ih]
theorem octetTrims_pure (a0 : List UInt8) (a1 a2 : Int) : ∃ k, depotlaw01_OctetTrims k a0 a1 a2 = some true := by
  refine ⟨4000, ?_⟩
  by_cases h2 : a0.length ≤ 1000
  · have e2 : ¬ (a0.length : Int) > 1000 := by omega
    have hl := length_trim a0
    obtain ⟨m1, hm1, e1⟩ := mod9 a1
    obtain ⟨m2, hm2, e3⟩ := mod9 a2
    have H0 := idx_rule (l := depotlaw01_OctetTrims.l0 4000) (depotlaw01_OctetTrims.t0 4000) (fun _ _ => rfl) m1
      (fun i => ((a1, (a2, (trim a0, (List.replicate i 32 ++ trim a0, ((i : Int), ()))))), ())) (fun i => ((a2, (trim a0, (List.replicate m1 32 ++ trim a0, ()))), ())) (by
        intro i rec hi ih
        by_cases h : i < m1
        · have hh : (i : Int) < (m1 : Int) := by omega
          have hr : 1 + (List.replicate i (32 : UInt8) ++ trim a0).length ≤ maxRoom := by simp [maxRoom]; omega
          have ih' := ih h
          simp only [depotlaw01_OctetTrims.t0, e1, hh, hr, decide_true, cond_true, wrapSucc (show i < 9223372036854775807 by omega)]
          exact ih'
        · have h2 : i = m1 := by omega
          subst h2
          simp [depotlaw01_OctetTrims.t0, e1]) 4000 0 (by omega) (by omega)
    have H1 := idx_rule (l := depotlaw01_OctetTrims.l1 4000) (depotlaw01_OctetTrims.t1 4000) (fun _ _ => rfl) m2
      (fun i => ((a2, (trim a0, ((List.replicate m1 32 ++ trim a0) ++ List.replicate i 9, ((i : Int), ())))), ())) (fun i => ((trim a0, ((List.replicate m1 32 ++ trim a0) ++ List.replicate m2 9, ())), ())) (by
        intro i rec hi ih
        by_cases h : i < m2
        · have hh : (i : Int) < (m2 : Int) := by omega
          have hr : ((List.replicate m1 (32 : UInt8) ++ trim a0) ++ List.replicate i 9).length + 1 ≤ maxRoom := by simp [maxRoom]; omega
          have ih' := ih h
          rw [List.replicate_succ', ← List.append_assoc] at ih'
          simp only [depotlaw01_OctetTrims.t1, e3, hh, hr, decide_true, cond_true, wrapSucc (show i < 9223372036854775807 by omega)]
          exact ih'
        · have h2 : i = m2 := by omega
          subst h2
          simp [depotlaw01_OctetTrims.t1, e3]) 4000 0 (by omega) (by omega)
    have H0' : depotlaw01_OctetTrims.l0 4000 4000 ((a1, (a2, (trim a0, (trim a0, (0, ()))))), ()) = some ((a2, (trim a0, (List.replicate m1 32 ++ trim a0, ()))), ()) := H0
    have H1' : depotlaw01_OctetTrims.l1 4000 4000 ((a2, (trim a0, ((List.replicate m1 32 ++ trim a0), (0, ())))), ()) = some ((trim a0, ((List.replicate m1 32 ++ trim a0) ++ List.replicate m2 9, ())), ()) := by
      have := H1; simp only [List.replicate_zero, List.append_nil] at this; exact this
    have hw : ((List.replicate m1 (32 : UInt8) ++ trim a0) ++ List.replicate m2 9).length < 4000 := by simp; omega
    simp only [depotlaw01_OctetTrims, depotlaw01_OctetTrims.tr, e2, decide_false, decide_true, Bool.not_false, cond_true, cond_false, bind_some', octet_Trim_ok (K := 4000) (s := a0) (by omega) (by omega), octet_Trim_ok (K := 4000) (s := trim a0) (by omega) (by omega), trim_trim, beq_self_eq_true, Bool.not_true]
    by_cases h : 0 < (trim a0).length
    · have i1 : ((trim a0).length : Int) > 0 := by omega
      have i2 : ((0 : Int)) < (trim a0).length := by omega
      have i3 : (((trim a0).length - 1 : Nat) : Int) < (trim a0).length := by omega
      have b1 := trim_head a0 0 h
      have b2 := trim_last a0 0 h
      have nb : ∀ c : UInt8, blank c = false → ¬ (c.toNat : Int) = 32 ∧ ¬ (c.toNat : Int) = 9 := by
        intro c hc
        constructor <;> intro e
        · have : c = 32 := UInt8.toNat_inj.1 (by simpa using (by omega : c.toNat = 32))
          subst this; cases hc
        · have : c = 9 := UInt8.toNat_inj.1 (by simpa using (by omega : c.toNat = 9))
          subst this; cases hc
      obtain ⟨n1, n2⟩ := nb _ b1
      obtain ⟨n3, n4⟩ := nb _ b2
      have i0 : Int.toNat 0 = 0 := rfl
      simp only [i0, i1, i2, i3, n1, n2, n3, n4, wrapPred (show (trim a0).length < 9223372036854775807 by omega) h, Int.toNat_natCast, Int.natCast_nonneg, Int.le_refl, decide_true, decide_false, Bool.and_true, Bool.not_false, cond_true, cond_false, bind_some',
        H0', H1', octet_Trim_ok (K := 4000) hw (by omega), trim_behind, trim_ahead, trim_trim, beq_self_eq_true, law01_bytes_ok 4000 (by omega)]
      have hq : octet_Trim 4000 (List.replicate m1 32 ++ (trim a0 ++ List.replicate m2 9)) = some (trim a0) := by
        rw [← List.append_assoc, octet_Trim_ok (K := 4000) hw (by omega), trim_behind, trim_ahead, trim_trim]
      simp [h, H0', H1', hq, octet_Trim_ok (K := 4000) hw (by omega), trim_behind, trim_ahead, law01_bytes_ok 4000 (by omega)]
    · have i1 : ¬ ((trim a0).length : Int) > 0 := by omega
      simp only [i1, decide_true, decide_false, Bool.and_true, Bool.not_false, cond_true, cond_false, bind_some',
        H0', H1', octet_Trim_ok (K := 4000) hw (by omega), trim_behind, trim_ahead, trim_trim, beq_self_eq_true, law01_bytes_ok 4000 (by omega)]
  · have e2 : (a0.length : Int) > 1000 := by omega
    simp only [depotlaw01_OctetTrims, depotlaw01_OctetTrims.tr, e2, decide_false, decide_true, Bool.not_true, cond_true, cond_false, bind_some', law01_bytes_ok 4000 (by omega)]

theorem octetParts_pure (a0 : List UInt8) (a1 : Int) (h0 : 0 ≤ a1) (h1 : a1 < 256) : ∃ k, depotlaw01_OctetParts k a0 a1 = some true := by
  obtain ⟨b, rfl⟩ := byte_of_int h0 h1
  refine ⟨4000, ?_⟩
  by_cases h2 : a0.length ≤ 1000
  · have e2 : ¬ (a0.length : Int) > 1000 := by omega
    simp only [depotlaw01_OctetParts, depotlaw01_OctetParts.tr, e2, decide_false, cond_false, octet_Cut_ok b (s := a0) (by omega), bind_some']
    have H : ∀ (p q : List UInt8) (o : Bool), p.length ≤ 1000 → (o = true → p.contains b = false) → (o = true ∨ p.length = 0 ∨ p.contains b = false) → depotlaw01_OctetParts.l0 4000 4000 ((a0, ((b.toNat : Int), (p, (q, (o, (0, ())))))), ()) = some (.inl ((a0, ((b.toNat : Int), (p, (q, (o, ()))))), ())) := by
      intro p q o hp ho hq
      have hc : p.contains b = false := by
        rcases hq with h | h | h
        · exact ho h
        · cases p <;> simp_all
        · exact h
      refine idx_rule (l := depotlaw01_OctetParts.l0 4000) (depotlaw01_OctetParts.t0 4000) (fun _ _ => rfl) p.length
        (fun i => ((a0, ((b.toNat : Int), (p, (q, (o, ((i : Int), ())))))), ())) (fun i => .inl ((a0, ((b.toNat : Int), (p, (q, (o, ()))))), ())) ?_ 4000 0 (by omega) (by omega)
      intro i rec hi ih
      by_cases h : i < p.length
      · have hh : (i : Int) < (p.length : Int) := by omega
        have hne : ¬ p.getD i 0 = b := by
          intro e
          have hm : p.contains b = true := by
            rw [List.contains_iff_mem, ← e, getD_get p 0 h]; exact List.getElem_mem h
          rw [hm] at hc; cases hc
        simp only [depotlaw01_OctetParts.t0, Int.toNat_natCast, wrapSucc (show i < 9223372036854775807 by omega), ih h, hh, byte_inj, hne, Int.natCast_nonneg, decide_true, decide_false, Bool.and_true, cond_true, cond_false]
      · have h2 : i = p.length := by omega
        subst h2
        simp [depotlaw01_OctetParts.t0]
    by_cases hb : a0.contains b = true
    · have hl := takeWhile_len a0 (· != b)
      have hj := cutAt_join a0 b hb
      have hj' := congrArg List.length hj
      simp only [List.length_append, List.length_singleton] at hj'
      have hbo : bytesOf [(b.toNat : Int)] = [b] := by simp [bytesOf]
      simp only [cutAt, if_pos hb, H (a0.takeWhile (· != b)) ((a0.dropWhile (· != b)).drop 1) true (by omega) (fun _ => takeWhile_not a0 b) (.inl rfl), bind_some', hbo, List.length_append, List.length_singleton, hj,
        show (a0.takeWhile (· != b)).length + 1 ≤ maxRoom by simp only [maxRoom]; omega, show (a0.takeWhile (· != b)).length + 1 + ((a0.dropWhile (· != b)).drop 1).length ≤ maxRoom by simp only [maxRoom]; omega,
        Bool.not_true, cond_false, cond_true, decide_true, beq_self_eq_true, law01_bytes_ok 4000 (by omega)]
    · simp only [cutAt, if_neg hb, H a0 [] false (by omega) (fun h => by cases h) (.inr (.inr (by simpa using hb))), bind_some', Bool.not_false, cond_false, cond_true, beq_self_eq_true, law01_bytes_ok 4000 (by omega)]
  · have e2 : (a0.length : Int) > 1000 := by omega
    simp only [depotlaw01_OctetParts, depotlaw01_OctetParts.tr, e2, decide_false, decide_true, Bool.not_true, cond_true, cond_false, bind_some', law01_bytes_ok 4000 (by omega)]

end Go.Proofs.X
