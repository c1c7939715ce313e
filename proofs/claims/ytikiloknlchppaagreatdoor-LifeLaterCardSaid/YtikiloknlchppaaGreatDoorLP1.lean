/-
  A part of the proof. No condition.
-/
import Derived.Test.YtikiloknlchppaaGreatDoorLG1
import Derived.Test.YtikiloknlchppaaGreatDoorFc
import Derived.KernelRfl
/- Chapter 01: what each printed function gives. No condition. -/
set_option linter.unusedSimpArgs false
set_option linter.unusedVariables false
namespace Go.Proofs.X
open Go Go.Dp

/-! Bytes. -/
def tok (b : UInt8) : Bool := (octet_Token 0 (b.toNat : Int)).getD false
def blank (b : UInt8) : Bool := b == 32 || b == 9
theorem octTok_facts (K : Nat) : (List.range 256).all (fun n => decide (octet_Token K ((UInt8.ofNat n).toNat : Int) = some (tok (UInt8.ofNat n)))) = true := by kernel_rfl
theorem octet_Token_ok (K : Nat) (b : UInt8) : octet_Token K (b.toNat : Int) = some (tok b) := of_decide_eq_true (forall_byte (p := fun b => decide (octet_Token K (b.toNat : Int) = some (tok b))) (octTok_facts K) b)
theorem refTok_facts (K : Nat) : (List.range 256).all (fun n => decide (depotref01_Token (K + 40) ((UInt8.ofNat n).toNat : Int) = some (tok (UInt8.ofNat n)))) = true := by kernel_rfl
theorem ref01_Token_ok (K : Nat) (hK : 40 ≤ K) (b : UInt8) : depotref01_Token K (b.toNat : Int) = some (tok b) := by
  have := of_decide_eq_true (forall_byte (p := fun b => decide (depotref01_Token (K - 40 + 40) (b.toNat : Int) = some (tok b))) (refTok_facts (K - 40)) b)
  rwa [Nat.sub_add_cancel hK] at this
theorem refBlank_facts (K : Nat) : (List.range 256).all (fun n => decide (depotref01_blank K ((UInt8.ofNat n).toNat : Int) = some (blank (UInt8.ofNat n)))) = true := by kernel_rfl
theorem ref01_blank_ok (K : Nat) (b : UInt8) : depotref01_blank K (b.toNat : Int) = some (blank b) := of_decide_eq_true (forall_byte (p := fun b => decide (depotref01_blank K (b.toNat : Int) = some (blank b))) (refBlank_facts K) b)

/-! Lower. -/
def g1 (c : Int) : Int := if 65 ≤ c then if c ≤ 90 then IntKind.wrap .u8 (IntKind.wrap .u8 (c - 65) + 97) else c else c
def g2 (c : Int) : Int := if 65 ≤ c then if c ≤ 90 then IntKind.wrap .u8 (c + 32) else c else c
def low (b : UInt8) : UInt8 := UInt8.ofNat (g1 (b.toNat : Int)).toNat
def lower (s : List UInt8) : List UInt8 := s.map low
theorem g2_facts : (List.range 256).all (fun n => decide (UInt8.ofNat (g2 ((UInt8.ofNat n).toNat : Int)).toNat = low (UInt8.ofNat n))) = true := by kernel_rfl
theorem g2_ok (b : UInt8) : UInt8.ofNat (g2 (b.toNat : Int)).toNat = low b := of_decide_eq_true (forall_byte (p := fun b => decide (UInt8.ofNat (g2 (b.toNat : Int)).toNat = low b)) g2_facts b)
theorem lowlow_facts : (List.range 256).all (fun n => decide (low (low (UInt8.ofNat n)) = low (UInt8.ofNat n))) = true := by kernel_rfl
theorem low_low (b : UInt8) : low (low b) = low b := of_decide_eq_true (forall_byte (p := fun b => decide (low (low b) = low b)) lowlow_facts b)
theorem toklow_facts : (List.range 256).all (fun n => decide (tok (low (UInt8.ofNat n)) = tok (UInt8.ofNat n))) = true := by kernel_rfl
theorem tok_low (b : UInt8) : tok (low b) = tok b := of_decide_eq_true (forall_byte (p := fun b => decide (tok (low b) = tok b)) toklow_facts b)
@[simp] theorem lower_lower (s : List UInt8) : lower (lower s) = lower s := by simp [lower, Function.comp_def, low_low]
@[simp] theorem length_lower (s : List UInt8) : (lower s).length = s.length := by simp [lower]

theorem octet_Lower_l0 (K n : Nat) (s : List UInt8) (hs : s.length < 9223372036854775808) (hn : s.length < n) :
    octet_Lower.l0 K n (((65, (90, ())), ((), ((), ((s.length : Int), (0, ()))))), (intsOf s, ())) = some (((), ()), ((intsOf s).map g1, ())) := by
  have H := loop_rule (l := octet_Lower.l0 K) (octet_Lower.t0 K) (fun _ _ => rfl)
    (fun x => ∃ (i : Nat) (xs : List Int), x = (((65, (90, ())), ((), ((), ((s.length : Int), ((i : Int), ()))))), (xs, ())) ∧ xs.length = s.length ∧ i ≤ s.length)
    (fun x => s.length - x.1.2.2.2.2.1.toNat)
    (fun x => (((), ()), (x.2.1.take x.1.2.2.2.2.1.toNat ++ (x.2.1.drop x.1.2.2.2.2.1.toNat).map g1, ()))) ?_ n _ ⟨0, intsOf s, rfl, by simp, by omega⟩ (by simp; omega)
  · simpa using H
  · rintro x rec ⟨i, xs, rfl, hl, hi⟩ ih
    by_cases h : i < s.length
    · have ih' := fun ys (hy : ys.length = s.length) => ih _ ⟨i + 1, ys, rfl, hy, by omega⟩ (by simp; omega)
      have hm := map_step xs g1 0 (i := i) (by omega)
      have hk := map_keep xs g1 0 (i := i) (by omega)
      have hh : (i : Int) < (s.length : Int) := by omega
      simp only [octet_Lower.t0, octet_from_c1, Int.toNat_natCast]
      have hg : g1 (xs.getD i 0) = if 65 ≤ xs.getD i 0 then if xs.getD i 0 ≤ 90 then IntKind.wrap .u8 (IntKind.wrap .u8 (xs.getD i 0 - 65) + 97) else xs.getD i 0 else xs.getD i 0 := rfl
      by_cases h1 : 65 ≤ xs.getD i 0 <;> by_cases h2 : xs.getD i 0 ≤ 90 <;> simp only [h1, h2, if_true, if_false] at hg <;> simp only [hg] at hm hk <;>
        simp [-List.getD_eq_getElem?_getD, -List.map_drop] at ih' <;>
        simp [-List.getD_eq_getElem?_getD, -List.map_drop, hh, hl, h1, h2, wrapSucc (show i < 9223372036854775807 by omega), ih', hm, hk]
    · have h2 : i = s.length := by omega
      subst h2
      simp [octet_Lower.t0, hl, List.take_of_length_le, List.drop_eq_nil_of_le]

theorem octet_Lower_ok {K : Nat} {s : List UInt8} (hK : s.length < K) (hs : s.length < 9223372036854775808) : octet_Lower K s = some (lower s) := by
  simp only [octet_Lower, octet_Lower.tr, octet_from, length_intsOf, bind_some', octet_Lower_l0 K K s hs hK, bytesOf_map]
  rfl

theorem ref01_Lower_l0 (K n : Nat) (s : List UInt8) (hs : s.length < 9223372036854775808) (hn : s.length < n) :
    depotref01_Lower.l0 K n (((), (0, ())), (intsOf s, ())) = some (((), ()), ((intsOf s).map g2, ())) := by
  have H := loop_rule (l := depotref01_Lower.l0 K) (depotref01_Lower.t0 K) (fun _ _ => rfl)
    (fun x => ∃ (i : Nat) (xs : List Int), x = (((), ((i : Int), ())), (xs, ())) ∧ xs.length = s.length ∧ i ≤ s.length)
    (fun x => s.length - x.1.2.1.toNat)
    (fun x => (((), ()), (x.2.1.take x.1.2.1.toNat ++ (x.2.1.drop x.1.2.1.toNat).map g2, ()))) ?_ n _ ⟨0, intsOf s, rfl, by simp, by omega⟩ (by simp; omega)
  · simpa using H
  · rintro x rec ⟨i, xs, rfl, hl, hi⟩ ih
    by_cases h : i < s.length
    · have ih' := fun ys (hy : ys.length = s.length) => ih _ ⟨i + 1, ys, rfl, hy, by omega⟩ (by simp; omega)
      have hm := map_step xs g2 0 (i := i) (by omega)
      have hk := map_keep xs g2 0 (i := i) (by omega)
      have hh : (i : Int) < (s.length : Int) := by omega
      simp only [depotref01_Lower.t0, Int.toNat_natCast]
      have hg : g2 (xs.getD i 0) = if 65 ≤ xs.getD i 0 then if xs.getD i 0 ≤ 90 then IntKind.wrap .u8 (xs.getD i 0 + 32) else xs.getD i 0 else xs.getD i 0 := rfl
      by_cases h1 : 65 ≤ xs.getD i 0 <;> by_cases h2 : xs.getD i 0 ≤ 90 <;> simp only [h1, h2, if_true, if_false] at hg <;> simp only [hg] at hm hk <;>
        simp [-List.getD_eq_getElem?_getD, -List.map_drop] at ih' <;>
        simp [-List.getD_eq_getElem?_getD, -List.map_drop, hh, hl, h1, h2, wrapSucc (show i < 9223372036854775807 by omega), ih', hm, hk]
    · have h2 : i = s.length := by omega
      subst h2
      simp [depotref01_Lower.t0, hl, List.take_of_length_le, List.drop_eq_nil_of_le]
theorem ref01_Lower_ok {K : Nat} {s : List UInt8} (hK : s.length < K) (hs : s.length < 9223372036854775808) : depotref01_Lower K s = some (lower s) := by
  simp only [depotref01_Lower, depotref01_Lower.tr, bind_some', ref01_Lower_l0 K K s hs hK, bytesOf_map, g2_ok]
  rfl

/-! Same. -/
def same (a b : List UInt8) : Bool := lower a == lower b
theorem octet_Same_ok {K : Nat} {a b : List UInt8} (hK : a.length < K) (ha : a.length < 9223372036854775808) (hK' : b.length < K) (hb : b.length < 9223372036854775808) : octet_Same K a b = some (same a b) := by
  simp only [octet_Same, octet_Lower_ok hK ha, octet_Lower_ok hK' hb, bind_some', same]
  by_cases h : a.length = b.length
  · simp [h]
  · have h2 : lower a ≠ lower b := fun e => h (by have := congrArg List.length e; simpa using this)
    have h3 : ¬ (a.length : Int) = (b.length : Int) := by omega
    simp [h3, h2]
theorem ref01_Same_ok {K : Nat} {a b : List UInt8} (hK : a.length < K) (ha : a.length < 9223372036854775808) (hK' : b.length < K) (hb : b.length < 9223372036854775808) : depotref01_Same K a b = some (same a b) := by
  simp only [depotref01_Same, ref01_Lower_ok hK ha, ref01_Lower_ok hK' hb, bind_some', same]
theorem same_comm (a b : List UInt8) : same a b = same b a := by simp only [same]; exact Bool.eq_iff_iff.2 ⟨fun h => by simpa using (eq_of_beq h).symm, fun h => by simpa using (eq_of_beq h).symm⟩
@[simp] theorem same_self (a : List UInt8) : same a a = true := by simp [same]
@[simp] theorem same_lower (a : List UInt8) : same a (lower a) = true := by simp [same]

/-! All bytes. -/
theorem octet_all_Token_ok {K : Nat} {s : List UInt8} (hK : s.length < K) (hs : s.length < 1000000000000) : octet_all__Token K s = some (s.all tok) := by
  have H := idx_rule (l := octet_all__Token.l0 K) (octet_all__Token.t0 K) (fun _ _ => rfl) s.length
    (fun i => (((), (intsOf s, ((s.length : Int), ((i : Int), ())))), ())) (fun i => if (s.drop i).all tok then .inl ((), ()) else .inr ((false, ()), ())) ?_ K 0 (by omega) (by omega)
  · simp only [octet_all__Token, octet_all__Token.tr, length_intsOf]
    simp only [Int.natCast_zero] at H
    rw [H]
    by_cases h : s.all tok <;> simp [h]
  · intro i rec hi ih
    by_cases h : i < s.length
    · have hh : (i : Int) < (s.length : Int) := by omega
      have ih' := ih h
      simp only [octet_all__Token.t0, Int.toNat_natCast, getD_intsOf s h, octet_Token_ok, bind_some', wrapSucc (show i < 9223372036854775807 by omega), ih', drop_get s 0 h, List.all_cons]
      by_cases h1 : tok (s.getD i 0) <;> simp [-List.getD_eq_getElem?_getD, hh, h1]
    · have h2 : i = s.length := by omega
      subst h2
      simp [octet_all__Token.t0]
def isTok (s : List UInt8) : Bool := !s.isEmpty && s.all tok
theorem octet_IsToken_ok {K : Nat} {s : List UInt8} (hK : s.length < K) (hs : s.length < 1000000000000) : octet_IsToken K s = some (isTok s) := by
  simp only [octet_IsToken, octet_all_Token_ok hK hs, isTok]
  cases s <;> simp
theorem ref01_IsToken_ok {K : Nat} {s : List UInt8} (hK : s.length + 40 < K) (hs : s.length < 1000000000000) : depotref01_IsToken K s = some (isTok s) := by
  have H := idx_rule (l := depotref01_IsToken.l0 K) (depotref01_IsToken.t0 K) (fun _ _ => rfl) s.length
    (fun i => ((s, ((i : Int), ())), ())) (fun i => if (s.drop i).all tok then .inl ((s, ()), ()) else .inr ((false, ()), ())) ?_ K 0 (by omega) (by omega)
  · simp only [depotref01_IsToken, depotref01_IsToken.tr]
    simp only [Int.natCast_zero] at H
    rw [H, isTok]
    by_cases h : s.all tok <;> simp [h]
    cases s <;> simp
  · intro i rec hi ih
    by_cases h : i < s.length
    · have hh : (i : Int) < (s.length : Int) := by omega
      have ih' := ih h
      simp only [depotref01_IsToken.t0, Int.toNat_natCast, ref01_Token_ok K (by omega), bind_some', wrapSucc (show i < 9223372036854775807 by omega), ih', drop_get s 0 h, List.all_cons]
      by_cases h1 : tok (s.getD i 0) <;> simp [-List.getD_eq_getElem?_getD, hh, h1]
    · have h2 : i = s.length := by omega
      subst h2
      simp [depotref01_IsToken.t0]
/-! Cut. -/
theorem octet_Cut_ok {K : Nat} {s : List UInt8} (b : UInt8) (hs : s.length < 1000000000000) : octet_Cut K s (b.toNat : Int) = some (cutAt s b) := by
  simp only [octet_Cut, strings_IndexByte, stringslite_IndexByte, ixb, bind_some', indexByteF, toUInt8_toNat', indexByte_eq, cutAt]
  by_cases h : s.contains b
  · have h1 := takeWhile_lt s b h
    simp only [h, if_true, wrapSucc (show (s.takeWhile (· != b)).length < 9223372036854775807 by omega), Int.toNat_natCast, cut_zero', cut_end, take_takeWhile, ← List.drop_drop, drop_takeWhile]
    have h2 : ¬ ((s.takeWhile (· != b)).length : Int) < 0 := by omega
    have h3 : ((s.takeWhile (· != b)).length : Int) ≤ s.length := by omega
    have h4 : ((((s.takeWhile (· != b)).length + 1 : Nat)) : Int) ≤ s.length := by omega
    simp only [h2, h3, h4, decide_true, decide_false, cond_true, cond_false, Bool.and_true, Int.natCast_nonneg]
  · simp only [h]; rfl
theorem ref01_Cut_ok {K : Nat} {s : List UInt8} (b : UInt8) (hK : s.length < K) (hs : s.length < 1000000000000) : depotref01_Cut K s (b.toNat : Int) = some (cutAt s b) := by
  have H := idx_rule (l := depotref01_Cut.l0 K) (depotref01_Cut.t0 K) (fun _ _ => rfl) s.length
    (fun i => ((s, ((b.toNat : Int), ((i : Int), ()))), ())) (fun i => if (s.drop i).contains b then .inr ((s.take (i + ((s.drop i).takeWhile (· != b)).length), (((s.drop i).dropWhile (· != b)).drop 1, (true, ()))), ()) else .inl ((s, ()), ())) ?_ K 0 (by omega) (by omega)
  · simp only [depotref01_Cut, depotref01_Cut.tr]
    simp only [Int.natCast_zero] at H
    rw [H, cutAt]
    simp only [List.drop_zero, Nat.zero_add, take_takeWhile]
    by_cases h : s.contains b = true
    · rw [if_pos h, if_pos h]; rfl
    · rw [if_neg h, if_neg h]; rfl
  · intro i rec hi ih
    by_cases h : i < s.length
    · have hh : (i : Int) < (s.length : Int) := by omega
      have hh' : ((i + 1 : Nat) : Int) ≤ (s.length : Int) := by omega
      have hh2 : (i : Int) ≤ (s.length : Int) := by omega
      have ih' := ih h
      simp only [depotref01_Cut.t0, Int.toNat_natCast, wrapSucc (show i < 9223372036854775807 by omega), ih', drop_get s 0 h, byte_inj, hh, hh', hh2, Int.natCast_nonneg, decide_true, Bool.and_true, cond_true]
      by_cases h1 : s.getD i 0 = b
      · simp [-List.getD_eq_getElem?_getD, h1]
      · have h1' : ¬ b = s.getD i 0 := fun e => h1 e.symm
        simp [-List.getD_eq_getElem?_getD, h1, h1', List.takeWhile_cons, List.dropWhile_cons]
        simp only [Nat.add_assoc, Nat.add_comm 1]
    · have h2 : i = s.length := by omega
      subst h2
      simp [depotref01_Cut.t0]

/-! Trim. -/
def blanks : List Bool := setOf [32, 9]
def setOK (K : Nat) (b : UInt8) : Bool := decide (strings_asciiSet_contains K blanks (b.toNat : Int) = some (blank b))
theorem set_facts (K : Nat) : (List.range 256).all (fun n => setOK K (UInt8.ofNat n)) = true := by kernel_rfl
theorem contains_ok (K : Nat) (b : UInt8) : strings_asciiSet_contains K blanks (b.toNat : Int) = some (blank b) := by
  have := forall_byte (set_facts K) b; simpa only [setOK, decide_eq_true_eq] using this
theorem last_split (s : List UInt8) (h : 0 < s.length) : s = s.take (s.length - 1) ++ [s.getD (s.length - 1) 0] := by
  rw [← take_get s 0 (by omega), show s.length - 1 + 1 = s.length by omega, List.take_length]
theorem trimRight_ok {K : Nat} {s : List UInt8} (hK : s.length < K) (hs : s.length < 1000000000000) : strings_trimRightASCII K s blanks = some (rdw blank s) := by
  have H := loop_rule (l := strings_trimRightASCII.l0 K) (strings_trimRightASCII.t0 K) (fun _ _ => rfl)
    (fun x => ∃ t : List UInt8, x = ((t, (blanks, ())), ()) ∧ t.length < 1000000000000) (fun x => x.1.1.length) (fun x => ((rdw blank x.1.1, ()), ())) ?_ K ((s, (blanks, ())), ()) ⟨s, rfl, hs⟩ hK
  · simp only [strings_trimRightASCII, strings_trimRightASCII.tr, H, bind_some']
  · rintro x rec ⟨t, rfl, ht⟩ ih
    by_cases h : 0 < t.length
    · have ih' := ih _ ⟨t.take (t.length - 1), rfl, by simp; omega⟩ (by simp; omega)
      have hh : (t.length : Int) > 0 := by omega
      have h1 : ((t.length - 1 : Nat) : Int) < t.length := by omega
      have h2 : ((t.length - 1 : Nat) : Int) ≤ t.length := by omega
      have e := last_split t h
      have e2 : rdw blank t = if blank (t.getD (t.length - 1) 0) then rdw blank (t.take (t.length - 1)) else t := by
        conv => lhs; rw [e]
        rw [rdw_snoc, ← e]
      simp only [strings_trimRightASCII.t0, wrapPred (show t.length < 9223372036854775807 by omega) h, Int.toNat_natCast, contains_ok, bind_some', hh, h1, h2, Int.natCast_nonneg, decide_true, Bool.and_true, cond_true, cut_zero', ih', e2]
      by_cases hb : blank (t.getD (t.length - 1) 0) <;> simp only [hb, if_true, if_false, Bool.not_true, Bool.not_false, cond_true, cond_false, Bool.false_eq_true]
    · have h2 : t = [] := by cases t <;> simp_all
      subst h2
      simp [strings_trimRightASCII.t0]
theorem trimLeft_ok {K : Nat} {s : List UInt8} (hK : s.length < K) (hs : s.length < 1000000000000) : strings_trimLeftASCII K s blanks = some (dw blank s) := by
  have H := loop_rule (l := strings_trimLeftASCII.l0 K) (strings_trimLeftASCII.t0 K) (fun _ _ => rfl)
    (fun x => ∃ t : List UInt8, x = ((t, (blanks, ())), ()) ∧ t.length < 1000000000000) (fun x => x.1.1.length) (fun x => ((dw blank x.1.1, ()), ())) ?_ K ((s, (blanks, ())), ()) ⟨s, rfl, hs⟩ hK
  · simp only [strings_trimLeftASCII, strings_trimLeftASCII.tr, H, bind_some']
  · rintro x rec ⟨t, rfl, ht⟩ ih
    cases t with
    | nil => simp [strings_trimLeftASCII.t0]
    | cons a t =>
      have ih' := ih _ ⟨t, rfl, by simp at ht; omega⟩ (by simp)
      have hh : ((a :: t).length : Int) > 0 := by simp
      have h1 : (0 : Int) < (a :: t).length := by simp
      have h2 : (1 : Int) ≤ (a :: t).length := by simp; omega
      have e : (a :: t).getD (Int.toNat 0) 0 = a := rfl
      simp only [strings_trimLeftASCII.t0, e, contains_ok, bind_some', hh, h1, h2, Int.le_refl, decide_true, Bool.and_true, cond_true, cut_end, List.drop_succ_cons, List.drop_zero, ih', dw_cons]
      by_cases hb : blank a <;> simp [hb, ih'] <;> omega
def trim (s : List UInt8) : List UInt8 := dw blank (rdw blank s)
theorem octet_Trim_ok {K : Nat} {s : List UInt8} (hK : s.length < K) (hs : s.length < 1000000000000) : octet_Trim K s = some (trim s) := by
  have hl := length_rdw blank s
  have ha : asciiSet K [32, 9] = some (blanks, true, ()) := by kernel_rfl
  by_cases h : s = []
  · subst h; rfl
  · have hq : s.isEmpty = false := by cases s <;> simp_all
    simp [octet_Trim, strings_Trim, hq, h, ha, trimRight_ok hK hs, trimLeft_ok (K := K) (s := rdw blank s) (by omega) (by omega), trim]
theorem ref01_Trim_l0 (K n : Nat) (s : List UInt8) (hn : s.length < n) (hs : s.length < 1000000000000) : depotref01_Trim.l0 K n ((s, ()), ()) = some ((dw blank s, ()), ()) := by
  refine loop_rule (l := depotref01_Trim.l0 K) (depotref01_Trim.t0 K) (fun _ _ => rfl)
    (fun x => ∃ t : List UInt8, x = ((t, ()), ()) ∧ t.length < 1000000000000) (fun x => x.1.1.length) (fun x => ((dw blank x.1.1, ()), ())) ?_ n ((s, ()), ()) ⟨s, rfl, hs⟩ hn
  rintro x rec ⟨t, rfl, ht⟩ ih
  cases t with
  | nil => simp [depotref01_Trim.t0]
  | cons a t =>
    have ih' := ih _ ⟨t, rfl, by simp at ht; omega⟩ (by simp)
    have hh : ((a :: t).length : Int) > 0 := by simp
    have h1 : (0 : Int) < (a :: t).length := by simp
    have h2 : (1 : Int) ≤ (a :: t).length := by simp; omega
    have e : (a :: t).getD (Int.toNat 0) 0 = a := rfl
    simp only [depotref01_Trim.t0, e, ref01_blank_ok, bind_some', hh, h1, h2, Int.le_refl, decide_true, Bool.and_true, cond_true, cut_end, List.drop_succ_cons, List.drop_zero, ih', dw_cons]
    have h3 : (1 : Int) ≤ (t.length : Int) + 1 := by omega
    by_cases hb : blank a <;> simp [hb, h3, ih']
theorem ref01_Trim_l1 (K n : Nat) (s : List UInt8) (hn : s.length < n) (hs : s.length < 1000000000000) : depotref01_Trim.l1 K n ((s, ()), ()) = some ((rdw blank s, ()), ()) := by
  refine loop_rule (l := depotref01_Trim.l1 K) (depotref01_Trim.t1 K) (fun _ _ => rfl)
    (fun x => ∃ t : List UInt8, x = ((t, ()), ()) ∧ t.length < 1000000000000) (fun x => x.1.1.length) (fun x => ((rdw blank x.1.1, ()), ())) ?_ n ((s, ()), ()) ⟨s, rfl, hs⟩ hn
  rintro x rec ⟨t, rfl, ht⟩ ih
  by_cases h : 0 < t.length
  · have ih' := ih _ ⟨t.take (t.length - 1), rfl, by simp; omega⟩ (by simp; omega)
    have hh : (t.length : Int) > 0 := by omega
    have h1 : ((t.length - 1 : Nat) : Int) < t.length := by omega
    have h2 : ((t.length - 1 : Nat) : Int) ≤ t.length := by omega
    have e := last_split t h
    have e2 : rdw blank t = if blank (t.getD (t.length - 1) 0) then rdw blank (t.take (t.length - 1)) else t := by
      conv => lhs; rw [e]
      rw [rdw_snoc, ← e]
    simp only [depotref01_Trim.t1, wrapPred (show t.length < 9223372036854775807 by omega) h, Int.toNat_natCast, ref01_blank_ok, bind_some', hh, h1, h2, Int.natCast_nonneg, decide_true, Bool.and_true, cond_true, cut_zero', ih', e2]
    by_cases hb : blank (t.getD (t.length - 1) 0) <;> simp only [hb, if_true, if_false, Bool.not_true, Bool.not_false, cond_true, cond_false, Bool.false_eq_true]
  · have h2 : t = [] := by cases t <;> simp_all
    subst h2
    simp [depotref01_Trim.t1]
theorem ref01_Trim_ok {K : Nat} {s : List UInt8} (hK : s.length < K) (hs : s.length < 1000000000000) : depotref01_Trim K s = some (trim s) := by
  have hl := length_dw blank s
  simp only [depotref01_Trim, depotref01_Trim.tr, ref01_Trim_l0 K K s hK hs, ref01_Trim_l1 K K (dw blank s) (by omega) (by omega), bind_some', trim, dw_rdw]
theorem length_trim (s : List UInt8) : (trim s).length ≤ s.length := by
  have h1 := length_rdw blank s
  have h2 := length_dw blank (rdw blank s)
  simp only [trim]; omega
@[simp] theorem trim_trim (s : List UInt8) : trim (trim s) = trim s := by simp only [trim, ← dw_rdw, dw_dw, rdw_rdw]
theorem trim_cons (s : List UInt8) (b : UInt8) (h : blank b = true) : trim (b :: s) = trim s := by simp only [trim, dw_rdw, dw_cons, h, if_true]
theorem trim_snoc (s : List UInt8) (b : UInt8) (h : blank b = true) : trim (s ++ [b]) = trim s := by simp only [trim, rdw_snoc, h, if_true]
theorem trim_head (s : List UInt8) (d : UInt8) (h : 0 < (trim s).length) : blank ((trim s).getD 0 d) = false := dw_head blank _ d h
theorem trim_last (s : List UInt8) (d : UInt8) (h : 0 < (trim s).length) : blank ((trim s).getD ((trim s).length - 1) d) = false := by
  simp only [trim, dw_rdw] at h ⊢; exact rdw_last blank _ d h

end Go.Proofs.X

