/-
  A part of the proof. No condition.
-/
import Derived.Test.YtkfffmpnmoiikaaGreatDoorOG1
import Derived.Test.YtkfffmpnmoiikaaGreatDoorFc
import Derived.KernelRfl
/- Chapter 01: what each printed function gives. No condition. -/
set_option linter.unusedSimpArgs false
set_option linter.unusedVariables false
namespace Go.Proofs.X
open Go Go.Dp
/-! Bytes. -/
def blank (b : UInt8) : Bool := b == 32 || b == 9
theorem wdi (K : Nat) : (List.range 256).all (fun n => decide (wbr K ((UInt8.ofNat n).toNat : Int) = some (blank (UInt8.ofNat n)))) = true := by kernel_rfl
theorem wcB (K : Nat) (b : UInt8) : wbr K (b.toNat : Int) = some (blank b) := of_decide_eq_true (forall_byte (p := fun b => decide (wbr K (b.toNat : Int) = some (blank b))) (wdi K) b)
/-! Lower. -/
def g1 (c : Int) : Int := if 65 ≤ c then if c ≤ 90 then IntKind.wrap .u8 (IntKind.wrap .u8 (c - 65) + 97) else c else c
def g2 (c : Int) : Int := if 65 ≤ c then if c ≤ 90 then IntKind.wrap .u8 (c + 32) else c else c
def low (b : UInt8) : UInt8 := UInt8.ofNat (g1 (b.toNat : Int)).toNat
def lower (s : List UInt8) : List UInt8 := s.map low
theorem weO : (List.range 256).all (fun n => decide (UInt8.ofNat (g2 ((UInt8.ofNat n).toNat : Int)).toNat = low (UInt8.ofNat n))) = true := by kernel_rfl
theorem g2_ok (b : UInt8) : UInt8.ofNat (g2 (b.toNat : Int)).toNat = low b := of_decide_eq_true (forall_byte (p := fun b => decide (UInt8.ofNat (g2 (b.toNat : Int)).toNat = low b)) weO b)
theorem wdM : (List.range 256).all (fun n => decide (low (low (UInt8.ofNat n)) = low (UInt8.ofNat n))) = true := by kernel_rfl
theorem we0 (b : UInt8) : low (low b) = low b := of_decide_eq_true (forall_byte (p := fun b => decide (low (low b) = low b)) wdM b)
@[simp] theorem we5 (s : List UInt8) : lower (lower s) = lower s := by simp [lower, Function.comp_def, we0]
@[simp] theorem weY (s : List UInt8) : (lower s).length = s.length := by simp [lower]
theorem wdl (K n : Nat) (s : List UInt8) (hs : s.length < 9223372036854775808) (hn : s.length < n) :
    wT_.l0 K n (((65, (90, ())), ((), ((), ((s.length : Int), (0, ()))))), (intsOf s, ())) = some (((), ()), ((intsOf s).map g1, ())) := by
  have H := loop_rule (l := wT_.l0 K) (wT_.t0 K) (fun _ _ => rfl)
    (fun x => ∃ (i : Nat) (xs : List Int), x = (((65, (90, ())), ((), ((), ((s.length : Int), ((i : Int), ()))))), (xs, ())) ∧ xs.length = s.length ∧ i ≤ s.length)
    (fun x => s.length - x.1.2.2.2.2.1.toNat)
    (fun x => (((), ()), (x.2.1.take x.1.2.2.2.2.1.toNat ++ (x.2.1.drop x.1.2.2.2.2.1.toNat).map g1, ()))) ?_ n _ ⟨0, intsOf s, rfl, by simp, by omega⟩ (by simp; omega)
  · simpa using H
  · rintro x rec ⟨i, xs, rfl, hl, hi⟩ ih
    by_cases h : i < s.length
    · have ih' := fun ys (hy : ys.length = s.length) => ih _ ⟨i + 1, ys, rfl, hy, by omega⟩ (by simp; omega)
      have hm := map_step xs g1 0 (i := i) (by omega)
      have hk := map_keep xs g1 0 (i := i) (by omega)
      have hh : (i : Int) < (s.length : Int) := by omega
      simp only [wT_.t0, wbO, Int.toNat_natCast]
      have hg : g1 (xs.getD i 0) = if 65 ≤ xs.getD i 0 then if xs.getD i 0 ≤ 90 then IntKind.wrap .u8 (IntKind.wrap .u8 (xs.getD i 0 - 65) + 97) else xs.getD i 0 else xs.getD i 0 := rfl
      by_cases h1 : 65 ≤ xs.getD i 0 <;> by_cases h2 : xs.getD i 0 ≤ 90 <;> simp only [h1, h2, if_true, if_false] at hg <;> simp only [hg] at hm hk <;>
        simp [-List.getD_eq_getElem?_getD, -List.map_drop] at ih' <;>
        simp [-List.getD_eq_getElem?_getD, -List.map_drop, hh, hl, h1, h2, wrapSucc (show i < 9223372036854775807 by omega), ih', hm, hk]
    · have h2 : i = s.length := by omega
      subst h2
      simp [wT_.t0, hl, List.take_of_length_le, List.drop_eq_nil_of_le]
theorem wcz {K : Nat} {s : List UInt8} (hK : s.length < K) (hs : s.length < 9223372036854775808) : wT_ K s = some (lower s) := by
  simp only [wT_, wT_.tr, wb4, length_intsOf, bind_some', wdl K K s hs hK, bytesOf_map]
  rfl
theorem wdk (K n : Nat) (s : List UInt8) (hs : s.length < 9223372036854775808) (hn : s.length < n) :
    ws_.l0 K n (((), (0, ())), (intsOf s, ())) = some (((), ()), ((intsOf s).map g2, ())) := by
  have H := loop_rule (l := ws_.l0 K) (ws_.t0 K) (fun _ _ => rfl)
    (fun x => ∃ (i : Nat) (xs : List Int), x = (((), ((i : Int), ())), (xs, ())) ∧ xs.length = s.length ∧ i ≤ s.length)
    (fun x => s.length - x.1.2.1.toNat)
    (fun x => (((), ()), (x.2.1.take x.1.2.1.toNat ++ (x.2.1.drop x.1.2.1.toNat).map g2, ()))) ?_ n _ ⟨0, intsOf s, rfl, by simp, by omega⟩ (by simp; omega)
  · simpa using H
  · rintro x rec ⟨i, xs, rfl, hl, hi⟩ ih
    by_cases h : i < s.length
    · have ih' := fun ys (hy : ys.length = s.length) => ih _ ⟨i + 1, ys, rfl, hy, by omega⟩ (by simp; omega)
      have hm := map_step xs g2 0 (i := i) (by omega)
      have hk := map_keep xs g2 0 (i := i) (by omega)
      have hh : (i : Int) < (s.length : Int) := by omega
      simp only [ws_.t0, Int.toNat_natCast]
      have hg : g2 (xs.getD i 0) = if 65 ≤ xs.getD i 0 then if xs.getD i 0 ≤ 90 then IntKind.wrap .u8 (xs.getD i 0 + 32) else xs.getD i 0 else xs.getD i 0 := rfl
      by_cases h1 : 65 ≤ xs.getD i 0 <;> by_cases h2 : xs.getD i 0 ≤ 90 <;> simp only [h1, h2, if_true, if_false] at hg <;> simp only [hg] at hm hk <;>
        simp [-List.getD_eq_getElem?_getD, -List.map_drop] at ih' <;>
        simp [-List.getD_eq_getElem?_getD, -List.map_drop, hh, hl, h1, h2, wrapSucc (show i < 9223372036854775807 by omega), ih', hm, hk]
    · have h2 : i = s.length := by omega
      subst h2
      simp [ws_.t0, hl, List.take_of_length_le, List.drop_eq_nil_of_le]
theorem wcA {K : Nat} {s : List UInt8} (hK : s.length < K) (hs : s.length < 9223372036854775808) : ws_ K s = some (lower s) := by
  simp only [ws_, ws_.tr, bind_some', wdk K K s hs hK, bytesOf_map, g2_ok]
  rfl
/-! Same. -/
def same (a b : List UInt8) : Bool := lower a == lower b
theorem wcK {K : Nat} {a b : List UInt8} (hK : a.length < K) (ha : a.length < 9223372036854775808) (hK' : b.length < K) (hb : b.length < 9223372036854775808) : wbQ K a b = some (same a b) := by
  simp only [wbQ, wcz hK ha, wcz hK' hb, bind_some', same]
  by_cases h : a.length = b.length
  · simp [h]
  · have h2 : lower a ≠ lower b := fun e => h (by have := congrArg List.length e; simpa using this)
    have h3 : ¬ (a.length : Int) = (b.length : Int) := by omega
    simp [h3, h2]
theorem wcs {K : Nat} {a b : List UInt8} (hK : a.length < K) (ha : a.length < 9223372036854775808) (hK' : b.length < K) (hb : b.length < 9223372036854775808) : w2_ K a b = some (same a b) := by
  simp only [w2_, wcA hK ha, wcA hK' hb, bind_some', same]
theorem wew (a b : List UInt8) : same a b = same b a := by simp only [same]; exact Bool.eq_iff_iff.2 ⟨fun h => by simpa using (eq_of_beq h).symm, fun h => by simpa using (eq_of_beq h).symm⟩
@[simp] theorem we9 (a : List UInt8) : same a a = true := by simp [same]
@[simp] theorem we8 (a : List UInt8) : same a (lower a) = true := by simp [same]
/-! All bytes. -/
/-! Cut. -/
/-! Trim. -/
def blanks : List Bool := setOf [32, 9]
def setOK (K : Nat) (b : UInt8) : Bool := decide (wI_ K blanks (b.toNat : Int) = some (blank b))
theorem weC (K : Nat) : (List.range 256).all (fun n => setOK K (UInt8.ofNat n)) = true := by kernel_rfl
theorem wc6 (K : Nat) (b : UInt8) : wI_ K blanks (b.toNat : Int) = some (blank b) := by
  have := forall_byte (weC K) b; simpa only [setOK, decide_eq_true_eq] using this
theorem wdr (s : List UInt8) (h : 0 < s.length) : s = s.take (s.length - 1) ++ [s.getD (s.length - 1) 0] := by
  rw [← take_get s 0 (by omega), show s.length - 1 + 1 = s.length by omega, List.take_length]
theorem wd0 {K : Nat} {s : List UInt8} (hK : s.length < K) (hs : s.length < 1000000000000) : wg_ K s blanks = some (rdw blank s) := by
  have H := loop_rule (l := wg_.l0 K) (wg_.t0 K) (fun _ _ => rfl)
    (fun x => ∃ t : List UInt8, x = ((t, (blanks, ())), ()) ∧ t.length < 1000000000000) (fun x => x.1.1.length) (fun x => ((rdw blank x.1.1, ()), ())) ?_ K ((s, (blanks, ())), ()) ⟨s, rfl, hs⟩ hK
  · simp only [wg_, wg_.tr, H, bind_some']
  · rintro x rec ⟨t, rfl, ht⟩ ih
    by_cases h : 0 < t.length
    · have ih' := ih _ ⟨t.take (t.length - 1), rfl, by simp; omega⟩ (by simp; omega)
      have hh : (t.length : Int) > 0 := by omega
      have h1 : ((t.length - 1 : Nat) : Int) < t.length := by omega
      have h2 : ((t.length - 1 : Nat) : Int) ≤ t.length := by omega
      have e := wdr t h
      have e2 : rdw blank t = if blank (t.getD (t.length - 1) 0) then rdw blank (t.take (t.length - 1)) else t := by
        conv => lhs; rw [e]
        rw [rdw_snoc, ← e]
      simp only [wg_.t0, wrapPred (show t.length < 9223372036854775807 by omega) h, Int.toNat_natCast, wc6, bind_some', hh, h1, h2, Int.natCast_nonneg, decide_true, Bool.and_true, cond_true, cut_zero', ih', e2]
      by_cases hb : blank (t.getD (t.length - 1) 0) <;> simp only [hb, if_true, if_false, Bool.not_true, Bool.not_false, cond_true, cond_false, Bool.false_eq_true]
    · have h2 : t = [] := by cases t <;> simp_all
      subst h2
      simp [wg_.t0]
theorem wd2 {K : Nat} {s : List UInt8} (hK : s.length < K) (hs : s.length < 1000000000000) : wf_ K s blanks = some (dw blank s) := by
  have H := loop_rule (l := wf_.l0 K) (wf_.t0 K) (fun _ _ => rfl)
    (fun x => ∃ t : List UInt8, x = ((t, (blanks, ())), ()) ∧ t.length < 1000000000000) (fun x => x.1.1.length) (fun x => ((dw blank x.1.1, ()), ())) ?_ K ((s, (blanks, ())), ()) ⟨s, rfl, hs⟩ hK
  · simp only [wf_, wf_.tr, H, bind_some']
  · rintro x rec ⟨t, rfl, ht⟩ ih
    cases t with
    | nil => simp [wf_.t0]
    | cons a t =>
      have ih' := ih _ ⟨t, rfl, by simp at ht; omega⟩ (by simp)
      have hh : ((a :: t).length : Int) > 0 := by simp
      have h1 : (0 : Int) < (a :: t).length := by simp
      have h2 : (1 : Int) ≤ (a :: t).length := by simp; omega
      have e : (a :: t).getD (Int.toNat 0) 0 = a := rfl
      simp only [wf_.t0, e, wc6, bind_some', hh, h1, h2, Int.le_refl, decide_true, Bool.and_true, cond_true, cut_end, List.drop_succ_cons, List.drop_zero, ih', dw_cons]
      by_cases hb : blank a <;> simp [hb, ih'] <;> omega
def trim (s : List UInt8) : List UInt8 := dw blank (rdw blank s)
theorem wcM {K : Nat} {s : List UInt8} (hK : s.length < K) (hs : s.length < 1000000000000) : wbT K s = some (trim s) := by
  have hl := length_rdw blank s
  have ha : asciiSet K [32, 9] = some (blanks, true, ()) := by kernel_rfl
  by_cases h : s = []
  · subst h; rfl
  · have hq : s.isEmpty = false := by cases s <;> simp_all
    simp [wbT, wbV, hq, h, ha, wd0 hK hs, wd2 (K := K) (s := rdw blank s) (by omega) (by omega), trim]
theorem wdA (K n : Nat) (s : List UInt8) (hn : s.length < n) (hs : s.length < 1000000000000) : wd_.l0 K n ((s, ()), ()) = some ((dw blank s, ()), ()) := by
  refine loop_rule (l := wd_.l0 K) (wd_.t0 K) (fun _ _ => rfl)
    (fun x => ∃ t : List UInt8, x = ((t, ()), ()) ∧ t.length < 1000000000000) (fun x => x.1.1.length) (fun x => ((dw blank x.1.1, ()), ())) ?_ n ((s, ()), ()) ⟨s, rfl, hs⟩ hn
  rintro x rec ⟨t, rfl, ht⟩ ih
  cases t with
  | nil => simp [wd_.t0]
  | cons a t =>
    have ih' := ih _ ⟨t, rfl, by simp at ht; omega⟩ (by simp)
    have hh : ((a :: t).length : Int) > 0 := by simp
    have h1 : (0 : Int) < (a :: t).length := by simp
    have h2 : (1 : Int) ≤ (a :: t).length := by simp; omega
    have e : (a :: t).getD (Int.toNat 0) 0 = a := rfl
    simp only [wd_.t0, e, wcB, bind_some', hh, h1, h2, Int.le_refl, decide_true, Bool.and_true, cond_true, cut_end, List.drop_succ_cons, List.drop_zero, ih', dw_cons]
    have h3 : (1 : Int) ≤ (t.length : Int) + 1 := by omega
    by_cases hb : blank a <;> simp [hb, h3, ih']
theorem wdu (K n : Nat) (s : List UInt8) (hn : s.length < n) (hs : s.length < 1000000000000) : wd_.l1 K n ((s, ()), ()) = some ((rdw blank s, ()), ()) := by
  refine loop_rule (l := wd_.l1 K) (wd_.t1 K) (fun _ _ => rfl)
    (fun x => ∃ t : List UInt8, x = ((t, ()), ()) ∧ t.length < 1000000000000) (fun x => x.1.1.length) (fun x => ((rdw blank x.1.1, ()), ())) ?_ n ((s, ()), ()) ⟨s, rfl, hs⟩ hn
  rintro x rec ⟨t, rfl, ht⟩ ih
  by_cases h : 0 < t.length
  · have ih' := ih _ ⟨t.take (t.length - 1), rfl, by simp; omega⟩ (by simp; omega)
    have hh : (t.length : Int) > 0 := by omega
    have h1 : ((t.length - 1 : Nat) : Int) < t.length := by omega
    have h2 : ((t.length - 1 : Nat) : Int) ≤ t.length := by omega
    have e := wdr t h
    have e2 : rdw blank t = if blank (t.getD (t.length - 1) 0) then rdw blank (t.take (t.length - 1)) else t := by
      conv => lhs; rw [e]
      rw [rdw_snoc, ← e]
    simp only [wd_.t1, wrapPred (show t.length < 9223372036854775807 by omega) h, Int.toNat_natCast, wcB, bind_some', hh, h1, h2, Int.natCast_nonneg, decide_true, Bool.and_true, cond_true, cut_zero', ih', e2]
    by_cases hb : blank (t.getD (t.length - 1) 0) <;> simp only [hb, if_true, if_false, Bool.not_true, Bool.not_false, cond_true, cond_false, Bool.false_eq_true]
  · have h2 : t = [] := by cases t <;> simp_all
    subst h2
    simp [wd_.t1]
theorem wcL {K : Nat} {s : List UInt8} (hK : s.length < K) (hs : s.length < 1000000000000) : wd_ K s = some (trim s) := by
  have hl := length_dw blank s
  simp only [wd_, wd_.tr, wdA K K s hK hs, wdu K K (dw blank s) (by omega) (by omega), bind_some', trim, dw_rdw]
theorem wc5 (s : List UInt8) : (trim s).length ≤ s.length := by
  have h1 := length_rdw blank s
  have h2 := length_dw blank (rdw blank s)
  simp only [trim]; omega
@[simp] theorem wfb (s : List UInt8) : trim (trim s) = trim s := by simp only [trim, ← dw_rdw, dw_dw, rdw_rdw]
end Go.Proofs.X
