/-
  A part of the proof. No condition.
-/
import Derived.Test.YtkfffmpnmoiikaaGreatDoorUG1
import Derived.Test.YtkfffmpnmoiikaaGreatDoorFc
import Derived.KernelRfl
/- Chapter 01: what each printed function gives. No condition. -/
set_option linter.unusedSimpArgs false
set_option linter.unusedVariables false
namespace Go.Proofs.X
open Go Go.Dp
/-! Bytes. -/
def tok (b : UInt8) : Bool := (wcB 0 (b.toNat : Int)).getD false
def blank (b : UInt8) : Bool := b == 32 || b == 9
theorem weI (K : Nat) : (List.range 256).all (fun n => decide (wcB K ((UInt8.ofNat n).toNat : Int) = some (tok (UInt8.ofNat n)))) = true := by kernel_rfl
theorem wei (K : Nat) (b : UInt8) : wcB K (b.toNat : Int) = some (tok b) := of_decide_eq_true (forall_byte (p := fun b => decide (wcB K (b.toNat : Int) = some (tok b))) (weI K) b)
/-! Lower. -/
def g1 (c : Int) : Int := if 65 ≤ c then if c ≤ 90 then IntKind.wrap .u8 (IntKind.wrap .u8 (c - 65) + 97) else c else c
def g2 (c : Int) : Int := if 65 ≤ c then if c ≤ 90 then IntKind.wrap .u8 (c + 32) else c else c
def low (b : UInt8) : UInt8 := UInt8.ofNat (g1 (b.toNat : Int)).toNat
def lower (s : List UInt8) : List UInt8 := s.map low
theorem weS : (List.range 256).all (fun n => decide (low (low (UInt8.ofNat n)) = low (UInt8.ofNat n))) = true := by kernel_rfl
theorem wgY (b : UInt8) : low (low b) = low b := of_decide_eq_true (forall_byte (p := fun b => decide (low (low b) = low b)) weS b)
@[simp] theorem wgQ (s : List UInt8) : lower (lower s) = lower s := by simp [lower, Function.comp_def, wgY]
@[simp] theorem wgD (s : List UInt8) : (lower s).length = s.length := by simp [lower]
theorem weh (K n : Nat) (s : List UInt8) (hs : s.length < 9223372036854775808) (hn : s.length < n) :
    wZ_.l0 K n (((65, (90, ())), ((), ((), ((s.length : Int), (0, ()))))), (intsOf s, ())) = some (((), ()), ((intsOf s).map g1, ())) := by
  have H := loop_rule (l := wZ_.l0 K) (wZ_.t0 K) (fun _ _ => rfl)
    (fun x => ∃ (i : Nat) (xs : List Int), x = (((65, (90, ())), ((), ((), ((s.length : Int), ((i : Int), ()))))), (xs, ())) ∧ xs.length = s.length ∧ i ≤ s.length)
    (fun x => s.length - x.1.2.2.2.2.1.toNat)
    (fun x => (((), ()), (x.2.1.take x.1.2.2.2.2.1.toNat ++ (x.2.1.drop x.1.2.2.2.2.1.toNat).map g1, ()))) ?_ n _ ⟨0, intsOf s, rfl, by simp, by omega⟩ (by simp; omega)
  · simpa using H
  · rintro x rec ⟨i, xs, rfl, hl, hi⟩ ih
    by_cases h : i < s.length
    · have ih' := fun ys (hy : ys.length = s.length) => ih _ ⟨i + 1, ys, rfl, hy, by omega⟩ (by simp; omega)
      have hm := map_step xs g1 0 (i := i) (by omega)
      have hk := map_keep xs g1 0 (i := i) (by omega)
      have hh : (i : Int) < (s.length : Int) := by omega
      simp only [wZ_.t0, wbV, Int.toNat_natCast]
      have hg : g1 (xs.getD i 0) = if 65 ≤ xs.getD i 0 then if xs.getD i 0 ≤ 90 then IntKind.wrap .u8 (IntKind.wrap .u8 (xs.getD i 0 - 65) + 97) else xs.getD i 0 else xs.getD i 0 := rfl
      by_cases h1 : 65 ≤ xs.getD i 0 <;> by_cases h2 : xs.getD i 0 ≤ 90 <;> simp only [h1, h2, if_true, if_false] at hg <;> simp only [hg] at hm hk <;>
        simp [-List.getD_eq_getElem?_getD, -List.map_drop] at ih' <;>
        simp [-List.getD_eq_getElem?_getD, -List.map_drop, hh, hl, h1, h2, wrapSucc (show i < 9223372036854775807 by omega), ih', hm, hk]
    · have h2 : i = s.length := by omega
      subst h2
      simp [wZ_.t0, hl, List.take_of_length_le, List.drop_eq_nil_of_le]
theorem wc4 {K : Nat} {s : List UInt8} (hK : s.length < K) (hs : s.length < 9223372036854775808) : wZ_ K s = some (lower s) := by
  simp only [wZ_, wZ_.tr, wcy, length_intsOf, bind_some', weh K K s hs hK, bytesOf_map]
  rfl
/-! Same. -/
def same (a b : List UInt8) : Bool := lower a == lower b
theorem wdN {K : Nat} {a b : List UInt8} (hK : a.length < K) (ha : a.length < 9223372036854775808) (hK' : b.length < K) (hb : b.length < 9223372036854775808) : wcK K a b = some (same a b) := by
  simp only [wcK, wc4 hK ha, wc4 hK' hb, bind_some', same]
  by_cases h : a.length = b.length
  · simp [h]
  · have h2 : lower a ≠ lower b := fun e => h (by have := congrArg List.length e; simpa using this)
    have h3 : ¬ (a.length : Int) = (b.length : Int) := by omega
    simp [h3, h2]
@[simp] theorem whf (a : List UInt8) : same a a = true := by simp [same]
@[simp] theorem whb (a : List UInt8) : same a (lower a) = true := by simp [same]
/-! All bytes. -/
theorem wdL {K : Nat} {s : List UInt8} (hK : s.length < K) (hs : s.length < 1000000000000) : wB_ K s = some (s.all tok) := by
  have H := idx_rule (l := wB_.l0 K) (wB_.t0 K) (fun _ _ => rfl) s.length
    (fun i => (((), (intsOf s, ((s.length : Int), ((i : Int), ())))), ())) (fun i => if (s.drop i).all tok then .inl ((), ()) else .inr ((false, ()), ())) ?_ K 0 (by omega) (by omega)
  · simp only [wB_, wB_.tr, length_intsOf]
    simp only [Int.natCast_zero] at H
    rw [H]
    by_cases h : s.all tok <;> simp [h]
  · intro i rec hi ih
    by_cases h : i < s.length
    · have hh : (i : Int) < (s.length : Int) := by omega
      have ih' := ih h
      simp only [wB_.t0, Int.toNat_natCast, getD_intsOf s h, wei, bind_some', wrapSucc (show i < 9223372036854775807 by omega), ih', drop_get s 0 h, List.all_cons]
      by_cases h1 : tok (s.getD i 0) <;> simp [-List.getD_eq_getElem?_getD, hh, h1]
    · have h2 : i = s.length := by omega
      subst h2
      simp [wB_.t0]
def isTok (s : List UInt8) : Bool := !s.isEmpty && s.all tok
theorem wde {K : Nat} {s : List UInt8} (hK : s.length < K) (hs : s.length < 1000000000000) : wb8 K s = some (isTok s) := by
  simp only [wb8, wdL hK hs, isTok]
  cases s <;> simp
/-! Cut. -/
theorem weU {K : Nat} {s : List UInt8} (b : UInt8) (hs : s.length < 1000000000000) : wc0 K s (b.toNat : Int) = some (cutAt s b) := by
  simp only [wc0, w9_, wbh, ixb, bind_some', indexByteF, toUInt8_toNat', indexByte_eq, cutAt]
  by_cases h : s.contains b
  · have h1 := takeWhile_lt s b h
    simp only [h, if_true, wrapSucc (show (s.takeWhile (· != b)).length < 9223372036854775807 by omega), Int.toNat_natCast, cut_zero', cut_end, take_takeWhile, ← List.drop_drop, drop_takeWhile]
    have h2 : ¬ ((s.takeWhile (· != b)).length : Int) < 0 := by omega
    have h3 : ((s.takeWhile (· != b)).length : Int) ≤ s.length := by omega
    have h4 : ((((s.takeWhile (· != b)).length + 1 : Nat)) : Int) ≤ s.length := by omega
    simp only [h2, h3, h4, decide_true, decide_false, cond_true, cond_false, Bool.and_true, Int.natCast_nonneg]
  · simp only [h]; rfl
/-! Trim. -/
def blanks : List Bool := setOf [32, 9]
def setOK (K : Nat) (b : UInt8) : Bool := decide (wO_ K blanks (b.toNat : Int) = some (blank b))
theorem wfZ (K : Nat) : (List.range 256).all (fun n => setOK K (UInt8.ofNat n)) = true := by kernel_rfl
theorem wd7 (K : Nat) (b : UInt8) : wO_ K blanks (b.toNat : Int) = some (blank b) := by
  have := forall_byte (wfZ K) b; simpa only [setOK, decide_eq_true_eq] using this
theorem wfB (s : List UInt8) (h : 0 < s.length) : s = s.take (s.length - 1) ++ [s.getD (s.length - 1) 0] := by
  rw [← take_get s 0 (by omega), show s.length - 1 + 1 = s.length by omega, List.take_length]
theorem weM {K : Nat} {s : List UInt8} (hK : s.length < K) (hs : s.length < 1000000000000) : wg_ K s blanks = some (rdw blank s) := by
  have H := loop_rule (l := wg_.l0 K) (wg_.t0 K) (fun _ _ => rfl)
    (fun x => ∃ t : List UInt8, x = ((t, (blanks, ())), ()) ∧ t.length < 1000000000000) (fun x => x.1.1.length) (fun x => ((rdw blank x.1.1, ()), ())) ?_ K ((s, (blanks, ())), ()) ⟨s, rfl, hs⟩ hK
  · simp only [wg_, wg_.tr, H, bind_some']
  · rintro x rec ⟨t, rfl, ht⟩ ih
    by_cases h : 0 < t.length
    · have ih' := ih _ ⟨t.take (t.length - 1), rfl, by simp; omega⟩ (by simp; omega)
      have hh : (t.length : Int) > 0 := by omega
      have h1 : ((t.length - 1 : Nat) : Int) < t.length := by omega
      have h2 : ((t.length - 1 : Nat) : Int) ≤ t.length := by omega
      have e := wfB t h
      have e2 : rdw blank t = if blank (t.getD (t.length - 1) 0) then rdw blank (t.take (t.length - 1)) else t := by
        conv => lhs; rw [e]
        rw [rdw_snoc, ← e]
      simp only [wg_.t0, wrapPred (show t.length < 9223372036854775807 by omega) h, Int.toNat_natCast, wd7, bind_some', hh, h1, h2, Int.natCast_nonneg, decide_true, Bool.and_true, cond_true, cut_zero', ih', e2]
      by_cases hb : blank (t.getD (t.length - 1) 0) <;> simp only [hb, if_true, if_false, Bool.not_true, Bool.not_false, cond_true, cond_false, Bool.false_eq_true]
    · have h2 : t = [] := by cases t <;> simp_all
      subst h2
      simp [wg_.t0]
theorem wfl {K : Nat} {s : List UInt8} (hK : s.length < K) (hs : s.length < 1000000000000) : wf_ K s blanks = some (dw blank s) := by
  have H := loop_rule (l := wf_.l0 K) (wf_.t0 K) (fun _ _ => rfl)
    (fun x => ∃ t : List UInt8, x = ((t, (blanks, ())), ()) ∧ t.length < 1000000000000) (fun x => x.1.1.length) (fun x => ((dw blank x.1.1, ()), ())) ?_ K ((s, (blanks, ())), ()) ⟨s, rfl, hs⟩ hK
  · simp only [wf_, wf_.tr, H, bind_some']
  · rintro x rec ⟨t, rfl, ht⟩ ih
    cases t with
    | nil => simp [wf_.t0]
    | cons a t =>
      have ih' := ih _ ⟨t, rfl, by simp at ht; omega⟩ (by simp)
      have hh : ((a :: t).length : Int) > 0 := by simp
      have h1 : (0 : Int) < (a :: t).length := by simp
      have h2 : (1 : Int) ≤ (a :: t).length := by simp; omega
      have e : (a :: t).getD (Int.toNat 0) 0 = a := rfl
      simp only [wf_.t0, e, wd7, bind_some', hh, h1, h2, Int.le_refl, decide_true, Bool.and_true, cond_true, cut_end, List.drop_succ_cons, List.drop_zero, ih', dw_cons]
      by_cases hb : blank a <;> simp [hb, ih'] <;> omega
def trim (s : List UInt8) : List UInt8 := dw blank (rdw blank s)
theorem wdH {K : Nat} {s : List UInt8} (hK : s.length < K) (hs : s.length < 1000000000000) : wcR K s = some (trim s) := by
  have hl := length_rdw blank s
  have ha : asciiSet K [32, 9] = some (blanks, true, ()) := by kernel_rfl
  by_cases h : s = []
  · subst h; rfl
  · have hq : s.isEmpty = false := by cases s <;> simp_all
    simp [wcR, wcE, hq, h, ha, weM hK hs, wfl (K := K) (s := rdw blank s) (by omega) (by omega), trim]
theorem wea (s : List UInt8) : (trim s).length ≤ s.length := by
  have h1 := length_rdw blank s
  have h2 := length_dw blank (rdw blank s)
  simp only [trim]; omega
@[simp] theorem whg (s : List UInt8) : trim (trim s) = trim s := by simp only [trim, ← dw_rdw, dw_dw, rdw_rdw]
end Go.Proofs.X
