/-
  A part of the proof. No condition.
-/
import Derived.Test.YtkfffmpnmoiikaaGreatDoorUG1
import Derived.Test.YtkfffmpnmoiikaaGreatDoorFc
import Derived.KernelRfl
/- Chapter 01: what each printed function gives. No condition. -/
set_option linter.unusedSimpArgs false
set_option linter.unusedVariables false
namespace Go.Proofs.X
open Go Go.Dp
/-! Bytes. -/
def tok (b : UInt8) : Bool := (wcA 0 (b.toNat : Int)).getD false
def blank (b : UInt8) : Bool := b == 32 || b == 9
theorem wfx (K : Nat) : (List.range 256).all (fun n => decide (wcA K ((UInt8.ofNat n).toNat : Int) = some (tok (UInt8.ofNat n)))) = true := by kernel_rfl
theorem we1 (K : Nat) (b : UInt8) : wcA K (b.toNat : Int) = some (tok b) := of_decide_eq_true (forall_byte (p := fun b => decide (wcA K (b.toNat : Int) = some (tok b))) (wfx K) b)
theorem wfA (K : Nat) : (List.range 256).all (fun n => decide (wM_ (K + 40) ((UInt8.ofNat n).toNat : Int) = some (tok (UInt8.ofNat n)))) = true := by kernel_rfl
theorem weZ (K : Nat) (hK : 40 ≤ K) (b : UInt8) : wM_ K (b.toNat : Int) = some (tok b) := by
  have := of_decide_eq_true (forall_byte (p := fun b => decide (wM_ (K - 40 + 40) (b.toNat : Int) = some (tok b))) (wfA (K - 40)) b)
  rwa [Nat.sub_add_cancel hK] at this
theorem weR (K : Nat) : (List.range 256).all (fun n => decide (wbG K ((UInt8.ofNat n).toNat : Int) = some (blank (UInt8.ofNat n)))) = true := by kernel_rfl
theorem wdX (K : Nat) (b : UInt8) : wbG K (b.toNat : Int) = some (blank b) := of_decide_eq_true (forall_byte (p := fun b => decide (wbG K (b.toNat : Int) = some (blank b))) (weR K) b)
/-! Lower. -/
def g1 (c : Int) : Int := if 65 ≤ c then if c ≤ 90 then IntKind.wrap .u8 (IntKind.wrap .u8 (c - 65) + 97) else c else c
def g2 (c : Int) : Int := if 65 ≤ c then if c ≤ 90 then IntKind.wrap .u8 (c + 32) else c else c
def low (b : UInt8) : UInt8 := UInt8.ofNat (g1 (b.toNat : Int)).toNat
def lower (s : List UInt8) : List UInt8 := s.map low
theorem whK : (List.range 256).all (fun n => decide (UInt8.ofNat (g2 ((UInt8.ofNat n).toNat : Int)).toNat = low (UInt8.ofNat n))) = true := by kernel_rfl
theorem g2_ok (b : UInt8) : UInt8.ofNat (g2 (b.toNat : Int)).toNat = low b := of_decide_eq_true (forall_byte (p := fun b => decide (UInt8.ofNat (g2 (b.toNat : Int)).toNat = low b)) whK b)
theorem wfZ : (List.range 256).all (fun n => decide (low (low (UInt8.ofNat n)) = low (UInt8.ofNat n))) = true := by kernel_rfl
theorem wif (b : UInt8) : low (low b) = low b := of_decide_eq_true (forall_byte (p := fun b => decide (low (low b) = low b)) wfZ b)
@[simp] theorem wiB (s : List UInt8) : lower (lower s) = lower s := by simp [lower, Function.comp_def, wif]
@[simp] theorem wh5 (s : List UInt8) : (lower s).length = s.length := by simp [lower]
theorem weW (K n : Nat) (s : List UInt8) (hs : s.length < 9223372036854775808) (hn : s.length < n) :
    wZ_.l0 K n (((65, (90, ())), ((), ((), ((s.length : Int), (0, ()))))), (intsOf s, ())) = some (((), ()), ((intsOf s).map g1, ())) := by
  have H := loop_rule (l := wZ_.l0 K) (wZ_.t0 K) (fun _ _ => rfl)
    (fun x => ∃ (i : Nat) (xs : List Int), x = (((65, (90, ())), ((), ((), ((s.length : Int), ((i : Int), ()))))), (xs, ())) ∧ xs.length = s.length ∧ i ≤ s.length)
    (fun x => s.length - x.1.2.2.2.2.1.toNat)
    (fun x => (((), ()), (x.2.1.take x.1.2.2.2.2.1.toNat ++ (x.2.1.drop x.1.2.2.2.2.1.toNat).map g1, ()))) ?_ n _ ⟨0, intsOf s, rfl, by simp, by omega⟩ (by simp; omega)
  · simpa using H
  · rintro x rec ⟨i, xs, rfl, hl, hi⟩ ih
    by_cases h : i < s.length
    · have ih' := fun ys (hy : ys.length = s.length) => ih _ ⟨i + 1, ys, rfl, hy, by omega⟩ (by simp; omega)
      have hm := map_step xs g1 0 (i := i) (by omega)
      have hk := map_keep xs g1 0 (i := i) (by omega)
      have hh : (i : Int) < (s.length : Int) := by omega
      simp only [wZ_.t0, wb2, Int.toNat_natCast]
      have hg : g1 (xs.getD i 0) = if 65 ≤ xs.getD i 0 then if xs.getD i 0 ≤ 90 then IntKind.wrap .u8 (IntKind.wrap .u8 (xs.getD i 0 - 65) + 97) else xs.getD i 0 else xs.getD i 0 := rfl
      by_cases h1 : 65 ≤ xs.getD i 0 <;> by_cases h2 : xs.getD i 0 ≤ 90 <;> simp only [h1, h2, if_true, if_false] at hg <;> simp only [hg] at hm hk <;>
        simp [-List.getD_eq_getElem?_getD, -List.map_drop] at ih' <;>
        simp [-List.getD_eq_getElem?_getD, -List.map_drop, hh, hl, h1, h2, wrapSucc (show i < 9223372036854775807 by omega), ih', hm, hk]
    · have h2 : i = s.length := by omega
      subst h2
      simp [wZ_.t0, hl, List.take_of_length_le, List.drop_eq_nil_of_le]
theorem wc7 {K : Nat} {s : List UInt8} (hK : s.length < K) (hs : s.length < 9223372036854775808) : wZ_ K s = some (lower s) := by
  simp only [wZ_, wZ_.tr, wcx, length_intsOf, bind_some', weW K K s hs hK, bytesOf_map]
  rfl
theorem weQ (K n : Nat) (s : List UInt8) (hs : s.length < 9223372036854775808) (hn : s.length < n) :
    wx_.l0 K n (((), (0, ())), (intsOf s, ())) = some (((), ()), ((intsOf s).map g2, ())) := by
  have H := loop_rule (l := wx_.l0 K) (wx_.t0 K) (fun _ _ => rfl)
    (fun x => ∃ (i : Nat) (xs : List Int), x = (((), ((i : Int), ())), (xs, ())) ∧ xs.length = s.length ∧ i ≤ s.length)
    (fun x => s.length - x.1.2.1.toNat)
    (fun x => (((), ()), (x.2.1.take x.1.2.1.toNat ++ (x.2.1.drop x.1.2.1.toNat).map g2, ()))) ?_ n _ ⟨0, intsOf s, rfl, by simp, by omega⟩ (by simp; omega)
  · simpa using H
  · rintro x rec ⟨i, xs, rfl, hl, hi⟩ ih
    by_cases h : i < s.length
    · have ih' := fun ys (hy : ys.length = s.length) => ih _ ⟨i + 1, ys, rfl, hy, by omega⟩ (by simp; omega)
      have hm := map_step xs g2 0 (i := i) (by omega)
      have hk := map_keep xs g2 0 (i := i) (by omega)
      have hh : (i : Int) < (s.length : Int) := by omega
      simp only [wx_.t0, Int.toNat_natCast]
      have hg : g2 (xs.getD i 0) = if 65 ≤ xs.getD i 0 then if xs.getD i 0 ≤ 90 then IntKind.wrap .u8 (xs.getD i 0 + 32) else xs.getD i 0 else xs.getD i 0 := rfl
      by_cases h1 : 65 ≤ xs.getD i 0 <;> by_cases h2 : xs.getD i 0 ≤ 90 <;> simp only [h1, h2, if_true, if_false] at hg <;> simp only [hg] at hm hk <;>
        simp [-List.getD_eq_getElem?_getD, -List.map_drop] at ih' <;>
        simp [-List.getD_eq_getElem?_getD, -List.map_drop, hh, hl, h1, h2, wrapSucc (show i < 9223372036854775807 by omega), ih', hm, hk]
    · have h2 : i = s.length := by omega
      subst h2
      simp [wx_.t0, hl, List.take_of_length_le, List.drop_eq_nil_of_le]
theorem wdh {K : Nat} {s : List UInt8} (hK : s.length < K) (hs : s.length < 9223372036854775808) : wx_ K s = some (lower s) := by
  simp only [wx_, wx_.tr, bind_some', weQ K K s hs hK, bytesOf_map, g2_ok]
  rfl
/-! Same. -/
def same (a b : List UInt8) : Bool := lower a == lower b
theorem wd8 {K : Nat} {a b : List UInt8} (hK : a.length < K) (ha : a.length < 9223372036854775808) (hK' : b.length < K) (hb : b.length < 9223372036854775808) : wcI K a b = some (same a b) := by
  simp only [wcI, wc7 hK ha, wc7 hK' hb, bind_some', same]
  by_cases h : a.length = b.length
  · simp [h]
  · have h2 : lower a ≠ lower b := fun e => h (by have := congrArg List.length e; simpa using this)
    have h3 : ¬ (a.length : Int) = (b.length : Int) := by omega
    simp [h3, h2]
theorem wec {K : Nat} {a b : List UInt8} (hK : a.length < K) (ha : a.length < 9223372036854775808) (hK' : b.length < K) (hb : b.length < 9223372036854775808) : wbP K a b = some (same a b) := by
  simp only [wbP, wdh hK ha, wdh hK' hb, bind_some', same]
@[simp] theorem wiT (a : List UInt8) : same a a = true := by simp [same]
@[simp] theorem wiI (a : List UInt8) : same a (lower a) = true := by simp [same]
/-! All bytes. -/
theorem wd5 {K : Nat} {s : List UInt8} (hK : s.length < K) (hs : s.length < 1000000000000) : wI_ K s = some (s.all tok) := by
  have H := idx_rule (l := wI_.l0 K) (wI_.t0 K) (fun _ _ => rfl) s.length
    (fun i => (((), (intsOf s, ((s.length : Int), ((i : Int), ())))), ())) (fun i => if (s.drop i).all tok then .inl ((), ()) else .inr ((false, ()), ())) ?_ K 0 (by omega) (by omega)
  · simp only [wI_, wI_.tr, length_intsOf]
    simp only [Int.natCast_zero] at H
    rw [H]
    by_cases h : s.all tok <;> simp [h]
  · intro i rec hi ih
    by_cases h : i < s.length
    · have hh : (i : Int) < (s.length : Int) := by omega
      have ih' := ih h
      simp only [wI_.t0, Int.toNat_natCast, getD_intsOf s h, we1, bind_some', wrapSucc (show i < 9223372036854775807 by omega), ih', drop_get s 0 h, List.all_cons]
      by_cases h1 : tok (s.getD i 0) <;> simp [-List.getD_eq_getElem?_getD, hh, h1]
    · have h2 : i = s.length := by omega
      subst h2
      simp [wI_.t0]
def isTok (s : List UInt8) : Bool := !s.isEmpty && s.all tok
theorem wdm {K : Nat} {s : List UInt8} (hK : s.length < K) (hs : s.length < 1000000000000) : wcb K s = some (isTok s) := by
  simp only [wcb, wd5 hK hs, isTok]
  cases s <;> simp
theorem wdn {K : Nat} {s : List UInt8} (hK : s.length + 40 < K) (hs : s.length < 1000000000000) : wt_ K s = some (isTok s) := by
  have H := idx_rule (l := wt_.l0 K) (wt_.t0 K) (fun _ _ => rfl) s.length
    (fun i => ((s, ((i : Int), ())), ())) (fun i => if (s.drop i).all tok then .inl ((s, ()), ()) else .inr ((false, ()), ())) ?_ K 0 (by omega) (by omega)
  · simp only [wt_, wt_.tr]
    simp only [Int.natCast_zero] at H
    rw [H, isTok]
    by_cases h : s.all tok <;> simp [h]
    cases s <;> simp
  · intro i rec hi ih
    by_cases h : i < s.length
    · have hh : (i : Int) < (s.length : Int) := by omega
      have ih' := ih h
      simp only [wt_.t0, Int.toNat_natCast, weZ K (by omega), bind_some', wrapSucc (show i < 9223372036854775807 by omega), ih', drop_get s 0 h, List.all_cons]
      by_cases h1 : tok (s.getD i 0) <;> simp [-List.getD_eq_getElem?_getD, hh, h1]
    · have h2 : i = s.length := by omega
      subst h2
      simp [wt_.t0]
/-! Cut. -/
theorem wfT {K : Nat} {s : List UInt8} (b : UInt8) (hs : s.length < 1000000000000) : wc0 K s (b.toNat : Int) = some (cutAt s b) := by
  simp only [wc0, wbb, wbn, ixb, bind_some', indexByteF, toUInt8_toNat', indexByte_eq, cutAt]
  by_cases h : s.contains b
  · have h1 := takeWhile_lt s b h
    simp only [h, if_true, wrapSucc (show (s.takeWhile (· != b)).length < 9223372036854775807 by omega), Int.toNat_natCast, cut_zero', cut_end, take_takeWhile, ← List.drop_drop, drop_takeWhile]
    have h2 : ¬ ((s.takeWhile (· != b)).length : Int) < 0 := by omega
    have h3 : ((s.takeWhile (· != b)).length : Int) ≤ s.length := by omega
    have h4 : ((((s.takeWhile (· != b)).length + 1 : Nat)) : Int) ≤ s.length := by omega
    simp only [h2, h3, h4, decide_true, decide_false, cond_true, cond_false, Bool.and_true, Int.natCast_nonneg]
  · simp only [h]; rfl
theorem wfJ {K : Nat} {s : List UInt8} (b : UInt8) (hK : s.length < K) (hs : s.length < 1000000000000) : wP_ K s (b.toNat : Int) = some (cutAt s b) := by
  have H := idx_rule (l := wP_.l0 K) (wP_.t0 K) (fun _ _ => rfl) s.length
    (fun i => ((s, ((b.toNat : Int), ((i : Int), ()))), ())) (fun i => if (s.drop i).contains b then .inr ((s.take (i + ((s.drop i).takeWhile (· != b)).length), (((s.drop i).dropWhile (· != b)).drop 1, (true, ()))), ()) else .inl ((s, ()), ())) ?_ K 0 (by omega) (by omega)
  · simp only [wP_, wP_.tr]
    simp only [Int.natCast_zero] at H
    rw [H, cutAt]
    simp only [List.drop_zero, Nat.zero_add, take_takeWhile]
    by_cases h : s.contains b = true
    · rw [if_pos h, if_pos h]; rfl
    · rw [if_neg h, if_neg h]; rfl
  · intro i rec hi ih
    by_cases h : i < s.length
    · have hh : (i : Int) < (s.length : Int) := by omega
      have hh' : ((i + 1 : Nat) : Int) ≤ (s.length : Int) := by omega
      have hh2 : (i : Int) ≤ (s.length : Int) := by omega
      have ih' := ih h
      simp only [wP_.t0, Int.toNat_natCast, wrapSucc (show i < 9223372036854775807 by omega), ih', drop_get s 0 h, byte_inj, hh, hh', hh2, Int.natCast_nonneg, decide_true, Bool.and_true, cond_true]
      by_cases h1 : s.getD i 0 = b
      · simp [-List.getD_eq_getElem?_getD, h1]
      · have h1' : ¬ b = s.getD i 0 := fun e => h1 e.symm
        simp [-List.getD_eq_getElem?_getD, h1, h1', List.takeWhile_cons, List.dropWhile_cons]
        simp only [Nat.add_assoc, Nat.add_comm 1]
    · have h2 : i = s.length := by omega
      subst h2
      simp [wP_.t0]
/-! Trim. -/
def blanks : List Bool := setOf [32, 9]
def setOK (K : Nat) (b : UInt8) : Bool := decide (wU_ K blanks (b.toNat : Int) = some (blank b))
theorem whk (K : Nat) : (List.range 256).all (fun n => setOK K (UInt8.ofNat n)) = true := by kernel_rfl
theorem weC (K : Nat) (b : UInt8) : wU_ K blanks (b.toNat : Int) = some (blank b) := by
  have := forall_byte (whk K) b; simpa only [setOK, decide_eq_true_eq] using this
theorem wfa (s : List UInt8) (h : 0 < s.length) : s = s.take (s.length - 1) ++ [s.getD (s.length - 1) 0] := by
  rw [← take_get s 0 (by omega), show s.length - 1 + 1 = s.length by omega, List.take_length]
theorem wfG {K : Nat} {s : List UInt8} (hK : s.length < K) (hs : s.length < 1000000000000) : wl_ K s blanks = some (rdw blank s) := by
  have H := loop_rule (l := wl_.l0 K) (wl_.t0 K) (fun _ _ => rfl)
    (fun x => ∃ t : List UInt8, x = ((t, (blanks, ())), ()) ∧ t.length < 1000000000000) (fun x => x.1.1.length) (fun x => ((rdw blank x.1.1, ()), ())) ?_ K ((s, (blanks, ())), ()) ⟨s, rfl, hs⟩ hK
  · simp only [wl_, wl_.tr, H, bind_some']
  · rintro x rec ⟨t, rfl, ht⟩ ih
    by_cases h : 0 < t.length
    · have ih' := ih _ ⟨t.take (t.length - 1), rfl, by simp; omega⟩ (by simp; omega)
      have hh : (t.length : Int) > 0 := by omega
      have h1 : ((t.length - 1 : Nat) : Int) < t.length := by omega
      have h2 : ((t.length - 1 : Nat) : Int) ≤ t.length := by omega
      have e := wfa t h
      have e2 : rdw blank t = if blank (t.getD (t.length - 1) 0) then rdw blank (t.take (t.length - 1)) else t := by
        conv => lhs; rw [e]
        rw [rdw_snoc, ← e]
      simp only [wl_.t0, wrapPred (show t.length < 9223372036854775807 by omega) h, Int.toNat_natCast, weC, bind_some', hh, h1, h2, Int.natCast_nonneg, decide_true, Bool.and_true, cond_true, cut_zero', ih', e2]
      by_cases hb : blank (t.getD (t.length - 1) 0) <;> simp only [hb, if_true, if_false, Bool.not_true, Bool.not_false, cond_true, cond_false, Bool.false_eq_true]
    · have h2 : t = [] := by cases t <;> simp_all
      subst h2
      simp [wl_.t0]
theorem wgo {K : Nat} {s : List UInt8} (hK : s.length < K) (hs : s.length < 1000000000000) : wk_ K s blanks = some (dw blank s) := by
  have H := loop_rule (l := wk_.l0 K) (wk_.t0 K) (fun _ _ => rfl)
    (fun x => ∃ t : List UInt8, x = ((t, (blanks, ())), ()) ∧ t.length < 1000000000000) (fun x => x.1.1.length) (fun x => ((dw blank x.1.1, ()), ())) ?_ K ((s, (blanks, ())), ()) ⟨s, rfl, hs⟩ hK
  · simp only [wk_, wk_.tr, H, bind_some']
  · rintro x rec ⟨t, rfl, ht⟩ ih
    cases t with
    | nil => simp [wk_.t0]
    | cons a t =>
      have ih' := ih _ ⟨t, rfl, by simp at ht; omega⟩ (by simp)
      have hh : ((a :: t).length : Int) > 0 := by simp
      have h1 : (0 : Int) < (a :: t).length := by simp
      have h2 : (1 : Int) ≤ (a :: t).length := by simp; omega
      have e : (a :: t).getD (Int.toNat 0) 0 = a := rfl
      simp only [wk_.t0, e, weC, bind_some', hh, h1, h2, Int.le_refl, decide_true, Bool.and_true, cond_true, cut_end, List.drop_succ_cons, List.drop_zero, ih', dw_cons]
      by_cases hb : blank a <;> simp [hb, ih'] <;> omega
def trim (s : List UInt8) : List UInt8 := dw blank (rdw blank s)
theorem wd3 {K : Nat} {s : List UInt8} (hK : s.length < K) (hs : s.length < 1000000000000) : wcO K s = some (trim s) := by
  have hl := length_rdw blank s
  have ha : asciiSet K [32, 9] = some (blanks, true, ()) := by kernel_rfl
  by_cases h : s = []
  · subst h; rfl
  · have hq : s.isEmpty = false := by cases s <;> simp_all
    simp [wcO, wcD, hq, h, ha, wfG hK hs, wgo (K := K) (s := rdw blank s) (by omega) (by omega), trim]
theorem wfi (K n : Nat) (s : List UInt8) (hn : s.length < n) (hs : s.length < 1000000000000) : wg_.l0 K n ((s, ()), ()) = some ((dw blank s, ()), ()) := by
  refine loop_rule (l := wg_.l0 K) (wg_.t0 K) (fun _ _ => rfl)
    (fun x => ∃ t : List UInt8, x = ((t, ()), ()) ∧ t.length < 1000000000000) (fun x => x.1.1.length) (fun x => ((dw blank x.1.1, ()), ())) ?_ n ((s, ()), ()) ⟨s, rfl, hs⟩ hn
  rintro x rec ⟨t, rfl, ht⟩ ih
  cases t with
  | nil => simp [wg_.t0]
  | cons a t =>
    have ih' := ih _ ⟨t, rfl, by simp at ht; omega⟩ (by simp)
    have hh : ((a :: t).length : Int) > 0 := by simp
    have h1 : (0 : Int) < (a :: t).length := by simp
    have h2 : (1 : Int) ≤ (a :: t).length := by simp; omega
    have e : (a :: t).getD (Int.toNat 0) 0 = a := rfl
    simp only [wg_.t0, e, wdX, bind_some', hh, h1, h2, Int.le_refl, decide_true, Bool.and_true, cond_true, cut_end, List.drop_succ_cons, List.drop_zero, ih', dw_cons]
    have h3 : (1 : Int) ≤ (t.length : Int) + 1 := by omega
    by_cases hb : blank a <;> simp [hb, h3, ih']
theorem wfo (K n : Nat) (s : List UInt8) (hn : s.length < n) (hs : s.length < 1000000000000) : wg_.l1 K n ((s, ()), ()) = some ((rdw blank s, ()), ()) := by
  refine loop_rule (l := wg_.l1 K) (wg_.t1 K) (fun _ _ => rfl)
    (fun x => ∃ t : List UInt8, x = ((t, ()), ()) ∧ t.length < 1000000000000) (fun x => x.1.1.length) (fun x => ((rdw blank x.1.1, ()), ())) ?_ n ((s, ()), ()) ⟨s, rfl, hs⟩ hn
  rintro x rec ⟨t, rfl, ht⟩ ih
  by_cases h : 0 < t.length
  · have ih' := ih _ ⟨t.take (t.length - 1), rfl, by simp; omega⟩ (by simp; omega)
    have hh : (t.length : Int) > 0 := by omega
    have h1 : ((t.length - 1 : Nat) : Int) < t.length := by omega
    have h2 : ((t.length - 1 : Nat) : Int) ≤ t.length := by omega
    have e := wfa t h
    have e2 : rdw blank t = if blank (t.getD (t.length - 1) 0) then rdw blank (t.take (t.length - 1)) else t := by
      conv => lhs; rw [e]
      rw [rdw_snoc, ← e]
    simp only [wg_.t1, wrapPred (show t.length < 9223372036854775807 by omega) h, Int.toNat_natCast, wdX, bind_some', hh, h1, h2, Int.natCast_nonneg, decide_true, Bool.and_true, cond_true, cut_zero', ih', e2]
    by_cases hb : blank (t.getD (t.length - 1) 0) <;> simp only [hb, if_true, if_false, Bool.not_true, Bool.not_false, cond_true, cond_false, Bool.false_eq_true]
  · have h2 : t = [] := by cases t <;> simp_all
    subst h2
    simp [wg_.t1]
theorem wd7 {K : Nat} {s : List UInt8} (hK : s.length < K) (hs : s.length < 1000000000000) : wg_ K s = some (trim s) := by
  have hl := length_dw blank s
  simp only [wg_, wg_.tr, wfi K K s hK hs, wfo K K (dw blank s) (by omega) (by omega), bind_some', trim, dw_rdw]
theorem weP (s : List UInt8) : (trim s).length ≤ s.length := by
  have h1 := length_rdw blank s
  have h2 := length_dw blank (rdw blank s)
  simp only [trim]; omega
@[simp] theorem wiR (s : List UInt8) : trim (trim s) = trim s := by simp only [trim, ← dw_rdw, dw_dw, rdw_rdw]
end Go.Proofs.X
