/-
  A part of the proof. No condition.
-/
import Derived.Test.YtohbjikggmkkhaaGreatDoorUA1
import Derived.Test.YtohbjikggmkkhaaGreatDoorFc
import Derived.KernelRfl
/- Quoted texts: what the printed functions give. No condition. -/
set_option linter.unusedSimpArgs false
set_option linter.unusedVariables false
namespace Go.Proofs.X
open Go Go.Dp

/-- What stands for a byte. -/
def qb (b : UInt8) : List UInt8 := bytesOf ((script_escaped 5000 (b.toNat : Int)).getD [])
def hx2 (b : UInt8) : List UInt8 := (depotref02_Hex 5000 (IntKind.wrap .i64 (b.toNat : Int))).getD []
theorem esc_facts : (List.range 256).all (fun n => decide (script_escaped 5000 ((UInt8.ofNat n).toNat : Int) = some (intsOf (qb (UInt8.ofNat n)))) && decide ((qb (UInt8.ofNat n)).length ≤ 4)) = true := by kernel_rfl
theorem esc_fact (b : UInt8) : script_escaped 5000 (b.toNat : Int) = some (intsOf (qb b)) ∧ (qb b).length ≤ 4 := by
  have := forall_byte (p := fun b => decide (script_escaped 5000 (b.toNat : Int) = some (intsOf (qb b))) && decide ((qb b).length ≤ 4)) esc_facts b
  simpa using this
def qb' (b : UInt8) : List UInt8 := if b = 13 then [92, 114] else if b = 10 then [92, 110] else if b = 9 then [92, 116] else if b = 34 then [92, 34] else if b = 92 then [92, 92] else if 32 ≤ b.toNat ∧ b.toNat ≤ 126 then [b] else [92, 120] ++ (48 :: hx2 b).drop ((hx2 b).length - 1)
theorem hx_facts : (List.range 256).all (fun n => decide (depotref02_Hex 5000 (IntKind.wrap .i64 ((UInt8.ofNat n).toNat : Int)) = some (hx2 (UInt8.ofNat n))) && decide (1 ≤ (hx2 (UInt8.ofNat n)).length) && decide ((hx2 (UInt8.ofNat n)).length ≤ 2) && decide (qb (UInt8.ofNat n) = qb' (UInt8.ofNat n))) = true := by kernel_rfl
theorem hx_fact (b : UInt8) : depotref02_Hex 5000 (IntKind.wrap .i64 (b.toNat : Int)) = some (hx2 b) ∧ 1 ≤ (hx2 b).length ∧ (hx2 b).length ≤ 2 ∧ qb b = qb' b := by
  have := forall_byte (p := fun b => decide (depotref02_Hex 5000 (IntKind.wrap .i64 (b.toNat : Int)) = some (hx2 b)) && decide (1 ≤ (hx2 b).length) && decide ((hx2 b).length ≤ 2) && decide (qb b = qb' b)) hx_facts b
  simp only [Bool.and_eq_true, decide_eq_true_eq] at this
  exact ⟨this.1.1.1, this.1.1.2, this.1.2, this.2⟩

def quoted (s : List UInt8) : List UInt8 := 34 :: (s.flatMap qb ++ [34])
theorem intsOf_app (a b : List UInt8) : intsOf (a ++ b) = intsOf a ++ intsOf b := by simp [intsOf]
theorem flat_len : ∀ s : List UInt8, (s.flatMap qb).length ≤ 4 * s.length := by
  intro s
  induction s with
  | nil => simp
  | cons a s ih => rw [List.flatMap_cons, List.length_append, List.length_cons]; have := (esc_fact a).2; omega
theorem take_flat (s : List UInt8) {i : Nat} (h : i < s.length) : (s.take (i + 1)).flatMap qb = (s.take i).flatMap qb ++ qb (s.getD i 0) := by
  rw [take_get s 0 h, List.flatMap_append]; simp

theorem quote_pure (s : List UInt8) (hs : s.length ≤ 2000) : script_Quote 5000 s = some (quoted s) := by
  have H := idx_rule (l := script_Quote.l0 5000) (script_Quote.t0 5000) (fun _ _ => rfl) s.length
    (fun i => (((), (intsOf s, ((s.length : Int), ((i : Int), ())))), (intsOf (34 :: (s.take i).flatMap qb), ())))
    (fun _ => (((), ()), (intsOf (34 :: s.flatMap qb), ()))) ?_ 5000 0 (by omega) (by omega)
  · have H' : script_Quote.l0 5000 5000 (((), (intsOf s, ((s.length : Int), (0, ())))), ([34], ())) = some (((), ()), (intsOf (34 :: s.flatMap qb), ())) := by simpa [intsOf] using H
    have hl := flat_len s
    have hr : (1 + (s.flatMap qb).length + 1) * 1 ≤ maxRoom := by unfold maxRoom; omega
    simp only [script_Quote, script_Quote.tr, length_intsOf, H', bind_some', List.length_cons]
    rw [show (s.flatMap qb).length + 1 + 1 = 1 + (s.flatMap qb).length + 1 by omega]
    simp only [hr, decide_true, cond_true]
    rw [show ([34] : List Int) = intsOf [34] from rfl, ← intsOf_app, bytesOf_intsOf]
    rfl
  · intro i rec hi ih
    by_cases h : i < s.length
    · have hh : (i : Int) < (s.length : Int) := by omega
      have ih := ih h
      have hl := flat_len (s.take i)
      rw [List.length_take, Nat.min_eq_left hi] at hl
      have he := (esc_fact (s.getD i 0)).2
      have hr : (1 + ((s.take i).flatMap qb).length + (qb (s.getD i 0)).length) * 1 ≤ maxRoom := by unfold maxRoom; omega
      simp only [script_Quote.t0, Int.toNat_natCast, length_intsOf, getD_intsOf s h, (esc_fact (s.getD i 0)).1, bind_some', List.length_cons]
      rw [show ((s.take i).flatMap qb).length + 1 + (qb (s.getD i 0)).length = 1 + ((s.take i).flatMap qb).length + (qb (s.getD i 0)).length by omega]
      simp only [hh, hr, decide_true, cond_true, Bool.and_true, show (0 : Int) ≤ (i : Int) from by omega, wrapSucc (show i < 9223372036854775807 by omega), ← intsOf_app]
      rw [take_flat s h] at ih
      exact ih
    · obtain rfl : i = s.length := by omega
      simp [script_Quote.t0]

theorem refquote_step (s t : List UInt8) (i : Nat) (rec : _) (h : i < s.length) (hs : s.length ≤ 2000) (ht : t.length ≤ 10000) :
    depotref36_Quote.t0 5000 rec ((s, (t, ((i : Int), ()))), ()) = rec ((s, (t ++ qb (s.getD i 0), (((i + 1 : Nat) : Int), ()))), ()) := by
  obtain ⟨h1, h2, h3, h4⟩ := hx_fact (s.getD i 0)
  have hh : (i : Int) < (s.length : Int) := by omega
  obtain ⟨j, hj⟩ : ∃ j : Int, j = ((i + 1 : Nat) : Int) := ⟨_, rfl⟩
  have hw : IntKind.wrap .i64 ((i : Int) + 1) = j := by rw [hj]; exact wrapSucc (show i < 9223372036854775807 by omega)
  have hw1 : j ≤ (s.length : Int) := by omega
  have hc : cut s i j.toNat = [s.getD i 0] := by rw [hj, Int.toNat_natCast, cut_succ s 0 (Nat.le_refl _) h, cut_self]; rfl
  have m1 : t.length + 1 ≤ maxRoom := by unfold maxRoom; omega
  have m2 : t.length + 2 ≤ maxRoom := by unfold maxRoom; omega
  have m4 : t.length + 4 ≤ maxRoom := by unfold maxRoom; omega
  have h0 : (0 : Int) ≤ (i : Int) := by omega
  have hi1 : (i : Int) ≤ j := by omega
  have hz : (0 : Int) ≤ j := by omega
  rw [h4, ← hj]
  unfold qb'
  generalize hb : s.getD i 0 = b at h1 h2 h3 h4 hc ⊢
  have e13 : ((b.toNat : Int) = 13) ↔ b = 13 := byteN b 13 (by decide)
  have e10 : ((b.toNat : Int) = 10) ↔ b = 10 := byteN b 10 (by decide)
  have e9 := byte9 b
  have e34 := byte34 b
  have e92 := byte92 b
  have m5 : 1 + (hx2 b).length ≤ maxRoom := by unfold maxRoom; omega
  obtain ⟨q, hq⟩ : ∃ q, q = (hx2 b).length - 1 := ⟨_, rfl⟩
  have hxw : IntKind.wrap .i64 (1 + ((hx2 b).length : Int) - 2) = (q : Int) := by rw [wrap64] <;> omega
  have hxc : cut (48 :: hx2 b) q (1 + (hx2 b).length) = (48 :: hx2 b).drop q := by
    rw [show 1 + (hx2 b).length = (48 :: hx2 b).length by rw [List.length_cons]; omega]; exact cut_end _ _
  have hxl : ((48 :: hx2 b).drop q).length = 2 := by rw [List.length_drop, List.length_cons]; omega
  have hxi : (q : Int) ≤ 1 + ((hx2 b).length : Int) := by omega
  have hxz : (0 : Int) ≤ (q : Int) := by omega
  rw [← hq]
  clear hq
  clear h4 hj
  simp only [depotref36_Quote.t0, Int.toNat_natCast, hb, hw, hh, h0, hc, h1, decide_true, cond_true, Bool.and_true, e13, e10, e9, e34, e92, hw1, hi1, hz, m1, m2, bind_some', List.length_append, List.length_cons, List.length_nil]
  by_cases c13 : b = 13
  · simp [c13, hw, hc, hz, hw1, hi1, m1, m2, hh, h0]
  by_cases c10 : b = 10
  · simp [c10, hw, hc, hz, hw1, hi1, m1, m2, hh, h0]
  by_cases c9 : b = 9
  · simp [c9, hw, hc, hz, hw1, hi1, m1, m2, hh, h0]
  by_cases c34 : b = 34
  · subst c34; simp [hw, hc, hz, hw1, hi1, m1, m2, hh, h0]
  by_cases c92 : b = 92
  · subst c92; simp [hw, hc, hz, hw1, hi1, m1, m2, hh, h0]
  have hex : (if 32 ≤ b.toNat ∧ b.toNat ≤ 126 then [b] else [92, 120] ++ (48 :: hx2 b).drop q) = bif decide (32 ≤ b.toNat) && decide (b.toNat ≤ 126) then [b] else [92, 120] ++ (48 :: hx2 b).drop q := by
    by_cases c1 : 32 ≤ b.toNat <;> by_cases c2 : b.toNat ≤ 126 <;> simp [c1, c2]
  rw [hex]
  have d1 : decide ((b.toNat : Int) ≥ 32) = decide (32 ≤ b.toNat) := by rw [decide_eq_decide]; omega
  have d2 : decide ((b.toNat : Int) ≤ 126) = decide (b.toNat ≤ 126) := by rw [decide_eq_decide]; omega
  have m6 : t.length + 2 + 2 ≤ maxRoom := by unfold maxRoom; omega
  by_cases c1 : 32 ≤ b.toNat
  · by_cases c2 : b.toNat ≤ 126
    · simp [d1, d2, c13, c10, c9, c34, c92, c1, c2, hw, hc, hz, hw1, hi1, m1, m2, hh, h0]
    · simp [-List.length_cons, -List.length_drop, d1, d2, c13, c10, c9, c34, c92, c1, c2, h1, hxw, hxc, hxl, m5, m6, hxi, hxz, hw, hc, hz, hw1, hi1, m1, m2, hh, h0]
  · simp [-List.length_cons, -List.length_drop, d1, d2, c13, c10, c9, c34, c92, c1, h1, hxw, hxc, hxl, m5, m6, hxi, hxz, hw, hc, hz, hw1, hi1, m1, m2, hh, h0]

theorem refquote_pure (s : List UInt8) (hs : s.length ≤ 2000) : depotref36_Quote 5000 s = some (quoted s) := by
  have hl := flat_len s
  have H := idx_rule (l := depotref36_Quote.l0 5000) (depotref36_Quote.t0 5000) (fun _ _ => rfl) s.length
    (fun i => ((s, (34 :: (s.take i).flatMap qb, ((i : Int), ()))), ()))
    (fun _ => ((34 :: s.flatMap qb, ()), ())) ?_ 5000 0 (by omega) (by omega)
  · have H' : depotref36_Quote.l0 5000 5000 ((s, ([34], (0, ()))), ()) = some ((34 :: s.flatMap qb, ()), ()) := by simpa using H
    have hr : (34 :: s.flatMap qb).length + 1 ≤ maxRoom := by rw [List.length_cons]; unfold maxRoom; omega
    simp only [depotref36_Quote, depotref36_Quote.tr, H', bind_some', hr, decide_true, cond_true]
    rfl
  · intro i rec hi ih
    by_cases h : i < s.length
    · have ih := ih h
      have hl := flat_len (s.take i)
      rw [List.length_take, Nat.min_eq_left hi] at hl
      rw [refquote_step s _ i rec h hs (by rw [List.length_cons]; omega), List.cons_append, ← take_flat s h]
      exact ih
    · obtain rfl : i = s.length := by omega
      simp [depotref36_Quote.t0]
end Go.Proofs.X

