/-
  A part of the proof. No condition.
-/
import Derived.Test.YtkfffmpnmoiikaaGreatDoorUPp
/- Chapter 15 (vary): the reference's side. No condition but on sizes. -/
set_option linter.unusedSimpArgs false
set_option linter.unusedVariables false
namespace Go.Proofs.X
open Go Go.Dp
theorem ub_lt (a b : UInt8) : decide ((a.toNat : Int) < (b.toNat : Int)) = decide (a < b) := by
  by_cases h : a < b
  · have : (a.toNat : Int) < (b.toNat : Int) := by have := UInt8.lt_iff_toNat_lt.1 h; omega
    simp [h, this]
  · have : ¬ (a.toNat : Int) < (b.toNat : Int) := fun e => h (UInt8.lt_iff_toNat_lt.2 (by omega))
    simp [h, this]
theorem why {K : Nat} {a b : List UInt8} (ha : a.length < 1000000) (hb : b.length < 1000000) (hK : 1000000 + 100 ≤ K) : wA_ K a b = some (decide (a < b)) := by
  rw [← wgH]
  have H := loop_ex (l := wA_.l0 K) (wA_.t0 K) (fun _ _ => rfl)
    (fun x => ∃ i : Nat, x = ((a, (b, ((i : Int), ()))), ()) ∧ i ≤ a.length ∧ i ≤ b.length ∧ Op.bytesLess (a.drop i) (b.drop i) = Op.bytesLess a b)
    (fun x => a.length - x.1.2.2.1.toNat)
    (fun r => (match r with | .inl z => decide ((List.length z.1.1 : Int) < (List.length z.1.2.1 : Int)) | .inr z => z.1.1) = Op.bytesLess a b) ?_ K ((a, (b, (0, ()))), ()) ⟨0, rfl, by omega, by omega, by simp⟩ (by simp; omega)
  · obtain ⟨r, h1, h2⟩ := H
    simp only [wA_, wA_.tr, h1, za', zb', zc', zd', ze', zf', zg', zh', zi', zj', zk', zl', zm', zn', zo', zp', zq', zr', zs', zt', ← h2]
    cases r <;> rfl
  · rintro x rec ⟨i, rfl, hi, hj, hf⟩ ih
    by_cases h : i < a.length
    · have hh : (i : Int) < (a.length : Int) := by omega
      by_cases h' : i < b.length
      · have hh' : (i : Int) < (b.length : Int) := by omega
        have w1 := wrapSucc (show i < 9223372036854775807 by omega)
        rw [drop_get a 0 h, drop_get b 0 h', Op.bytesLess] at hf
        by_cases c : a.getD i 0 = b.getD i 0
        · have c1 : ((a.getD i 0).toNat : Int) = ((b.getD i 0).toNat : Int) := by rw [c]
          simp only [wA_.t0, za', zb', zc', zd', ze', zf', zg', zh', zi', zj', zk', zl', zm', zn', zo', zp', zq', zr', zs', zt', hh, hh', c1, w1]
          refine ih _ ⟨i + 1, rfl, by omega, by omega, ?_⟩ (by simp; omega)
          rw [← hf, c]
          have hl : ¬ b.getD i 0 < b.getD i 0 := UInt8.lt_irrefl _
          simp only [hl, decide_false, Bool.false_or, beq_self_eq_true, Bool.true_and]
        · have c1 : ¬ ((a.getD i 0).toNat : Int) = ((b.getD i 0).toNat : Int) := fun e => c (UInt8.toNat_inj.1 (by omega))
          have c2 : (a.getD i 0 == b.getD i 0) = false := by simpa using c
          simp only [wA_.t0, za', zb', zc', zd', ze', zf', zg', zh', zi', zj', zk', zl', zm', zn', zo', zp', zq', zr', zs', zt', hh, hh', c1]
          refine ⟨_, rfl, ?_⟩
          rw [← hf, c2, Bool.false_and, Bool.or_false]
          exact ub_lt _ _
      · have hh' : ¬ (i : Int) < (b.length : Int) := by omega
        simp only [wA_.t0, za', zb', zc', zd', ze', zf', zg', zh', zi', zj', zk', zl', zm', zn', zo', zp', zq', zr', zs', zt', hh, hh']
        refine ⟨_, rfl, ?_⟩
        rw [← hf, List.drop_eq_nil_of_le (show b.length ≤ i by omega), drop_get a 0 h]
        have : ¬ (a.length : Int) < (b.length : Int) := by omega
        simp only [this, decide_false]
        rfl
    · have hh : ¬ (i : Int) < (a.length : Int) := by omega
      simp only [wA_.t0, za', zb', zc', zd', ze', zf', zg', zh', zi', zj', zk', zl', zm', zn', zo', zp', zq', zr', zs', zt', hh]
      refine ⟨_, rfl, ?_⟩
      rw [← hf, List.drop_eq_nil_of_le (show a.length ≤ i by omega)]
      by_cases h' : i < b.length
      · have : (a.length : Int) < (b.length : Int) := by omega
        rw [drop_get b 0 h']
        simp only [this, decide_true]
        rfl
      · have : ¬ (a.length : Int) < (b.length : Int) := by omega
        rw [List.drop_eq_nil_of_le (show b.length ≤ i by omega)]
        simp only [this, decide_false]
        rfl
theorem room16 (n : Nat) (h : n ≤ 2000000000000) : (n + 1) * 16 ≤ maxRoom := by simp only [maxRoom]; omega
def ins (s : List UInt8) : List (List UInt8) → List (List UInt8)
  | [] => [s]
  | x :: r => if x < s then x :: ins s r else if x = s then x :: r else s :: x :: r
theorem wiS {K : Nat} {l : List (List UInt8)} {s : List UInt8} (hl : l.length < 1000000000000) (h1 : ∀ x ∈ l, x.length < 1000000) (h2 : s.length < 1000000) (hK : 1000000000000 + 100 ≤ K) : wN_ K l s = some (ins s l) := by
  have H := loop_ex (l := wN_.l0 K) (wN_.t0 K) (fun _ _ => rfl)
    (fun x => ∃ (i : Nat) (b : Bool) (out : List (List UInt8)), x = ((l, (s, ((), (b, ((i : Int), ()))))), ([], (out, ()))) ∧ i ≤ l.length ∧ out.length ≤ i + 1 ∧ (b = false → out.length ≤ i ∧ out ++ ins s (l.drop i) = ins s l) ∧ (b = true → out ++ l.drop i = ins s l))
    (fun x => l.length - x.1.2.2.2.2.1.toNat)
    (fun r => r.1.1 = s ∧ r.2.2.1.length ≤ l.length + 1 ∧ (if r.1.2.2.1 then r.2.2.1 else r.2.2.1 ++ [r.1.1]) = ins s l) ?_ K ((l, (s, ((), (false, (0, ()))))), ([], ([], ()))) ⟨0, false, [], rfl, by omega, by simp, by simp, by simp⟩ (by simp; omega)
  · obtain ⟨⟨⟨r1, r2, r3, r4⟩, r5, r6, r7⟩, q1, q2, q3, q4⟩ := H
    simp only at q2 q3 q4
    have hr := room16 r6.length (by omega)
    simp only [wN_, wN_.tr, q1, za', zb', zc', zd', ze', zf', zg', zh', zi', zj', zk', zl', zm', zn', zo', zp', zq', zr', zs', zt', hr]
    cases r3
    · simp only [za', zb', zc', zd', ze', zf', zg', zh', zi', zj', zk', zl', zm', zn', zo', zp', zq', zr', zs', zt']
      simpa using q4
    · simp only [za', zb', zc', zd', ze', zf', zg', zh', zi', zj', zk', zl', zm', zn', zo', zp', zq', zr', zs', zt']
      simpa using q4
  · rintro x rec ⟨i, b, out, rfl, hi, ho, hf, ht⟩ ih
    by_cases h : i < l.length
    · have hh : (i : Int) < (l.length : Int) := by omega
      have w1 := wrapSucc (show i < 9223372036854775807 by omega)
      have hm := h1 _ (wcW l [] h)
      have hb := why (K := K) hm h2 (by omega)
      have hd := drop_get l [] h
      have hr := room16 out.length (by omega)
      have hr2 := room16 (out ++ [s]).length (by rw [List.length_append, List.length_singleton]; omega)
      cases b with
      | true =>
        have ht := ht rfl
        rw [hd] at ht
        simp only [wN_.t0, za', zb', zc', zd', ze', zf', zg', zh', zi', zj', zk', zl', zm', zn', zo', zp', zq', zr', zs', zt', hh, hr, w1]
        refine ih _ ⟨i + 1, true, out ++ [l.getD i []], rfl, by omega, ?_, fun e => (by cases e), fun _ => ?_⟩ (by simp; omega)
        · rw [List.length_append, List.length_singleton]; omega
        · rw [← ht]; simp
      | false =>
        obtain ⟨hq, hf⟩ := hf rfl
        rw [hd] at hf
        by_cases c : l.getD i [] < s
        · simp only [wN_.t0, za', zb', zc', zd', ze', zf', zg', zh', zi', zj', zk', zl', zm', zn', zo', zp', zq', zr', zs', zt', hh, hr, hb, c, w1]
          refine ih _ ⟨i + 1, false, out ++ [l.getD i []], rfl, by omega, by rw [List.length_append, List.length_singleton]; omega, fun _ => ⟨by rw [List.length_append, List.length_singleton]; omega, ?_⟩, fun e => by cases e⟩ (by simp; omega)
          rw [← hf, ins, if_pos c]; simp
        · by_cases c2 : l.getD i [] = s
          · have c3 : (l.getD i [] == s) = true := by simpa using c2
            simp only [wN_.t0, za', zb', zc', zd', ze', zf', zg', zh', zi', zj', zk', zl', zm', zn', zo', zp', zq', zr', zs', zt', hh, hr, hb, c, c3, w1]
            refine ih _ ⟨i + 1, true, out ++ [l.getD i []], rfl, by omega, by rw [List.length_append, List.length_singleton]; omega, fun e => (by cases e), fun _ => ?_⟩ (by simp; omega)
            rw [← hf, ins, if_neg c, if_pos c2]; simp
          · have c3 : (l.getD i [] == s) = false := by simpa using c2
            simp only [wN_.t0, za', zb', zc', zd', ze', zf', zg', zh', zi', zj', zk', zl', zm', zn', zo', zp', zq', zr', zs', zt', hh, hr, hr2, hb, c, c3, w1]
            refine ih _ ⟨i + 1, true, out ++ [s] ++ [l.getD i []], rfl, by omega, ?_, fun e => (by cases e), fun _ => ?_⟩ (by simp; omega)
            · rw [List.length_append, List.length_append, List.length_singleton, List.length_singleton]; omega
            · rw [← hf, ins, if_neg c, if_neg c2]; simp
    · have h2 : i = l.length := by omega
      subst h2
      simp only [wN_.t0, za', zb', zc', zd', ze', zf', zg', zh', zi', zj', zk', zl', zm', zn', zo', zp', zq', zr', zs', zt', Int.lt_irrefl]
      refine ⟨_, rfl, rfl, ho, ?_⟩
      cases b with
      | true => have := ht rfl; rw [List.drop_length] at this; simpa using this
      | false => have := (hf rfl).2; rw [List.drop_length] at this; simpa [ins] using this
end Go.Proofs.X
