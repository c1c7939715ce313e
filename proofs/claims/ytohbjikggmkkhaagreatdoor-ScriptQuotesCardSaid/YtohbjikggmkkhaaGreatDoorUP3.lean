/-
  A part of the proof. No condition.
-/
import Derived.Test.YtohbjikggmkkhaaGreatDoorUP2
/- Quoted texts read back, continued. No condition. -/
set_option linter.unusedSimpArgs false
set_option linter.unusedVariables false
namespace Go.Proofs.X
open Go Go.Dp

theorem drop_getD (s : List UInt8) (i k : Nat) : (s.drop i).getD k 0 = s.getD (i + k) 0 := by
  simp only [List.getD_eq_getElem?_getD, List.getElem?_drop]

theorem esc_drop (s : List UInt8) (i : Nat) (h : i < s.length) : esc (s.drop i) =
      if (s.getD i 0).toNat < 32 ∨ 126 < (s.getD i 0).toNat ∨ s.getD i 0 = 34 then (0, 0) else
      if ¬ s.getD i 0 = 92 then (((s.getD i 0).toNat : Int), 1) else
      if s.length ≤ i + 1 then (0, 0) else
      if s.getD (i + 1) 0 = 114 then (13, 2) else if s.getD (i + 1) 0 = 110 then (10, 2) else if s.getD (i + 1) 0 = 116 then (9, 2) else if s.getD (i + 1) 0 = 34 then (34, 2) else if s.getD (i + 1) 0 = 92 then (92, 2) else
      if ¬ s.getD (i + 1) 0 = 120 ∨ s.length ≤ i + 3 then (0, 0) else
      if (hv (s.getD (i + 2) 0)).2.1 = true ∧ (hv (s.getD (i + 3) 0)).2.1 = true then (16 * (hv (s.getD (i + 2) 0)).1 + (hv (s.getD (i + 3) 0)).1, 4) else (0, 0) := by
  unfold esc
  rw [if_neg (by simp; omega)]
  simp only [drop_getD, Nat.add_zero, List.length_drop]
  simp only [show (s.length - i < 2) = (s.length ≤ i + 1) from by rw [eq_iff_iff]; omega, show (s.length - i < 4) = (s.length ≤ i + 3) from by rw [eq_iff_iff]; omega]

/-- What the beginning stands for. -/
theorem esc_cases (s : List UInt8) (i : Nat) (h : i < s.length) : (esc (s.drop i)).2 = 0 ∨ ∃ (n : Nat) (b : UInt8), esc (s.drop i) = ((b.toNat : Int), (n : Int)) ∧ 0 < n ∧ i + n ≤ s.length ∧ n ≤ 4 := by
  generalize hE : esc (s.drop i) = e
  rw [esc_drop s i h] at hE
  by_cases c0 : (s.getD i 0).toNat < 32 ∨ 126 < (s.getD i 0).toNat ∨ s.getD i 0 = 34
  · rw [if_pos c0] at hE; subst hE; exact .inl rfl
  rw [if_neg c0] at hE
  by_cases c1 : ¬ s.getD i 0 = 92
  · rw [if_pos c1] at hE; subst hE; exact .inr ⟨1, s.getD i 0, rfl, by omega, by omega, by omega⟩
  rw [if_neg c1] at hE
  by_cases c2 : s.length ≤ i + 1
  · rw [if_pos c2] at hE; subst hE; exact .inl rfl
  rw [if_neg c2] at hE
  by_cases d1 : s.getD (i + 1) 0 = 114
  · rw [if_pos d1] at hE; subst hE; exact .inr ⟨2, 13, rfl, by omega, by omega, by omega⟩
  rw [if_neg d1] at hE
  by_cases d2 : s.getD (i + 1) 0 = 110
  · rw [if_pos d2] at hE; subst hE; exact .inr ⟨2, 10, rfl, by omega, by omega, by omega⟩
  rw [if_neg d2] at hE
  by_cases d3 : s.getD (i + 1) 0 = 116
  · rw [if_pos d3] at hE; subst hE; exact .inr ⟨2, 9, rfl, by omega, by omega, by omega⟩
  rw [if_neg d3] at hE
  by_cases d4 : s.getD (i + 1) 0 = 34
  · rw [if_pos d4] at hE; subst hE; exact .inr ⟨2, 34, rfl, by omega, by omega, by omega⟩
  rw [if_neg d4] at hE
  by_cases d5 : s.getD (i + 1) 0 = 92
  · rw [if_pos d5] at hE; subst hE; exact .inr ⟨2, 92, rfl, by omega, by omega, by omega⟩
  rw [if_neg d5] at hE
  by_cases c3 : ¬ s.getD (i + 1) 0 = 120 ∨ s.length ≤ i + 3
  · rw [if_pos c3] at hE; subst hE; exact .inl rfl
  rw [if_neg c3] at hE
  by_cases c4 : (hv (s.getD (i + 2) 0)).2.1 = true ∧ (hv (s.getD (i + 3) 0)).2.1 = true
  · rw [if_pos c4] at hE
    obtain ⟨_, _, a3, a4⟩ := hv_fact (s.getD (i + 2) 0)
    obtain ⟨_, _, b3, b4⟩ := hv_fact (s.getD (i + 3) 0)
    obtain ⟨b, hb⟩ := byte_of_int (c := 16 * (hv (s.getD (i + 2) 0)).1 + (hv (s.getD (i + 3) 0)).1) (by omega) (by omega)
    have hx : ¬ (s.length ≤ i + 3) := fun e => c3 (.inr e)
    rw [hb] at hE
    subst hE
    exact .inr ⟨4, b, rfl, by omega, by omega, by omega⟩
  · rw [if_neg c4] at hE; subst hE; exact .inl rfl

theorem unq_step (s t : List UInt8) (i : Nat) (rec : _) (hs : s.length ≤ 2000) (ht : t.length ≤ 10000) (h : i < s.length) :
    script_Unquote.t0 5000 rec ((s, ((), ((i : Int), ()))), (intsOf t, ())) =
      if s.getD i 0 = 34 then some (.inr ((t, (((i + 1 : Nat) : Int), (0, ()))), (intsOf t, ()))) else
      if (esc (s.drop i)).2 = 0 then some (.inl ((), (intsOf t, ()))) else
      rec ((s, ((), (IntKind.wrap .i64 ((i : Int) + (esc (s.drop i)).2), ()))), (intsOf t ++ [(esc (s.drop i)).1], ())) := by
  have hh : (i : Int) < (s.length : Int) := by omega
  have hle : (i : Int) ≤ (s.length : Int) := by omega
  have h0 : (0 : Int) ≤ (i : Int) := by omega
  have hw := wrapSucc (show i < 9223372036854775807 by omega)
  have hu := unescaped_ok (s.drop i) (by rw [List.length_drop]; omega)
  have hr : (t.length + 1) * 1 ≤ maxRoom := by unfold maxRoom; omega
  simp only [script_Unquote.t0, Int.toNat_natCast, hh, hle, h0, decide_true, cond_true, Bool.and_true, byte34, cut_end, hu, bind_some', hw, length_intsOf, hr, bytesOf_intsOf]
  by_cases c : s.getD i 0 = 34
  · simp only [c, decide_true, cond_true, if_true]
  · simp only [c, decide_false, cond_false, if_false]
    by_cases c2 : (esc (s.drop i)).2 = 0
    · simp only [c2, decide_true, cond_true, if_true]
    · simp only [c2, decide_false, cond_false, if_false]
end Go.Proofs.X

