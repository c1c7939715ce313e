/-
  A part of the proof. No condition.
-/
import Derived.Test.YtkfffmpnmoiikaaGreatDoorUP6
/- Chapter 02 (decimal): Seconds. No condition but on sizes. -/
set_option linter.unusedSimpArgs false
set_option linter.unusedVariables false
namespace Go.Proofs.X
open Go Go.Dp
theorem weX {K : Nat} (a b : Int) (hK : 2 ≤ K) : wI_ K a [b] = some (if b < a then b else a) := by
  obtain ⟨k, rfl⟩ : ∃ k, K = k + 2 := ⟨K - 2, by omega⟩
  have e1 : wI_.l0 (k + 2) (k + 2) ((a, ([b], (1, (0, ())))), ()) = wI_.t0 (k + 2) (wI_.t0 (k + 2) (wI_.l0 (k + 2) k)) ((a, ([b], (1, (0, ())))), ()) := rfl
  have w : IntKind.wrap .i64 (0 + 1) = 1 := by decide
  have h : wI_.l0 (k + 2) (k + 2) ((a, ([b], (1, (0, ())))), ()) = some (((if b < a then b else a), ()), ()) := by
    rw [e1]
    by_cases c : b < a
    · simp only [wI_.t0, za', zb', zc', zd', ze', zf', zg', zh', zi', zj', zk', zl', zm', zn', zo', zp', zq', zr', zs', zt', List.length_cons, List.length_nil, Nat.zero_add, Int.natCast_one, Int.le_refl, show (0 : Int) < 1 by decide, List.getD_cons_zero, c, w, Int.lt_irrefl]
    · simp only [wI_.t0, za', zb', zc', zd', ze', zf', zg', zh', zi', zj', zk', zl', zm', zn', zo', zp', zq', zr', zs', zt', List.length_cons, List.length_nil, Nat.zero_add, Int.natCast_one, Int.le_refl, show (0 : Int) < 1 by decide, List.getD_cons_zero, c, w, Int.lt_irrefl]
  simp only [wI_, wI_.tr, List.length_cons, List.length_nil, Nat.zero_add, Int.natCast_one]
  rw [h]
  rfl
def secF (l : List UInt8) (n : Int) : Int := l.foldl (fun n b => min (n * 10 + ((b.toNat : Int) - 48)) 2147483648) n
theorem wfy : ∀ (l : List UInt8) (n : Int), l.all isDig = true → 0 ≤ n → n ≤ 2147483648 → 0 ≤ secF l n ∧ secF l n ≤ 2147483648 := by
  intro l
  induction l with
  | nil => intro n _ h1 h2; exact ⟨h1, h2⟩
  | cons b l ih =>
    intro n hd h1 h2
    rw [List.all_cons, Bool.and_eq_true] at hd
    have h3 := hd.1
    simp only [isDig, Bool.and_eq_true, decide_eq_true_eq] at h3
    exact ih _ hd.2 (by simp only [Int.min_def]; split <;> omega) (by simp only [Int.min_def]; split <;> omega)
def secOf (s : List UInt8) : Int × Bool × Unit := if s.all isDig then (secF s 0, !(s == []), ()) else (0, false, ())
theorem wec (s : List UInt8) : 0 ≤ (secOf s).1 ∧ (secOf s).1 ≤ 2147483648 := by
  unfold secOf
  split
  · rename_i h; exact wfy s 0 h (by omega) (by omega)
  · exact ⟨by decide, by decide⟩
theorem wdl {K : Nat} {s : List UInt8} (hs : s.length < 1000000) (hK : s.length + 2 < K) : wD_ K s = some (secOf s) := by
  have H := loop_ex (l := wD_.l0 K) (wD_.t0 K) (fun _ _ => rfl)
    (fun x => ∃ (i : Nat) (n : Int), x = ((s, (n, (0, ()))), ((s, i), ())) ∧ i ≤ s.length ∧ 0 ≤ n ∧ n ≤ 2147483648 ∧ (s.take i).all isDig = true ∧ secF (s.drop i) n = secF s 0)
    (fun x => s.length - x.2.1.2)
    (fun r => (match r with | .inl z => (z.1.2.1, (!(z.1.1 == []), ())) | .inr z => (z.1.1, (z.1.2.1, ()))) = secOf s) ?_ K ((s, (0, (0, ()))), ((s, 0), ())) ⟨0, 0, rfl, by omega, by omega, by omega, by simp, by simp⟩ (by simp; omega)
  · obtain ⟨r, h1, h2⟩ := H
    simp only [wD_, wD_.tr, h1, za', zb', zc', zd', ze', zf', zg', zh', zi', zj', zk', zl', zm', zn', zo', zp', zq', zr', zs', zt', ← h2]
    cases r <;> rfl
  · rintro x rec ⟨i, n, rfl, hi, h0, h1, hd, hf⟩ ih
    by_cases h : i < s.length
    · have hg := getD_get s 0 h
      simp only [wD_.t0, za', zb', zc', zd', ze', zf', zg', zh', zi', zj', zk', zl', zm', zn', zo', zp', zq', zr', zs', zt', h]
      by_cases hl : (s.getD i 0).toNat < 128
      · have e := wdO s hl
        simp only [e]
        rw [wd3 (by omega) (by omega)]
        by_cases c : isDig (s.getD i 0) = true
        · have c' := c
          simp only [isDig, Bool.and_eq_true, decide_eq_true_eq] at c'
          have c2 : (48 : Int) ≤ ((s.getD i 0).toNat : Int) ∧ ((s.getD i 0).toNat : Int) ≤ 57 := by omega
          simp only [c2, and_self, if_true, za', zb', zc', zd', ze', zf', zg', zh', zi', zj', zk', zl', zm', zn', zo', zp', zq', zr', zs', zt', show ¬ ((s.getD i 0).toNat : Int) - 48 < 0 by omega]
          rw [wrap64 (x := n * 10) (by omega) (by omega), wrap64 (by omega) (by omega), weX _ _ (by omega)]
          simp only [za', zb', zc', zd', ze', zf', zg', zh', zi', zj', zk', zl', zm', zn', zo', zp', zq', zr', zs', zt']
          refine ih _ ⟨i + 1, _, rfl, by omega, ?_, ?_, ?_, ?_⟩ (by simp; omega)
          · split <;> omega
          · split <;> omega
          · rw [take_get s 0 h, List.all_append, hd]; simp only [List.all_cons, List.all_nil, c, Bool.and_true]
          · rw [← hf, drop_get s 0 h]
            simp only [secF, List.foldl_cons]
            congr 1
            simp only [Int.min_def]
            split <;> split <;> omega
        · have c2 : ¬ ((48 : Int) ≤ ((s.getD i 0).toNat : Int) ∧ ((s.getD i 0).toNat : Int) ≤ 57) := by
            intro h; apply c; simp only [isDig, Bool.and_eq_true, decide_eq_true_eq]; omega
          simp only [c2, if_false, za', zb', zc', zd', ze', zf', zg', zh', zi', zj', zk', zl', zm', zn', zo', zp', zq', zr', zs', zt', show (-1 : Int) < 0 by decide]
          refine ⟨_, rfl, ?_⟩
          have : s.all isDig = false := by
            rw [List.all_eq_false]
            exact ⟨s.getD i 0, by rw [hg]; exact List.getElem_mem h, c⟩
          simp only [secOf, this, if_false, Bool.false_eq_true]
      · obtain ⟨e1, e2⟩ := wed s (show 128 ≤ (s.getD i 0).toNat by omega)
        rw [wd3 (by omega) (by omega)]
        have c2 : ¬ ((48 : Int) ≤ ((Utf8.decode ⟨s.toArray⟩ i).1 : Int) ∧ ((Utf8.decode ⟨s.toArray⟩ i).1 : Int) ≤ 57) := by omega
        simp only [c2, if_false, za', zb', zc', zd', ze', zf', zg', zh', zi', zj', zk', zl', zm', zn', zo', zp', zq', zr', zs', zt', show (-1 : Int) < 0 by decide]
        refine ⟨_, rfl, ?_⟩
        have : s.all isDig = false := by
          rw [List.all_eq_false]
          refine ⟨s.getD i 0, by rw [hg]; exact List.getElem_mem h, ?_⟩
          simp only [isDig, Bool.and_eq_true, decide_eq_true_eq]; omega
        simp only [secOf, this, if_false, Bool.false_eq_true]
    · have h2 : i = s.length := by omega
      subst h2
      simp only [wD_.t0, za', zb', zc', zd', ze', zf', zg', zh', zi', zj', zk', zl', zm', zn', zo', zp', zq', zr', zs', zt', Nat.lt_irrefl]
      refine ⟨_, rfl, ?_⟩
      simp only [List.take_length] at hd
      simp only [drop_len, secF, List.foldl_nil] at hf
      simp only [secOf, hd, if_true, hf]
      rfl
end Go.Proofs.X
