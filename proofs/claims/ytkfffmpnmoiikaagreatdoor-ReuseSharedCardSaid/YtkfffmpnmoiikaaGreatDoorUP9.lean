/-
  A part of the proof. No condition.
-/
import Derived.Test.YtkfffmpnmoiikaaGreatDoorUP6
/- Chapter 02 (decimal): Number: the program's and the document's. No condition but on sizes. -/
set_option linter.unusedSimpArgs false
set_option linter.unusedVariables false
namespace Go.Proofs.X
open Go Go.Dp
def numR (s : List UInt8) (most : Int) : Int × Int × Unit :=
  if s.length < 1 ∨ 18 < s.length then (0, 5, ()) else if s.all isDig then (if (numOf s : Int) > most then (0, 3, ()) else (numOf s, 0, ())) else (0, 5, ())
theorem wf9 {K : Nat} (s : List UInt8) (most : Int) (hK : 30 ≤ K) : wck K s most = some (numR s most) := by
  simp only [wck, w0_, w0_.tr, numR]
  by_cases c1 : s.length < 1
  · obtain rfl : s = [] := List.eq_nil_of_length_eq_zero (by omega)
    rfl
  have hne : (s == ([] : List UInt8)) = false := by cases s <;> simp_all
  have h18 : ((18 : Nat) : Int) = 18 := rfl
  by_cases c2 : 18 < s.length
  · simp only [c1, c2, hne, za', zb', zc', zd', ze', zf', zg', zh', zi', zj', zk', zl', zm', zn', zo', zp', zq', zr', zs', zt', show (s.length : Int) > 18 by omega, or_true]
  simp only [c1, c2, hne, za', zb', zc', zd', ze', zf', zg', zh', zi', zj', zk', zl', zm', zn', zo', zp', zq', zr', zs', zt', show ¬ (s.length : Int) > 18 by omega, or_self]
  have H := idx_rule (l := w0_.l0 K) (w0_.t0 K) (fun _ _ => rfl) (s.takeWhile isDig).length
    (fun i => (((10 : Int), (most, ((numOf (s.take i) : Int), (0, ())))), ((s, i), ())))
    (fun _ => if s.all isDig then .inl ((most, ((numOf s : Int), ())), ((s, s.length), ())) else .inr ((0, (5, ())), ((s, (s.takeWhile isDig).length + (Utf8.decode ⟨s.toArray⟩ (s.takeWhile isDig).length).2), ()))) ?_ K 0 (by omega) (by have := (s.takeWhile_prefix isDig).length_le; omega)
  · have e : numOf (s.take 0) = 0 := by simp [numOf]
    simp only [e, Int.natCast_zero] at H
    rw [H]
    by_cases hall : s.all isDig = true
    · simp only [hall, za', zb', zc', zd', ze', zf', zg', zh', zi', zj', zk', zl', zm', zn', zo', zp', zq', zr', zs', zt']
      by_cases hm : (numOf s : Int) > most
      · simp only [hm, za', zb', zc', zd', ze', zf', zg', zh', zi', zj', zk', zl', zm', zn', zo', zp', zq', zr', zs', zt']
      · simp only [hm, za', zb', zc', zd', ze', zf', zg', zh', zi', zj', zk', zl', zm', zn', zo', zp', zq', zr', zs', zt']
    · simp only [hall, za', zb', zc', zd', ze', zf', zg', zh', zi', zj', zk', zl', zm', zn', zo', zp', zq', zr', zs', zt']
  · intro i rec hi ih
    have htl : (s.takeWhile isDig).length ≤ s.length := (s.takeWhile_prefix isDig).length_le
    by_cases hlt : i < (s.takeWhile isDig).length
    · have hlt2 : i < s.length := by omega
      have hd : isDig (s.getD i 0) = true := by
        have e1 : (s.takeWhile isDig).getD i 0 = s.getD i 0 := by
          rw [← take_takeWhile s isDig]
          simp only [List.getD_eq_getElem?_getD, List.getElem?_take]
          rw [if_pos hlt]
        rw [← e1, getD_get _ _ hlt]
        exact List.all_eq_true.1 (List.all_takeWhile (p := isDig) (l := s)) _ (List.getElem_mem hlt)
      have hd2 := hd
      simp only [isDig, Bool.and_eq_true, decide_eq_true_eq] at hd2
      have hdec := wdO s (i := i) (by omega)
      have hdg := wd3 (K := K) (r := ((s.getD i 0).toNat : Int)) (by omega) (by omega)
      rw [if_pos (by omega)] at hdg
      have hn : numOf (s.take i) < 10 ^ 17 := Nat.lt_of_lt_of_le (wgg _ (by
        refine List.all_eq_true.2 fun b hb => ?_
        have : b ∈ s.takeWhile isDig := by
          rw [← take_takeWhile s isDig]
          exact (List.take_subset_take_left s (by omega)) hb
        exact List.all_eq_true.1 (List.all_takeWhile (p := isDig) (l := s)) _ this)) (Nat.pow_le_pow_right (by decide) (by simp; omega))
      have ih' := ih hlt
      rw [take_get s 0 hlt2, wfs] at ih'
      simp only [w0_.t0, hlt2, za', zb', zc', zd', ze', zf', zg', zh', zi', zj', zk', zl', zm', zn', zo', zp', zq', zr', zs', zt', hdec, hdg, show ¬ ((s.getD i 0).toNat : Int) - 48 < 0 by omega]
      have p18 : (10 : Nat) ^ 17 = 100000000000000000 := by decide
      rw [p18] at hn
      rw [wrap64 (x := (numOf (s.take i) : Int) * 10) (by omega) (by omega), wrap64 (by omega) (by omega)]
      have e : (numOf (s.take i) : Int) * 10 + (((s.getD i 0).toNat : Int) - 48) = ((numOf (s.take i) * 10 + ((s.getD i 0).toNat - 48) : Nat) : Int) := by omega
      rw [e]
      exact ih'
    · have hi2 : i = (s.takeWhile isDig).length := by omega
      by_cases hend : i < s.length
      · have hd : isDig (s.getD i 0) = false := by
          have e1 := drop_takeWhile s isDig
          rw [← hi2, drop_get s 0 hend] at e1
          exact weT e1.symm
        have hnall : s.all isDig = false := by
          refine Bool.eq_false_iff.2 fun h => ?_
          have := List.all_eq_true.1 h (s.getD i 0) (by rw [getD_get _ _ hend]; exact List.getElem_mem hend)
          rw [hd] at this; cases this
        have hdg : ∃ n : Nat, (Utf8.decode ⟨s.toArray⟩ i).1 = n ∧ n < 3000000 ∧ ¬ (48 ≤ n ∧ n ≤ 57) := by
          refine ⟨_, rfl, ?_⟩
          have hd2 : ¬ (48 ≤ (s.getD i 0).toNat ∧ (s.getD i 0).toNat ≤ 57) := by
            intro h
            simp only [isDig, h.1, h.2, decide_true, Bool.and_self] at hd
            cases hd
          rcases Nat.lt_or_ge (s.getD i 0).toNat 128 with h | h
          · rw [wdO s h]; exact ⟨by simp only; omega, hd2⟩
          · have := wed s h; omega
        obtain ⟨n, hn, hn1, hn2⟩ := hdg
        have hdg := wd3 (K := K) (r := (n : Int)) (by omega) (by omega)
        rw [if_neg (by omega)] at hdg
        simp only [w0_.t0, hend, za', zb', zc', zd', ze', zf', zg', zh', zi', zj', zk', zl', zm', zn', zo', zp', zq', zr', zs', zt', hn, hdg, show (-1 : Int) < 0 by decide, hnall]
        rw [← hi2]
      · have hall : s.all isDig = true := by
          have h3 : s.takeWhile isDig = s := by
            rw [← take_takeWhile s isDig, ← hi2, List.take_of_length_le (by omega)]
          rw [← h3]; exact List.all_takeWhile
        simp only [w0_.t0, hend, za', zb', zc', zd', ze', zf', zg', zh', zi', zj', zk', zl', zm', zn', zo', zp', zq', zr', zs', zt', hall]
        have hi3 : i = s.length := by omega
        rw [hi3, List.take_length]
/-! The document's. -/
end Go.Proofs.X
