/-
  A part of the proof. No condition.
-/
import Derived.Test.YtkfffmpnmoiikaaGreatDoorUP6
/- Chapter 02 (decimal): a number's digits: the document's are the library's. -/
set_option linter.unusedSimpArgs false
set_option linter.unusedVariables false
namespace Go.Proofs.X
open Go Go.Dp
def hexL : List UInt8 := [48, 49, 50, 51, 52, 53, 54, 55, 56, 57, 97, 98, 99, 100, 101, 102]
theorem wgU : (List.range 10).all (fun n => cut hexL n (n + 1) == [UInt8.ofNat (48 + n)]) = true := by decide +kernel
theorem wgH {n : Nat} (h : n < 10) : cut hexL n (n + 1) = [UInt8.ofNat (48 + n)] := eq_of_beq (List.all_eq_true.1 wgU n (List.mem_range.2 h))
theorem weO {K : Nat} (n : Nat) (hn : n < 18446744073709551616) (hK : 40 ≤ K) : wt_ K (n : Int) 10 = some (Lib.decDigits n) := by
  have H := loop_ex (l := wt_.l0 K) (wt_.t0 K) (fun _ _ => rfl)
    (fun x => ∃ (m : Nat) (out : List UInt8) (k : Nat), x = (((m : Int), ((10 : Int), (hexL, (out, ())))), ()) ∧ m < 10 ^ k ∧ m < 18446744073709551616 ∧ out.length + k ≤ 30 ∧ Lib.decDigits m ++ out = Lib.decDigits n)
    (fun x => 30 - x.1.2.2.2.1.length) (fun r => ∃ (d : Nat) (out : List UInt8), r = (((d : Int), (hexL, (out, ()))), ()) ∧ d < 10 ∧ out.length ≤ 30 ∧ UInt8.ofNat (48 + d) :: out = Lib.decDigits n) ?_ K (((n : Int), ((10 : Int), (hexL, ([], ())))), ())
    ⟨n, [], 20, rfl, Nat.lt_of_lt_of_le hn (by decide), hn, by simp, by simp⟩ (by simp only [List.length_nil]; omega)
  · obtain ⟨r, hr, d, out, rfl, hd, hl, he⟩ := H
    have h16 : (hexL.length : Int) = 16 := rfl
    have hm := wdb
    have w : IntKind.wrap .u64 ((d : Int) + 1) = ((d + 1 : Nat) : Int) := by rw [wrapU64 (by omega) (by omega)]; rfl
    simp only [wt_, wt_.tr]
    change Option.bind (wt_.l0 K K (((n : Int), ((10 : Int), (hexL, ([], ())))), ())) _ = _
    simp only [hr, za', zb', zc', zd', ze', zf', zg', zh', zi', zj', zk', zl', zm', zn', zo', zp', zq', zr', zs', zt', w, wgH hd, h16, show (0 : Int) ≤ ((d + 1 : Nat) : Int) by omega, show ((d + 1 : Nat) : Int) ≤ 16 by omega, show (d : Int) ≤ ((d + 1 : Nat) : Int) by omega, show (0 : Int) ≤ (d : Int) by omega, List.length_singleton, show 1 + out.length ≤ maxRoom by omega, List.singleton_append, he]
  · rintro x rec ⟨m, out, k, rfl, h1, h2, h3, h4⟩ ih
    by_cases hm : m < 10
    · rw [wdg hm] at h4
      simp only [wt_.t0, show ¬ (m : Int) ≥ 10 by omega, za', zb', zc', zd', ze', zf', zg', zh', zi', zj', zk', zl', zm', zn', zo', zp', zq', zr', zs', zt']
      exact ⟨_, rfl, m, out, rfl, hm, by omega, h4⟩
    · rw [wc7 hm] at h4
      have h16 : (hexL.length : Int) = 16 := rfl
      have hr := wdb
      have e1 : Int.tmod (m : Int) 10 = ((m % 10 : Nat) : Int) := by rw [Int.tmod_eq_emod_of_nonneg (by omega)]; omega
      have e2 : Int.tdiv (m : Int) 10 = ((m / 10 : Nat) : Int) := by rw [Int.tdiv_eq_ediv_of_nonneg (by omega)]; omega
      have w : IntKind.wrap .u64 (((m % 10 : Nat) : Int) + 1) = ((m % 10 + 1 : Nat) : Int) := by rw [wrapU64 (by omega) (by omega)]; rfl
      have w2 : IntKind.wrap .u64 ((m / 10 : Nat) : Int) = ((m / 10 : Nat) : Int) := wrapU64 (by omega) (by omega)
      have hk : k ≠ 0 := by rintro rfl; simp at h1; omega
      obtain ⟨j, rfl⟩ := Nat.exists_eq_succ_of_ne_zero hk
      simp only [wt_.t0, show (m : Int) ≥ 10 by omega, za', zb', zc', zd', ze', zf', zg', zh', zi', zj', zk', zl', zm', zn', zo', zp', zq', zr', zs', zt', show ¬ (10 : Int) = 0 by decide, e1, e2, w, w2, wgH (show m % 10 < 10 by omega), h16, show (0 : Int) ≤ ((m % 10 + 1 : Nat) : Int) by omega, show ((m % 10 + 1 : Nat) : Int) ≤ 16 by omega, show ((m % 10 : Nat) : Int) ≤ ((m % 10 + 1 : Nat) : Int) by omega, show (0 : Int) ≤ ((m % 10 : Nat) : Int) by omega, List.length_singleton, show 1 + out.length ≤ maxRoom by omega, List.singleton_append]
      refine ih _ ⟨m / 10, UInt8.ofNat (48 + m % 10) :: out, j, rfl, by rw [Nat.pow_succ] at h1; omega, by omega, by simp only [List.length_cons]; omega, by simpa using h4⟩ (by simp only [List.length_cons]; omega)
theorem wdA {K : Nat} (n : Nat) (hn : n < 9223372036854775808) (hK : 40 ≤ K) : wbm K (n : Int) = some (Lib.decDigits n) := by
  simp only [wbm, show ¬ (n : Int) < 0 by omega, za', zb', zc', zd', ze', zf', zg', zh', zi', zj', zk', zl', zm', zn', zo', zp', zq', zr', zs', zt']
  rw [wrapU64 (by omega) (by omega), weO n (by omega) hK]
  rfl
theorem wfz {K : Nat} {n : Nat} {w : Int} (hn : n < 9223372036854775808) (hK : 40 ≤ K) (h : w ≤ ((Lib.decDigits n).length : Int)) : wv_ K (n : Int) w = some (Lib.decDigits n) := by
  simp only [wv_, wv_.tr, wdA n hn hK, za', zb', zc', zd', ze', zf', zg', zh', zi', zj', zk', zl', zm', zn', zo', zp', zq', zr', zs', zt', show ¬ (n : Int) < 0 by omega]
  by_cases h9 : w > 9
  · simp only [h9, za', zb', zc', zd', ze', zf', zg', zh', zi', zj', zk', zl', zm', zn', zo', zp', zq', zr', zs', zt']
  · simp only [h9, za', zb', zc', zd', ze', zf', zg', zh', zi', zj', zk', zl', zm', zn', zo', zp', zq', zr', zs', zt']
    obtain ⟨j, rfl⟩ := Nat.exists_eq_add_of_le (show 1 ≤ K by omega)
    rw [Nat.add_comm]
    simp only [wv_.l0, wv_.t0, show ¬ ((Lib.decDigits n).length : Int) < w by omega, za', zb', zc', zd', ze', zf', zg', zh', zi', zj', zk', zl', zm', zn', zo', zp', zq', zr', zs', zt']
end Go.Proofs.X
