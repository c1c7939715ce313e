/-
  A part of the proof. No condition.
-/
import Derived.Test.YtkfffmpnmoiikaaGreatDoorUPe
import Derived.Test.YtkfffmpnmoiikaaGreatDoorUP8
import Derived.Test.YtkfffmpnmoiikaaGreatDoorUP9
/- Chapter 07 (dates): numbers of two and four digits, names of months. -/
set_option linter.unusedSimpArgs false
set_option linter.unusedVariables false
namespace Go.Proofs.X
open Go Go.Dp
def dg (k : Nat) : UInt8 := UInt8.ofNat (48 + k)
def p1 (n : Nat) : List UInt8 := [dg n]
def p2 (n : Nat) : List UInt8 := [dg (n / 10), dg (n % 10)]
def p4 (n : Nat) : List UInt8 := [dg (n / 1000), dg (n / 100 % 10), dg (n / 10 % 10), dg (n % 10)]
theorem wdf {k : Nat} (h : k < 10) : (dg k).toNat = 48 + k := by simp [dg]; omega
theorem wdt {k : Nat} (h : k < 10) : isDig (dg k) = true := by simp only [isDig, wdf h, Bool.and_eq_true, decide_eq_true_eq]; omega
theorem wgL {n : Nat} (h : n < 10) : numR (p1 n) 9999 = ((n : Int), 0, ()) := by
  have e : numOf (p1 n) = n := by simp only [numOf, p1, List.foldl_cons, List.foldl_nil, wdf h]; omega
  simp only [numR, e]
  simp [p1, wdt h]; omega
theorem wg7 {n : Nat} (h : n < 100) : numR (p2 n) 9999 = ((n : Int), 0, ()) := by
  have h1 : n / 10 < 10 := by omega
  have h2 : n % 10 < 10 := by omega
  have e : numOf (p2 n) = n := by simp only [numOf, p2, List.foldl_cons, List.foldl_nil, wdf h1, wdf h2]; omega
  simp only [numR, e]
  simp [p2, wdt h1, wdt h2]; omega
theorem wha {n : Nat} (h : n < 10000) : numR (p4 n) 9999 = ((n : Int), 0, ()) := by
  have h1 : n / 1000 < 10 := by omega
  have h2 : n / 100 % 10 < 10 := by omega
  have h3 : n / 10 % 10 < 10 := by omega
  have h4 : n % 10 < 10 := by omega
  have e : numOf (p4 n) = n := by simp only [numOf, p4, List.foldl_cons, List.foldl_nil, wdf h1, wdf h2, wdf h3, wdf h4]; omega
  simp only [numR, e]
  simp [p4, wdt h1, wdt h2, wdt h3, wdt h4]; omega
theorem wgb {n : Nat} (h : 1000 ≤ n) (h2 : n < 10000) : Lib.decDigits n = p4 n := by
  rw [wc7 (by omega), wc7 (by omega), wc7 (by omega), wdg (by omega)]
  simp only [Nat.div_div_eq_div_mul, p4, dg]
  rfl
theorem wgF {n : Nat} (h : n < 10) : Lib.decDigits n = p1 n := wdg h
theorem wgG {n : Nat} (h : 10 ≤ n) (h2 : n < 100) : Lib.decDigits n = p2 n := by
  rw [wc7 (by omega), wdg (by omega)]; rfl
theorem wgs (K : Nat) : (List.range 100).all (fun n => wci K (n : Int) 2 == some (p2 n)) = true := by kernel_rfl
theorem wf3 (K : Nat) : (List.range 100).all (fun n => wv_ (K + 20) (n : Int) 2 == some (p2 n)) = true := by kernel_rfl
theorem weH {p : Nat → Bool} {N : Nat} (h : (List.range N).all p = true) {n : Nat} (hn : n < N) : p n = true := List.all_eq_true.1 h n (List.mem_range.2 hn)
theorem wdR {K n : Nat} (h : n < 100) : wci K (n : Int) 2 = some (p2 n) := eq_of_beq (weH (wgs K) h)
theorem wdy {K n : Nat} (h : n < 100) (hK : 20 ≤ K) : wv_ K (n : Int) 2 = some (p2 n) := by
  obtain ⟨j, rfl⟩ := Nat.exists_eq_add_of_le hK
  rw [Nat.add_comm]; exact eq_of_beq (weH (wf3 j) h)
theorem weq {K n : Nat} (h : 1000 ≤ n) (h2 : n < 10000) (hK : 40 ≤ K) : wv_ K (n : Int) 4 = some (p4 n) := by
  have e := wgb h h2
  rw [wfz (by omega) hK (by rw [e]; exact Int.le_refl _), e]
/-! Months. -/
def monS (m : Nat) : List UInt8 := wcG.getD m []
theorem wfJ (K : Nat) : (List.range 12).all (fun n => w8_ (K + 20) (monS n) == some ((n : Int) + 1)) = true := by kernel_rfl
theorem wfr (K : Nat) : (List.range 12).all (fun n => w6_ K ((n : Int) + 1) == some (monS n)) = true := by kernel_rfl
theorem wfp {K n : Nat} (h : n < 12) (hK : 20 ≤ K) : w8_ K (monS n) = some ((n : Int) + 1) := by
  obtain ⟨j, rfl⟩ := Nat.exists_eq_add_of_le hK
  rw [Nat.add_comm 20]; exact eq_of_beq (weH (wfJ j) h)
theorem wdE {K n : Nat} (h : n < 12) : w6_ K ((n : Int) + 1) = some (monS n) := eq_of_beq (weH (wfr K) h)
theorem mon3 {n : Nat} (h : n < 12) : ∃ a b c, monS n = [a, b, c] := by
  have : (List.range 12).all (fun n => (monS n).length == 3) = true := by decide +kernel
  have := eq_of_beq (weH this h)
  match hm : monS n, this with
  | [a, b, c], _ => exact ⟨a, b, c, rfl⟩
/-! Numbers with blanks ahead. -/
theorem wee {K : Nat} (s : List UInt8) (hs : s.length + 1 < K) : wi_ K s 32 = some (dw (fun b => b == 32) s) := by
  have H := loop_rule (l := wi_.l0 K) (wi_.t0 K) (fun _ _ => rfl) (fun x => x.1.2.1 = 32) (fun x => x.1.1.length) (fun x => ((dw (fun b => b == 32) x.1.1, ()), ())) ?_ K ((s, (32, ())), ()) rfl (by simp only; omega)
  · simp only [wi_, wi_.tr, H, za', zb', zc', zd', ze', zf', zg', zh', zi', zj', zk', zl', zm', zn', zo', zp', zq', zr', zs', zt']
  · rintro ⟨⟨s, c, u⟩, v⟩ rec hc ih
    simp only at hc
    subst hc
    cases s with
    | nil => simp only [wi_.t0, List.length_nil, za', zb', zc', zd', ze', zf', zg', zh', zi', zj', zk', zl', zm', zn', zo', zp', zq', zr', zs', zt', Int.lt_irrefl, gt_iff_lt, dw_nil]
    | cons a s =>
      have h1 : ((a :: s).length : Int) > 0 := by simp only [List.length_cons]; omega
      have h2 : (1 : Int) ≤ ((a :: s).length : Int) := by simp only [List.length_cons]; omega
      have e : (decide ((0 : Int) ≤ 0) && decide ((0 : Int) < ((a :: s).length : Int))) = true := by simp only [Int.le_refl, za', zb', zc', zd', ze', zf', zg', zh', zi', zj', zk', zl', zm', zn', zo', zp', zq', zr', zs', zt']; exact decide_eq_true h1
      have e2 : (List.getD (a :: s) 0 0) = a := rfl
      simp only [wi_.t0, h1, h2, e, za', zb', zc', zd', ze', zf', zg', zh', zi', zj', zk', zl', zm', zn', zo', zp', zq', zr', zs', zt', e2, Int.le_refl, Nat.le_refl, show (0 : Int) ≤ 1 by decide, show (0 : Nat) ≤ 1 by decide, cut_end, List.drop_succ_cons, List.drop_zero]
      rw [dw_cons]
      by_cases ha : a = 32
      · subst ha
        simp only [show (((32 : UInt8).toNat : Int) = 32) = True from eq_true rfl, za', zb', zc', zd', ze', zf', zg', zh', zi', zj', zk', zl', zm', zn', zo', zp', zq', zr', zs', zt', beq_self_eq_true]
        have := ih ((s, (32, ())), ()) rfl (by simp)
        exact this
      · have ha2 : ¬ (a.toNat : Int) = 32 := fun h => ha ((byte32 a).1 h)
        simp only [ha2, za', zb', zc', zd', ze', zf', zg', zh', zi', zj', zk', zl', zm', zn', zo', zp', zq', zr', zs', zt', show (a == 32) = false by simpa using ha]
theorem weK {K : Nat} (s : List UInt8) (hs : s.length + 1 < K) : wbW K s [32] = some (dw (fun b => b == 32) s) := by
  simp only [wbW]
  cases s with
  | nil => simp [dw]
  | cons a s =>
    have e1 : ((a :: s : List UInt8) == ([] : List UInt8)) = false := rfl
    have e2 : (([32] : List UInt8) == ([] : List UInt8)) = false := rfl
    have e3 : (([32] : List UInt8).length : Int) = 1 := rfl
    have e4 : List.getD ([32] : List UInt8) 0 0 = 32 := rfl
    have e5 : ((32 : UInt8).toNat : Int) = 32 := rfl
    have e6 : (decide (0 ≤ 0) && decide (0 < ([32] : List UInt8).length)) = true := rfl
    simp only [e1, e2, e3, e4, e5, za', zb', zc', zd', ze', zf', zg', zh', zi', zj', zk', zl', zm', zn', zo', zp', zq', zr', zs', zt', Int.le_refl, Nat.le_refl, show (0 : Int) < 1 by decide, show (32 : Int) < 128 by decide]
    rw [wee _ hs]
    rfl
def numB (s : List UInt8) : Int := let r := numR (dw (fun b => b == 32) s) 9999; if r.2.1 = 0 then r.1 else -1
theorem wfA {K : Nat} (s : List UInt8) (hs : s.length + 1 < K) (hK : 30 ≤ K) : wcr K s = some (numB s) := by
  simp only [wcr, weK s hs, wf9 _ 9999 hK, za', zb', zc', zd', ze', zf', zg', zh', zi', zj', zk', zl', zm', zn', zo', zp', zq', zr', zs', zt', numB]
  by_cases h : (numR (dw (fun b => b == 32) s) 9999).2.1 = 0
  · simp only [h, za', zb', zc', zd', ze', zf', zg', zh', zi', zj', zk', zl', zm', zn', zo', zp', zq', zr', zs', zt']
  · simp only [h, za', zb', zc', zd', ze', zf', zg', zh', zi', zj', zk', zl', zm', zn', zo', zp', zq', zr', zs', zt']
theorem dw_dg {k : Nat} (h : k < 10) (s : List UInt8) : dw (fun b => b == 32) (dg k :: s) = dg k :: s := by
  rw [dw_cons]
  have : (dg k == 32) = false := by
    have h2 := wdf h
    simp only [beq_eq_false_iff_ne, ne_eq]
    intro e; rw [e] at h2
    have : (32 : UInt8).toNat = 32 := rfl
    omega
  simp [this]
theorem wda {n : Nat} (h : n < 100) : numB (p2 n) = n := by
  simp only [numB, p2, dw_dg (show n / 10 < 10 by omega)]
  have := wg7 h
  simp only [p2] at this
  simp [this]
theorem wfO {n : Nat} (h : n < 10000) : numB (p4 n) = n := by
  simp only [numB, p4, dw_dg (show n / 1000 < 10 by omega)]
  have := wha h
  simp only [p4] at this
  simp [this]
theorem wgN {n : Nat} (h : n < 10) : numB (32 :: p1 n) = n := by
  have e : dw (fun b => b == 32) (32 :: p1 n) = p1 n := by
    rw [dw_cons, p1, dw_dg h]; rfl
  simp only [numB, e, wgL h]
  simp
end Go.Proofs.X
