/-
  A part of the proof. No condition.
-/
import Derived.Test.YtkfffmpnmoiikaaGreatDoorOPg
import Derived.Test.YtkfffmpnmoiikaaGreatDoorOPa
import Derived.Test.YtkfffmpnmoiikaaGreatDoorOPb
/- Chapter 07 (dates): numbers of two and four digits, names of months. -/
set_option linter.unusedSimpArgs false
set_option linter.unusedVariables false
namespace Go.Proofs.X
open Go Go.Dp
def dg (k : Nat) : UInt8 := UInt8.ofNat (48 + k)
def p1 (n : Nat) : List UInt8 := [dg n]
def p2 (n : Nat) : List UInt8 := [dg (n / 10), dg (n % 10)]
def p4 (n : Nat) : List UInt8 := [dg (n / 1000), dg (n / 100 % 10), dg (n / 10 % 10), dg (n % 10)]
theorem wcl {k : Nat} (h : k < 10) : (dg k).toNat = 48 + k := by simp [dg]; omega
theorem wcw {k : Nat} (h : k < 10) : isDig (dg k) = true := by simp only [isDig, wcl h, Bool.and_eq_true, decide_eq_true_eq]; omega
theorem wfs {n : Nat} (h : n < 10) : numR (p1 n) 9999 = ((n : Int), 0, ()) := by
  have e : numOf (p1 n) = n := by simp only [numOf, p1, List.foldl_cons, List.foldl_nil, wcl h]; omega
  simp only [numR, e]
  simp [p1, wcw h]; omega
theorem wfC {n : Nat} (h : n < 100) : numR (p2 n) 9999 = ((n : Int), 0, ()) := by
  have h1 : n / 10 < 10 := by omega
  have h2 : n % 10 < 10 := by omega
  have e : numOf (p2 n) = n := by simp only [numOf, p2, List.foldl_cons, List.foldl_nil, wcl h1, wcl h2]; omega
  simp only [numR, e]
  simp [p2, wcw h1, wcw h2]; omega
theorem wfB {n : Nat} (h : n < 10000) : numR (p4 n) 9999 = ((n : Int), 0, ()) := by
  have h1 : n / 1000 < 10 := by omega
  have h2 : n / 100 % 10 < 10 := by omega
  have h3 : n / 10 % 10 < 10 := by omega
  have h4 : n % 10 < 10 := by omega
  have e : numOf (p4 n) = n := by simp only [numOf, p4, List.foldl_cons, List.foldl_nil, wcl h1, wcl h2, wcl h3, wcl h4]; omega
  simp only [numR, e]
  simp [p4, wcw h1, wcw h2, wcw h3, wcw h4]; omega
theorem wfn {n : Nat} (h : 1000 ≤ n) (h2 : n < 10000) : Lib.decDigits n = p4 n := by
  rw [wcf (by omega), wcf (by omega), wcf (by omega), wck (by omega)]
  simp only [Nat.div_div_eq_div_mul, p4, dg]
  rfl
theorem wfW {n : Nat} (h : n < 10) : Lib.decDigits n = p1 n := wck h
theorem wf0 {n : Nat} (h : 10 ≤ n) (h2 : n < 100) : Lib.decDigits n = p2 n := by
  rw [wcf (by omega), wck (by omega)]; rfl
theorem wfR (K : Nat) : (List.range 100).all (fun n => wbK K (n : Int) 2 == some (p2 n)) = true := by kernel_rfl
theorem wfp (K : Nat) : (List.range 100).all (fun n => wr_ (K + 20) (n : Int) 2 == some (p2 n)) = true := by kernel_rfl
theorem wdi {p : Nat → Bool} {N : Nat} (h : (List.range N).all p = true) {n : Nat} (hn : n < N) : p n = true := List.all_eq_true.1 h n (List.mem_range.2 hn)
theorem wc6 {K n : Nat} (h : n < 100) : wbK K (n : Int) 2 = some (p2 n) := eq_of_beq (wdi (wfR K) h)
theorem wcH {K n : Nat} (h : n < 100) (hK : 20 ≤ K) : wr_ K (n : Int) 2 = some (p2 n) := by
  obtain ⟨j, rfl⟩ := Nat.exists_eq_add_of_le hK
  rw [Nat.add_comm]; exact eq_of_beq (wdi (wfp j) h)
theorem wd2 {K n : Nat} (h : 1000 ≤ n) (h2 : n < 10000) (hK : 40 ≤ K) : wr_ K (n : Int) 4 = some (p4 n) := by
  have e := wfn h h2
  rw [we8 (by omega) hK (by rw [e]; exact Int.le_refl _), e]
/-! Months. -/
def monS (m : Nat) : List UInt8 := wb0.getD m []
theorem wfg (K : Nat) : (List.range 12).all (fun n => w6_ (K + 20) (monS n) == some ((n : Int) + 1)) = true := by kernel_rfl
theorem we7 (K : Nat) : (List.range 12).all (fun n => wW_ K ((n : Int) + 1) == some (monS n)) = true := by kernel_rfl
theorem weU {K n : Nat} (h : n < 12) (hK : 20 ≤ K) : w6_ K (monS n) = some ((n : Int) + 1) := by
  obtain ⟨j, rfl⟩ := Nat.exists_eq_add_of_le hK
  rw [Nat.add_comm 20]; exact eq_of_beq (wdi (wfg j) h)
theorem wcr {K n : Nat} (h : n < 12) : wW_ K ((n : Int) + 1) = some (monS n) := eq_of_beq (wdi (we7 K) h)
theorem mon3 {n : Nat} (h : n < 12) : ∃ a b c, monS n = [a, b, c] := by
  have : (List.range 12).all (fun n => (monS n).length == 3) = true := by decide +kernel
  have := eq_of_beq (wdi this h)
  match hm : monS n, this with
  | [a, b, c], _ => exact ⟨a, b, c, rfl⟩
theorem wez : (List.range 12).all (fun n => (List.range 12).all fun m => decide (n = m) || !(monS n == monS m)) = true := by decide +kernel
theorem wf4 {n m : Nat} (h : n < 12) (h2 : m < 12) (he : monS n = monS m) : n = m := by
  have := wdi (wdi wez h) h2
  rw [he] at this
  simpa using this
/-! Numbers with blanks ahead. -/
theorem wdr {K : Nat} (s : List UInt8) (hs : s.length + 1 < K) : wj_ K s 32 = some (dw (fun b => b == 32) s) := by
  have H := loop_rule (l := wj_.l0 K) (wj_.t0 K) (fun _ _ => rfl) (fun x => x.1.2.1 = 32) (fun x => x.1.1.length) (fun x => ((dw (fun b => b == 32) x.1.1, ()), ())) ?_ K ((s, (32, ())), ()) rfl (by simp only; omega)
  · simp only [wj_, wj_.tr, H, za', zb', zc', zd', ze', zf', zg', zh', zi', zj', zk', zl', zm', zn', zo', zp', zq', zr', zs', zt']
  · rintro ⟨⟨s, c, u⟩, v⟩ rec hc ih
    simp only at hc
    subst hc
    cases s with
    | nil => simp only [wj_.t0, List.length_nil, za', zb', zc', zd', ze', zf', zg', zh', zi', zj', zk', zl', zm', zn', zo', zp', zq', zr', zs', zt', Int.lt_irrefl, gt_iff_lt, dw_nil]
    | cons a s =>
      have h1 : ((a :: s).length : Int) > 0 := by simp only [List.length_cons]; omega
      have h2 : (1 : Int) ≤ ((a :: s).length : Int) := by simp only [List.length_cons]; omega
      have e : (decide ((0 : Int) ≤ 0) && decide ((0 : Int) < ((a :: s).length : Int))) = true := by simp only [Int.le_refl, za', zb', zc', zd', ze', zf', zg', zh', zi', zj', zk', zl', zm', zn', zo', zp', zq', zr', zs', zt']; exact decide_eq_true h1
      have e2 : (List.getD (a :: s) 0 0) = a := rfl
      simp only [wj_.t0, h1, h2, e, za', zb', zc', zd', ze', zf', zg', zh', zi', zj', zk', zl', zm', zn', zo', zp', zq', zr', zs', zt', e2, Int.le_refl, Nat.le_refl, show (0 : Int) ≤ 1 by decide, show (0 : Nat) ≤ 1 by decide, cut_end, List.drop_succ_cons, List.drop_zero]
      rw [dw_cons]
      by_cases ha : a = 32
      · subst ha
        simp only [show (((32 : UInt8).toNat : Int) = 32) = True from eq_true rfl, za', zb', zc', zd', ze', zf', zg', zh', zi', zj', zk', zl', zm', zn', zo', zp', zq', zr', zs', zt', beq_self_eq_true]
        have := ih ((s, (32, ())), ()) rfl (by simp)
        exact this
      · have ha2 : ¬ (a.toNat : Int) = 32 := fun h => ha ((byte32 a).1 h)
        simp only [ha2, za', zb', zc', zd', ze', zf', zg', zh', zi', zj', zk', zl', zm', zn', zo', zp', zq', zr', zs', zt', show (a == 32) = false by simpa using ha]
theorem wd4 {K : Nat} (s : List UInt8) (hs : s.length + 1 < K) : wbF K s [32] = some (dw (fun b => b == 32) s) := by
  simp only [wbF]
  cases s with
  | nil => simp [dw]
  | cons a s =>
    have e1 : ((a :: s : List UInt8) == ([] : List UInt8)) = false := rfl
    have e2 : (([32] : List UInt8) == ([] : List UInt8)) = false := rfl
    have e3 : (([32] : List UInt8).length : Int) = 1 := rfl
    have e4 : List.getD ([32] : List UInt8) 0 0 = 32 := rfl
    have e5 : ((32 : UInt8).toNat : Int) = 32 := rfl
    have e6 : (decide (0 ≤ 0) && decide (0 < ([32] : List UInt8).length)) = true := rfl
    simp only [e1, e2, e3, e4, e5, za', zb', zc', zd', ze', zf', zg', zh', zi', zj', zk', zl', zm', zn', zo', zp', zq', zr', zs', zt', Int.le_refl, Nat.le_refl, show (0 : Int) < 1 by decide, show (32 : Int) < 128 by decide]
    rw [wdr _ hs]
    rfl
def numB (s : List UInt8) : Int := let r := numR (dw (fun b => b == 32) s) 9999; if r.2.1 = 0 then r.1 else -1
theorem we9 {K : Nat} (s : List UInt8) (hs : s.length + 1 < K) (hK : 30 ≤ K) : wbO K s = some (numB s) := by
  simp only [wbO, wd4 s hs, wfo _ 9999 hK, za', zb', zc', zd', ze', zf', zg', zh', zi', zj', zk', zl', zm', zn', zo', zp', zq', zr', zs', zt', numB]
  by_cases h : (numR (dw (fun b => b == 32) s) 9999).2.1 = 0
  · simp only [h, za', zb', zc', zd', ze', zf', zg', zh', zi', zj', zk', zl', zm', zn', zo', zp', zq', zr', zs', zt']
  · simp only [h, za', zb', zc', zd', ze', zf', zg', zh', zi', zj', zk', zl', zm', zn', zo', zp', zq', zr', zs', zt']
theorem dw_dg {k : Nat} (h : k < 10) (s : List UInt8) : dw (fun b => b == 32) (dg k :: s) = dg k :: s := by
  rw [dw_cons]
  have : (dg k == 32) = false := by
    have h2 := wcl h
    simp only [beq_eq_false_iff_ne, ne_eq]
    intro e; rw [e] at h2
    have : (32 : UInt8).toNat = 32 := rfl
    omega
  simp [this]
theorem wci {n : Nat} (h : n < 100) : numB (p2 n) = n := by
  simp only [numB, p2, dw_dg (show n / 10 < 10 by omega)]
  have := wfC h
  simp only [p2] at this
  simp [this]
theorem wfE {n : Nat} (h : n < 10000) : numB (p4 n) = n := by
  simp only [numB, p4, dw_dg (show n / 1000 < 10 by omega)]
  have := wfB h
  simp only [p4] at this
  simp [this]
theorem wgd {n : Nat} (h : n < 10) : numB (32 :: p1 n) = n := by
  have e : dw (fun b => b == 32) (32 :: p1 n) = p1 n := by
    rw [dw_cons, p1, dw_dg h]; rfl
  simp only [numB, e, wfs h]
  simp
theorem wf7 {n : Nat} (h : n < 10) : numR (32 :: p1 n) 9999 = (0, 5, ()) := by
  have : isDig 32 = false := by decide
  simp [numR, p1, this]
end Go.Proofs.X
