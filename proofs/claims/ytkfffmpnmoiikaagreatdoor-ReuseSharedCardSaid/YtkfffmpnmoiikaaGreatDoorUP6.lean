/-
  A part of the proof. No condition.
-/
import Derived.Test.YtkfffmpnmoiikaaGreatDoorUG1
import Derived.Test.YtkfffmpnmoiikaaGreatDoorFc
import Derived.KernelRfl
/- Chapter 02 (decimal): digits, Plain. No condition but on sizes. -/
set_option linter.unusedSimpArgs false
set_option linter.unusedVariables false
namespace Go.Proofs.X
open Go Go.Dp
theorem wrap32 {x : Int} (h : -2147483648 ≤ x) (h' : x < 2147483648) : IntKind.wrap .i32 x = x := by
  have e : (2 ^ IntKind.bits .i32 : Int) = 4294967296 := by decide
  have e2 : (2 ^ (IntKind.bits .i32 - 1) : Int) = 2147483648 := by decide
  have e3 : IntKind.signed .i32 = true := rfl
  simp only [IntKind.wrap, e, e2, e3, Bool.true_and, decide_eq_true_eq]
  split <;> omega
theorem wrapU64 {x : Int} (h : 0 ≤ x) (h' : x < 18446744073709551616) : IntKind.wrap .u64 x = x := by
  have e : (2 ^ IntKind.bits .u64 : Int) = 18446744073709551616 := by decide
  have e3 : IntKind.signed .u64 = false := rfl
  simp only [IntKind.wrap, e, e3, Bool.false_and]
  simp
  omega
def isDig (b : UInt8) : Bool := decide (48 ≤ b.toNat) && decide (b.toNat ≤ 57)
def numOf (s : List UInt8) : Nat := s.foldl (fun n b => n * 10 + (b.toNat - 48)) 0
theorem wfs (s : List UInt8) (b : UInt8) : numOf (s ++ [b]) = numOf s * 10 + (b.toNat - 48) := by simp [numOf]
theorem wfU (s : List UInt8) : ∀ n, s.all isDig = true → s.foldl (fun n b => n * 10 + (b.toNat - 48)) n + 1 ≤ (n + 1) * 10 ^ s.length := by
  induction s with
  | nil => intro n _; simp
  | cons b s ih =>
    intro n h
    rw [List.all_cons, Bool.and_eq_true] at h
    have h1 := ih (n * 10 + (b.toNat - 48)) h.2
    have h2 := h.1
    simp only [isDig, Bool.and_eq_true, decide_eq_true_eq] at h2
    rw [List.foldl_cons, List.length_cons, Nat.pow_succ]
    refine Nat.le_trans h1 ?_
    have : n * 10 + (b.toNat - 48) + 1 ≤ (n + 1) * 10 := by omega
    calc (n * 10 + (b.toNat - 48) + 1) * 10 ^ s.length ≤ (n + 1) * 10 * 10 ^ s.length := Nat.mul_le_mul_right _ this
      _ = (n + 1) * (10 ^ s.length * 10) := by rw [Nat.mul_assoc, Nat.mul_comm 10]
theorem wgg (s : List UInt8) (h : s.all isDig = true) : numOf s < 10 ^ s.length := by
  have := wfU s 0 h
  simp only [Nat.zero_add, Nat.one_mul] at this
  exact this
theorem weT {α : Type} {p : α → Bool} : ∀ {l : List α} {a : α} {r : List α}, l.dropWhile p = a :: r → p a = false := by
  intro l
  induction l with
  | nil => intro a r h; simp at h
  | cons b l ih =>
    intro a r h
    rw [List.dropWhile_cons] at h
    split at h
    · exact ih h
    · rename_i hb; obtain ⟨rfl, _⟩ := List.cons.inj h; simpa using hb
theorem wd3 {K : Nat} {r : Int} (h0 : 0 ≤ r) (h1 : r < 3000000) : wb6 K r 10 = some (if 48 ≤ r ∧ r ≤ 57 then r - 48 else -1) := by
  by_cases c : 48 ≤ r ∧ r ≤ 57
  · simp only [wb6, show r ≥ 48 from c.1, c.2, za', zb', zc', zd', ze', zf', zg', zh', zi', zj', zk', zl', zm', zn', zo', zp', zq', zr', zs', zt', c.1, and_self]
    rw [wrap32 (by omega) (by omega), wrap64 (by omega) (by omega)]
    simp only [show ¬ r - 48 ≥ 10 by omega, za', zb', zc', zd', ze', zf', zg', zh', zi', zj', zk', zl', zm', zn', zo', zp', zq', zr', zs', zt']
  · simp only [c, if_false]
    have e : (bif decide (r ≥ 48) then (some ((r, ((10 : Int), ((-1), ((decide (r ≤ 57)), ())))), ()) : Option ((Int × (Int × (Int × (Bool × Unit)))) × Unit)) else (some ((r, ((10 : Int), ((-1), (false, ())))), ()))) = some ((r, ((10 : Int), ((-1), (false, ())))), ()) := by
      by_cases h : r ≥ 48
      · have : ¬ r ≤ 57 := by omega
        simp only [h, this, za', zb', zc', zd', ze', zf', zg', zh', zi', zj', zk', zl', zm', zn', zo', zp', zq', zr', zs', zt']
      · simp only [h, za', zb', zc', zd', ze', zf', zg', zh', zi', zj', zk', zl', zm', zn', zo', zp', zq', zr', zs', zt']
    simp only [wb6, e, za', zb', zc', zd', ze', zf', zg', zh', zi', zj', zk', zl', zm', zn', zo', zp', zq', zr', zs', zt']
    by_cases c2 : r ≥ 97
    · by_cases c3 : r ≤ 102
      · simp only [c2, c3, za', zb', zc', zd', ze', zf', zg', zh', zi', zj', zk', zl', zm', zn', zo', zp', zq', zr', zs', zt']
        rw [wrap32 (by omega) (by omega), wrap64 (x := r - 97) (by omega) (by omega), wrap64 (by omega) (by omega)]
        simp only [show r - 97 + 10 ≥ 10 by omega, za', zb', zc', zd', ze', zf', zg', zh', zi', zj', zk', zl', zm', zn', zo', zp', zq', zr', zs', zt']
      · simp only [c2, c3, za', zb', zc', zd', ze', zf', zg', zh', zi', zj', zk', zl', zm', zn', zo', zp', zq', zr', zs', zt', show r ≥ 65 by omega, show ¬ r ≤ 70 by omega, show ¬ (-1 : Int) ≥ 10 by omega]
    · simp only [c2, za', zb', zc', zd', ze', zf', zg', zh', zi', zj', zk', zl', zm', zn', zo', zp', zq', zr', zs', zt']
      by_cases c4 : r ≥ 65
      · by_cases c5 : r ≤ 70
        · simp only [c4, c5, za', zb', zc', zd', ze', zf', zg', zh', zi', zj', zk', zl', zm', zn', zo', zp', zq', zr', zs', zt']
          rw [wrap32 (by omega) (by omega), wrap64 (x := r - 65) (by omega) (by omega), wrap64 (by omega) (by omega)]
          simp only [show r - 65 + 10 ≥ 10 by omega, za', zb', zc', zd', ze', zf', zg', zh', zi', zj', zk', zl', zm', zn', zo', zp', zq', zr', zs', zt']
        · simp only [c4, c5, za', zb', zc', zd', ze', zf', zg', zh', zi', zj', zk', zl', zm', zn', zo', zp', zq', zr', zs', zt', show ¬ (-1 : Int) ≥ 10 by omega]
      · simp only [c4, za', zb', zc', zd', ze', zf', zg', zh', zi', zj', zk', zl', zm', zn', zo', zp', zq', zr', zs', zt', show ¬ (-1 : Int) ≥ 10 by omega]
theorem wdU (s : List UInt8) (i : Nat) : (⟨s.toArray⟩ : ByteArray).get! i = s.getD i 0 := by
  show s.toArray[i]! = _
  simp [List.getD_eq_getElem?_getD, getElem!_def]
  rfl
theorem wdO (s : List UInt8) {i : Nat} (h : (s.getD i 0).toNat < 128) : Utf8.decode ⟨s.toArray⟩ i = ((s.getD i 0).toNat, 1) := by
  simp only [Utf8.decode, wdU, Nat.add_zero]
  rw [if_pos h]
theorem wed (s : List UInt8) {i : Nat} (h : 128 ≤ (s.getD i 0).toNat) : 128 ≤ (Utf8.decode ⟨s.toArray⟩ i).1 ∧ (Utf8.decode ⟨s.toArray⟩ i).1 < 3000000 := by
  have hb := (s.getD i 0).toNat_lt
  simp only [Utf8.decode, wdU, Nat.add_zero]
  rw [if_neg (by omega)]
  have e : Utf8.runeError = 65533 := rfl
  split
  · split <;> simp only [e] <;> omega
  · split
    · split
      · rename_i h1 h2
        simp only [Bool.and_eq_true, decide_eq_true_eq] at h2
        constructor <;> omega
      · simp only [e]; omega
    · split
      · split
        · rename_i h1 h2
          simp only [Bool.and_eq_true, decide_eq_true_eq] at h2
          constructor <;> omega
        · simp only [e]; omega
      · simp only [e]; omega
theorem wdg {n : Nat} (h : n < 10) : Lib.decDigits n = [UInt8.ofNat (48 + n)] := by rw [Lib.decDigits, dif_pos h]
theorem wc7 {n : Nat} (h : ¬ n < 10) : Lib.decDigits n = Lib.decDigits (n / 10) ++ [UInt8.ofNat (48 + n % 10)] := by rw [Lib.decDigits, dif_neg h]
theorem wdb : 1000000000 ≤ maxRoom := by decide
theorem wd1 {K : Nat} (n : Nat) (hn : n < 9223372036854775808) : wbp K (n : Int) = some (Lib.decDigits n) := by
  simp only [wbp, itoa, itoaF, show decide (-9223372036854775808 ≤ (n : Int)) = true from decide_eq_true (by omega), show decide ((n : Int) ≤ 9223372036854775807) = true from decide_eq_true (by omega), za', zb', zc', zd', ze', zf', zg', zh', zi', zj', zk', zl', zm', zn', zo', zp', zq', zr', zs', zt', Lib.itoa, show ¬ (n : Int) < 0 by omega]
end Go.Proofs.X
