/-
  A part of the proof. No condition.
-/
import Derived.Test.YtkfffmpnmoiikaaGreatDoorOG1
import Derived.Test.YtkfffmpnmoiikaaGreatDoorFc
import Derived.KernelRfl
/- Chapter 02 (decimal): digits, Plain. No condition but on sizes. -/
set_option linter.unusedSimpArgs false
set_option linter.unusedVariables false
namespace Go.Proofs.X
open Go Go.Dp
theorem wrapU64 {x : Int} (h : 0 ≤ x) (h' : x < 18446744073709551616) : IntKind.wrap .u64 x = x := by
  have e : (2 ^ IntKind.bits .u64 : Int) = 18446744073709551616 := by decide
  have e3 : IntKind.signed .u64 = false := rfl
  simp only [IntKind.wrap, e, e3, Bool.false_and]
  simp
  omega
theorem wcj {n : Nat} (h : n < 10) : Lib.decDigits n = [UInt8.ofNat (48 + n)] := by rw [Lib.decDigits, dif_pos h]
theorem wcg {n : Nat} (h : ¬ n < 10) : Lib.decDigits n = Lib.decDigits (n / 10) ++ [UInt8.ofNat (48 + n % 10)] := by rw [Lib.decDigits, dif_neg h]
theorem wci : 1000000000 ≤ maxRoom := by decide
theorem wc1 {K : Nat} (n : Nat) (hn : n < 9223372036854775808) : wbh K (n : Int) = some (Lib.decDigits n) := by
  simp only [wbh, itoa, itoaF, show decide (-9223372036854775808 ≤ (n : Int)) = true from decide_eq_true (by omega), show decide ((n : Int) ≤ 9223372036854775807) = true from decide_eq_true (by omega), za', zb', zc', zd', ze', zf', zg', zh', zi', zj', zk', zl', zm', zn', zo', zp', zq', zr', zs', zt', Lib.itoa, show ¬ (n : Int) < 0 by omega]
end Go.Proofs.X
