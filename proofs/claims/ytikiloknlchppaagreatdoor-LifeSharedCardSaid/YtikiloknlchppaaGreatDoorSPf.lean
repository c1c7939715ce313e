/-
  A part of the proof. No condition.
-/
import Derived.Test.YtikiloknlchppaaGreatDoorSPe
import Derived.Test.YtikiloknlchppaaGreatDoorSP8
import Derived.Test.YtikiloknlchppaaGreatDoorSP9
/- Chapter 07 (dates): numbers of two and four digits, names of months. -/
set_option linter.unusedSimpArgs false
set_option linter.unusedVariables false
namespace Go.Proofs.X
open Go Go.Dp
def dg (k : Nat) : UInt8 := UInt8.ofNat (48 + k)
def p1 (n : Nat) : List UInt8 := [dg n]
def p2 (n : Nat) : List UInt8 := [dg (n / 10), dg (n % 10)]
def p4 (n : Nat) : List UInt8 := [dg (n / 1000), dg (n / 100 % 10), dg (n / 10 % 10), dg (n % 10)]
theorem wcX {n : Nat} (h : 1000 ≤ n) (h2 : n < 10000) : Lib.decDigits n = p4 n := by
  rw [wbq (by omega), wbq (by omega), wbq (by omega), wbt (by omega)]
  simp only [Nat.div_div_eq_div_mul, p4, dg]
  rfl
theorem wcV {n : Nat} (h : n < 10) : Lib.decDigits n = p1 n := wbt h
theorem wcZ {n : Nat} (h : 10 ≤ n) (h2 : n < 100) : Lib.decDigits n = p2 n := by
  rw [wbq (by omega), wbt (by omega)]; rfl
theorem wcE (K : Nat) : (List.range 100).all (fun n => wJ_ K (n : Int) 2 == some (p2 n)) = true := by kernel_rfl
theorem wcO {p : Nat → Bool} {N : Nat} (h : (List.range N).all p = true) {n : Nat} (hn : n < N) : p n = true := List.all_eq_true.1 h n (List.mem_range.2 hn)
theorem wb6 {K n : Nat} (h : n < 100) : wJ_ K (n : Int) 2 = some (p2 n) := eq_of_beq (wcO (wcE K) h)
/-! Months. -/
def monS (m : Nat) : List UInt8 := wbm.getD m []
theorem mon3 {n : Nat} (h : n < 12) : ∃ a b c, monS n = [a, b, c] := by
  have : (List.range 12).all (fun n => (monS n).length == 3) = true := by decide +kernel
  have := eq_of_beq (wcO this h)
  match hm : monS n, this with
  | [a, b, c], _ => exact ⟨a, b, c, rfl⟩
/-! Numbers with blanks ahead. -/
end Go.Proofs.X
