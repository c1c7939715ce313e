/-
  A part of the proof. No condition.
-/
import Derived.Test.YtkfffmpnmoiikaaGreatDoorOPg
import Derived.Test.YtkfffmpnmoiikaaGreatDoorOPa
import Derived.Test.YtkfffmpnmoiikaaGreatDoorOPb
/- Chapter 07 (dates): numbers of two and four digits, names of months. -/
set_option linter.unusedSimpArgs false
set_option linter.unusedVariables false
namespace Go.Proofs.X
open Go Go.Dp
def dg (k : Nat) : UInt8 := UInt8.ofNat (48 + k)
def p1 (n : Nat) : List UInt8 := [dg n]
def p2 (n : Nat) : List UInt8 := [dg (n / 10), dg (n % 10)]
def p4 (n : Nat) : List UInt8 := [dg (n / 1000), dg (n / 100 % 10), dg (n / 10 % 10), dg (n % 10)]
theorem wey {n : Nat} (h : 1000 ≤ n) (h2 : n < 10000) : Lib.decDigits n = p4 n := by
  rw [wcg (by omega), wcg (by omega), wcg (by omega), wcj (by omega)]
  simp only [Nat.div_div_eq_div_mul, p4, dg]
  rfl
theorem weU {n : Nat} (h : n < 10) : Lib.decDigits n = p1 n := wcj h
theorem weW {n : Nat} (h : 10 ≤ n) (h2 : n < 100) : Lib.decDigits n = p2 n := by
  rw [wcg (by omega), wcj (by omega)]; rfl
theorem weP (K : Nat) : (List.range 100).all (fun n => wbJ K (n : Int) 2 == some (p2 n)) = true := by kernel_rfl
theorem weE (K : Nat) : (List.range 100).all (fun n => wq_ (K + 20) (n : Int) 2 == some (p2 n)) = true := by kernel_rfl
theorem wef {p : Nat → Bool} {N : Nat} (h : (List.range N).all p = true) {n : Nat} (hn : n < N) : p n = true := List.all_eq_true.1 h n (List.mem_range.2 hn)
theorem wcQ {K n : Nat} (h : n < 100) : wbJ K (n : Int) 2 = some (p2 n) := eq_of_beq (wef (weP K) h)
theorem wcw {K n : Nat} (h : n < 100) (hK : 20 ≤ K) : wq_ K (n : Int) 2 = some (p2 n) := by
  obtain ⟨j, rfl⟩ := Nat.exists_eq_add_of_le hK
  rw [Nat.add_comm]; exact eq_of_beq (wef (weE j) h)
theorem wdB {K n : Nat} (h : 1000 ≤ n) (h2 : n < 10000) (hK : 40 ≤ K) : wq_ K (n : Int) 4 = some (p4 n) := by
  have e := wey h h2
  rw [wel (by omega) hK (by rw [e]; exact Int.le_refl _), e]
/-! Months. -/
def monS (m : Nat) : List UInt8 := wb6.getD m []
theorem wen (K : Nat) : (List.range 12).all (fun n => w1_ K ((n : Int) + 1) == some (monS n)) = true := by kernel_rfl
theorem wcI {K n : Nat} (h : n < 12) : w1_ K ((n : Int) + 1) = some (monS n) := eq_of_beq (wef (wen K) h)
theorem mon3 {n : Nat} (h : n < 12) : ∃ a b c, monS n = [a, b, c] := by
  have : (List.range 12).all (fun n => (monS n).length == 3) = true := by decide +kernel
  have := eq_of_beq (wef this h)
  match hm : monS n, this with
  | [a, b, c], _ => exact ⟨a, b, c, rfl⟩
/-! Numbers with blanks ahead. -/
end Go.Proofs.X
