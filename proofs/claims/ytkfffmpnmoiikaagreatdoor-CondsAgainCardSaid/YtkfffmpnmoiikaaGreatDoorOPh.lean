/-
  A part of the proof. No condition.
-/
import Derived.Test.YtkfffmpnmoiikaaGreatDoorOPg
import Derived.Test.YtkfffmpnmoiikaaGreatDoorOPa
import Derived.Test.YtkfffmpnmoiikaaGreatDoorOPb
/- Chapter 07 (dates): numbers of two and four digits, names of months. -/
set_option linter.unusedSimpArgs false
set_option linter.unusedVariables false
namespace Go.Proofs.X
open Go Go.Dp
def dg (k : Nat) : UInt8 := UInt8.ofNat (48 + k)
def p1 (n : Nat) : List UInt8 := [dg n]
def p2 (n : Nat) : List UInt8 := [dg (n / 10), dg (n % 10)]
def p4 (n : Nat) : List UInt8 := [dg (n / 1000), dg (n / 100 % 10), dg (n / 10 % 10), dg (n % 10)]
theorem wd4 {n : Nat} (h : 1000 ≤ n) (h2 : n < 10000) : Lib.decDigits n = p4 n := by
  rw [wcf (by omega), wcf (by omega), wcf (by omega), wci (by omega)]
  simp only [Nat.div_div_eq_div_mul, p4, dg]
  rfl
theorem wel {n : Nat} (h : n < 10) : Lib.decDigits n = p1 n := wci h
theorem wek {n : Nat} (h : 10 ≤ n) (h2 : n < 100) : Lib.decDigits n = p2 n := by
  rw [wcf (by omega), wci (by omega)]; rfl
theorem wd9 (K : Nat) : (List.range 100).all (fun n => wbJ K (n : Int) 2 == some (p2 n)) = true := by kernel_rfl
theorem wd2 (K : Nat) : (List.range 100).all (fun n => wp_ (K + 20) (n : Int) 2 == some (p2 n)) = true := by kernel_rfl
theorem wdz {p : Nat → Bool} {N : Nat} (h : (List.range N).all p = true) {n : Nat} (hn : n < N) : p n = true := List.all_eq_true.1 h n (List.mem_range.2 hn)
theorem wcy {K n : Nat} (h : n < 100) : wbJ K (n : Int) 2 = some (p2 n) := eq_of_beq (wdz (wd9 K) h)
theorem wcp {K n : Nat} (h : n < 100) (hK : 20 ≤ K) : wp_ K (n : Int) 2 = some (p2 n) := by
  obtain ⟨j, rfl⟩ := Nat.exists_eq_add_of_le hK
  rw [Nat.add_comm]; exact eq_of_beq (wdz (wd2 j) h)
theorem wc8 {K n : Nat} (h : 1000 ≤ n) (h2 : n < 10000) (hK : 40 ≤ K) : wp_ K (n : Int) 4 = some (p4 n) := by
  have e := wd4 h h2
  rw [wdD (by omega) hK (by rw [e]; exact Int.le_refl _), e]
/-! Months. -/
def monS (m : Nat) : List UInt8 := wb3.getD m []
theorem wdE (K : Nat) : (List.range 12).all (fun n => wY_ K ((n : Int) + 1) == some (monS n)) = true := by kernel_rfl
theorem wcx {K n : Nat} (h : n < 12) : wY_ K ((n : Int) + 1) = some (monS n) := eq_of_beq (wdz (wdE K) h)
theorem mon3 {n : Nat} (h : n < 12) : ∃ a b c, monS n = [a, b, c] := by
  have : (List.range 12).all (fun n => (monS n).length == 3) = true := by decide +kernel
  have := eq_of_beq (wdz this h)
  match hm : monS n, this with
  | [a, b, c], _ => exact ⟨a, b, c, rfl⟩
/-! Numbers with blanks ahead. -/
end Go.Proofs.X
