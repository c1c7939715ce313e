/-
  A part of the proof. No condition.
-/
import Derived.Test.YtikiloknlchppaaGreatDoorSG1
import Derived.Test.YtikiloknlchppaaGreatDoorFc
/- Chapter 07 (dates): days, civil dates, weekdays. No condition but on ranges. -/
set_option linter.unusedSimpArgs false
set_option linter.unusedVariables false
namespace Go.Proofs.X
open Go Go.Dp
/-! ### Leap years, months -/
def leapB (y : Int) : Bool := decide (y % 4 = 0) && (decide (y % 100 ≠ 0) || decide (y % 400 = 0))
def mdL (y m : Int) : Int := (153 * (m - 3 + (if m ≤ 2 then 12 else 0)) + 2) / 5 + (if m ≤ 2 then -306 else 59 + (if leapB y then 1 else 0))
def longL (y m : Int) : Int := if m = 2 then (if leapB y then 29 else 28) else if m = 4 ∨ m = 6 ∨ m = 9 ∨ m = 11 then 30 else 31
def ydL (y : Int) : Int := 365 * (y - 1) + (y - 1) / 4 - (y - 1) / 100 + (y - 1) / 400 - 719162
def cnt (y m d : Int) : Int := ydL y + mdL y m + d - 1
def valid (y m d : Int) : Prop := 1970 ≤ y ∧ y ≤ 9999 ∧ 1 ≤ m ∧ m ≤ 12 ∧ 1 ≤ d ∧ d ≤ longL y m
theorem months {m : Int} (h1 : 1 ≤ m) (h2 : m ≤ 12) : m = 1 ∨ m = 2 ∨ m = 3 ∨ m = 4 ∨ m = 5 ∨ m = 6 ∨ m = 7 ∨ m = 8 ∨ m = 9 ∨ m = 10 ∨ m = 11 ∨ m = 12 := by omega
theorem wcB (y m : Int) : 28 ≤ longL y m ∧ longL y m ≤ 31 := by simp only [longL]; split; (cases leapB y <;> simp); (split <;> simp)
/-! ### The document's dates -/
end Go.Proofs.X
