/-
  A part of the proof. No condition.
-/
import Derived.Test.YtkfffmpnmoiikaaGreatDoorOPj
/- Chapter 07 (dates): how the program reads times. -/
set_option linter.unusedSimpArgs false
set_option linter.unusedVariables false
namespace Go.Proofs.X
open Go Go.Dp
def fT (t : Int) : List UInt8 := (wbL 20000 t).getD []
section
variable {t : Int} {w y m d h i j : Nat} {K : Nat}
theorem fT_in (p : PartsOf t w y m d h i j) : fT t = fmtS w y m d h i j := by simp only [fT, wc3 p, Option.getD_some]
/-! ### Reading: the program -/
def part (s : List UInt8) (a n : Nat) : List UInt8 := if a + n > s.length then [] else cut s a (a + n)
theorem wda (s : List UInt8) (a n : Nat) (h : a + n < 1000000000) : wbH K (a : Int) (n : Int) s = some (part s a n) := by
  have w1 := wrapAdd (n := a) n (by omega)
  by_cases c : a + n > s.length
  · simp only [wbH, w1, show ((a + n : Nat) : Int) > (s.length : Int) by omega, za', zb', zc', zd', ze', zf', zg', zh', zi', zj', zk', zl', zm', zn', zo', zp', zq', zr', zs', zt', part, c]
  · simp only [wbH, w1, show ¬ ((a + n : Nat) : Int) > (s.length : Int) by omega, za', zb', zc', zd', ze', zf', zg', zh', zi', zj', zk', zl', zm', zn', zo', zp', zq', zr', zs', zt', part, c, show ((a + n : Nat) : Int) ≤ (s.length : Int) by omega, show (a : Int) ≤ ((a + n : Nat) : Int) by omega]
end
end Go.Proofs.X
