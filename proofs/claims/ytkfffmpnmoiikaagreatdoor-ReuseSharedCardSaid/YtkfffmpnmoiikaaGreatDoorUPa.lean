/-
  A part of the proof. No condition.
-/
import Derived.Test.YtkfffmpnmoiikaaGreatDoorUP5
import Derived.Test.YtkfffmpnmoiikaaGreatDoorUP7
/- Chapter 13 (control): what each printed function of the program gives. No condition but on sizes. -/
set_option linter.unusedSimpArgs false
set_option linter.unusedVariables false
namespace Go.Proofs.X
open Go Go.Dp
abbrev Ctl := Bool × Bool × Bool × Bool × Bool × Bool × Int × Int × Int × Unit
theorem natBeq (a b : Nat) : Nat.beq a b = decide (a = b) := by
  cases h : Nat.beq a b with
  | true => have := Nat.eq_of_beq_eq_true h; subst this; simp
  | false => have := Nat.ne_of_beq_eq_false h; simp [this]
def leastI (a b : Int) : Int := if a < 0 ∧ b < 0 then -1 else if a < 0 then b else if b < 0 then a else if b < a then b else a
theorem wcW (K : Nat) (a b : Int) : wcp K a b = some (leastI a b) := by
  by_cases h1 : a < 0 <;> by_cases h2 : b < 0 <;> by_cases h3 : b < a <;> simp only [wcp, za', zb', zc', zd', ze', zf', zg', zh', zi', zj', zk', zl', zm', zn', zo', zp', zq', zr', zs', zt', h1, h2, h3, leastI, and_self, and_true, and_false, true_and, false_and]
def secV (v : List UInt8) (odd : Int) : Int := if (secOf v).2.1 then (secOf v).1 else odd
theorem wdp {K : Nat} {v : List UInt8} (odd : Int) (hv : v.length < 1000000) (hK : 1000000 + 100 ≤ K) : wbS K v odd = some (secV v odd) := by
  simp only [wbS, wdl hv (show v.length + 2 < K by omega), za', zb', zc', zd', ze', zf', zg', zh', zi', zj', zk', zl', zm', zn', zo', zp', zq', zr', zs', zt', secV]
  cases (secOf v).2.1 <;> simp only [za', zb', zc', zd', ze', zf', zg', zh', zi', zj', zk', zl', zm', zn', zo', zp', zq', zr', zs', zt']
def act (j : Nat) (v : List UInt8) (c : Ctl) : Ctl :=
  match j with
  | 0 => (true, c.2)
  | 1 => (c.1, true, c.2.2)
  | 2 => (c.1, c.2.1, true, c.2.2.2)
  | 3 => (c.1, c.2.1, c.2.2.1, true, c.2.2.2.2)
  | 4 => (c.1, c.2.1, c.2.2.1, c.2.2.2.1, true, c.2.2.2.2.2)
  | 5 => (c.1, c.2.1, c.2.2.1, c.2.2.2.1, true, c.2.2.2.2.2)
  | 6 => (c.1, c.2.1, c.2.2.1, c.2.2.2.1, c.2.2.2.2.1, true, c.2.2.2.2.2.2)
  | 7 => (c.1, c.2.1, c.2.2.1, c.2.2.2.1, c.2.2.2.2.1, c.2.2.2.2.2.1, leastI c.2.2.2.2.2.2.1 (secV v 0), c.2.2.2.2.2.2.2)
  | 8 => (c.1, c.2.1, c.2.2.1, c.2.2.2.1, c.2.2.2.2.1, c.2.2.2.2.2.1, c.2.2.2.2.2.2.1, leastI c.2.2.2.2.2.2.2.1 (secV v 0), c.2.2.2.2.2.2.2.2)
  | _ => (c.1, c.2.1, c.2.2.1, c.2.2.2.1, c.2.2.2.2.1, c.2.2.2.2.2.1, c.2.2.2.2.2.2.1, c.2.2.2.2.2.2.2.1, (if secV v 2147483648 > c.2.2.2.2.2.2.2.2.1 then secV v 2147483648 else c.2.2.2.2.2.2.2.2.1), ())
def nm0 : List UInt8 := [110, 111, 45, 115, 116, 111, 114, 101]
def nm1 : List UInt8 := [110, 111, 45, 99, 97, 99, 104, 101]
def nm2 : List UInt8 := [112, 114, 105, 118, 97, 116, 101]
def nm3 : List UInt8 := [112, 117, 98, 108, 105, 99]
def nm4 : List UInt8 := [109, 117, 115, 116, 45, 114, 101, 118, 97, 108, 105, 100, 97, 116, 101]
def nm5 : List UInt8 := [112, 114, 111, 120, 121, 45, 114, 101, 118, 97, 108, 105, 100, 97, 116, 101]
def nm6 : List UInt8 := [111, 110, 108, 121, 45, 105, 102, 45, 99, 97, 99, 104, 101, 100]
def nm7 : List UInt8 := [109, 97, 120, 45, 97, 103, 101]
def nm8 : List UInt8 := [115, 45, 109, 97, 120, 97, 103, 101]
def nm9 : List UInt8 := [109, 105, 110, 45, 102, 114, 101, 115, 104]
def dirs : List (List UInt8 × Nat × Unit) := [(nm0, 0, ()), (nm1, 1, ()), (nm2, 2, ()), (nm3, 3, ()), (nm4, 4, ()), (nm5, 5, ()), (nm6, 6, ()), (nm7, 7, ()), (nm8, 8, ()), (nm9, 9, ())]
theorem wey (K : Nat) : wbD K = some dirs := rfl
theorem dir0 : dirs.getD 0 ([], 0, ()) = (nm0, 0, ()) := rfl
theorem dir1 : dirs.getD 1 ([], 0, ()) = (nm1, 1, ()) := rfl
theorem dir2 : dirs.getD 2 ([], 0, ()) = (nm2, 2, ()) := rfl
theorem dir3 : dirs.getD 3 ([], 0, ()) = (nm3, 3, ()) := rfl
theorem dir4 : dirs.getD 4 ([], 0, ()) = (nm4, 4, ()) := rfl
theorem dir5 : dirs.getD 5 ([], 0, ()) = (nm5, 5, ()) := rfl
theorem dir6 : dirs.getD 6 ([], 0, ()) = (nm6, 6, ()) := rfl
theorem dir7 : dirs.getD 7 ([], 0, ()) = (nm7, 7, ()) := rfl
theorem dir8 : dirs.getD 8 ([], 0, ()) = (nm8, 8, ()) := rfl
theorem dir9 : dirs.getD 9 ([], 0, ()) = (nm9, 9, ()) := rfl
def eff (name v : List UInt8) (i : Nat) (c : Ctl) : Ctl := if ((dirs.getD i ([], 0, ())).1 == name) then act (dirs.getD i ([], 0, ())).2.1 v c else c
theorem eff0 (name v : List UInt8) (c : Ctl) : eff name v 0 c = ((c.1 || (nm0 == name)), c.2) := by
  simp only [eff, dir0]
  rcases Bool.eq_false_or_eq_true (nm0 == name) with hb | hb <;> simp [act, hb]
theorem eff1 (name v : List UInt8) (c : Ctl) : eff name v 1 c = (c.1, (c.2.1 || (nm1 == name)), c.2.2) := by
  simp only [eff, dir1]
  rcases Bool.eq_false_or_eq_true (nm1 == name) with hb | hb <;> simp [act, hb]
theorem eff2 (name v : List UInt8) (c : Ctl) : eff name v 2 c = (c.1, c.2.1, (c.2.2.1 || (nm2 == name)), c.2.2.2) := by
  simp only [eff, dir2]
  rcases Bool.eq_false_or_eq_true (nm2 == name) with hb | hb <;> simp [act, hb]
theorem eff3 (name v : List UInt8) (c : Ctl) : eff name v 3 c = (c.1, c.2.1, c.2.2.1, (c.2.2.2.1 || (nm3 == name)), c.2.2.2.2) := by
  simp only [eff, dir3]
  rcases Bool.eq_false_or_eq_true (nm3 == name) with hb | hb <;> simp [act, hb]
theorem eff4 (name v : List UInt8) (c : Ctl) : eff name v 4 c = (c.1, c.2.1, c.2.2.1, c.2.2.2.1, (c.2.2.2.2.1 || (nm4 == name)), c.2.2.2.2.2) := by
  simp only [eff, dir4]
  rcases Bool.eq_false_or_eq_true (nm4 == name) with hb | hb <;> simp [act, hb]
theorem eff5 (name v : List UInt8) (c : Ctl) : eff name v 5 c = (c.1, c.2.1, c.2.2.1, c.2.2.2.1, (c.2.2.2.2.1 || (nm5 == name)), c.2.2.2.2.2) := by
  simp only [eff, dir5]
  rcases Bool.eq_false_or_eq_true (nm5 == name) with hb | hb <;> simp [act, hb]
theorem eff6 (name v : List UInt8) (c : Ctl) : eff name v 6 c = (c.1, c.2.1, c.2.2.1, c.2.2.2.1, c.2.2.2.2.1, (c.2.2.2.2.2.1 || (nm6 == name)), c.2.2.2.2.2.2) := by
  simp only [eff, dir6]
  rcases Bool.eq_false_or_eq_true (nm6 == name) with hb | hb <;> simp [act, hb]
theorem eff7 (name v : List UInt8) (c : Ctl) : eff name v 7 c = (c.1, c.2.1, c.2.2.1, c.2.2.2.1, c.2.2.2.2.1, c.2.2.2.2.2.1, (if (nm7 == name) then leastI c.2.2.2.2.2.2.1 (secV v 0) else c.2.2.2.2.2.2.1), c.2.2.2.2.2.2.2) := by
  simp only [eff, dir7]
  rcases Bool.eq_false_or_eq_true (nm7 == name) with hb | hb <;> simp [act, hb]
theorem eff8 (name v : List UInt8) (c : Ctl) : eff name v 8 c = (c.1, c.2.1, c.2.2.1, c.2.2.2.1, c.2.2.2.2.1, c.2.2.2.2.2.1, c.2.2.2.2.2.2.1, (if (nm8 == name) then leastI c.2.2.2.2.2.2.2.1 (secV v 0) else c.2.2.2.2.2.2.2.1), c.2.2.2.2.2.2.2.2) := by
  simp only [eff, dir8]
  rcases Bool.eq_false_or_eq_true (nm8 == name) with hb | hb <;> simp [act, hb]
theorem eff9 (name v : List UInt8) (c : Ctl) : eff name v 9 c = (c.1, c.2.1, c.2.2.1, c.2.2.2.1, c.2.2.2.2.1, c.2.2.2.2.2.1, c.2.2.2.2.2.2.1, c.2.2.2.2.2.2.2.1, (if (nm9 == name) then (if secV v 2147483648 > c.2.2.2.2.2.2.2.2.1 then secV v 2147483648 else c.2.2.2.2.2.2.2.2.1) else c.2.2.2.2.2.2.2.2.1), ()) := by
  simp only [eff, dir9]
  rcases Bool.eq_false_or_eq_true (nm9 == name) with hb | hb <;> simp [act, hb]
def stepN (name v : List UInt8) (c : Ctl) : Nat → Ctl
  | 0 => c
  | i + 1 => eff name v i (stepN name v c i)
def stepC (c : Ctl) (p : List UInt8 × List UInt8) : Ctl := stepN p.1 p.2 c 10
theorem wgA (c : Ctl) (p : List UInt8 × List UInt8) : stepC c p = ((c.1 || (nm0 == p.1)), (c.2.1 || (nm1 == p.1)), (c.2.2.1 || (nm2 == p.1)), (c.2.2.2.1 || (nm3 == p.1)), (c.2.2.2.2.1 || (nm4 == p.1) || (nm5 == p.1)), (c.2.2.2.2.2.1 || (nm6 == p.1)), (if (nm7 == p.1) then leastI c.2.2.2.2.2.2.1 (secV p.2 0) else c.2.2.2.2.2.2.1), (if (nm8 == p.1) then leastI c.2.2.2.2.2.2.2.1 (secV p.2 0) else c.2.2.2.2.2.2.2.1), (if (nm9 == p.1) then (if secV p.2 2147483648 > c.2.2.2.2.2.2.2.2.1 then secV p.2 2147483648 else c.2.2.2.2.2.2.2.2.1) else c.2.2.2.2.2.2.2.2.1), ()) := by
  simp only [stepC, stepN, eff0, eff1, eff2, eff3, eff4, eff5, eff6, eff7, eff8, eff9]
theorem wfu {K : Nat} (name v : List UInt8) (z : Ctl) (hv : v.length < 1000000) (hK : 1000000 + 100 ≤ K) (rec : _ → Option _) (c : Ctl) : ∀ i : Nat, i < 10 →
    wb_.t0 K rec ((0, (name, (v, (dirs, (10, ((i : Int), ())))))), (z, ((c, ()), ()))) = rec ((0, (name, (v, (dirs, (10, (((i + 1 : Nat) : Int), ())))))), (z, ((eff name v i c, ()), ()))) := by
  intro i hi
  have hl : (dirs.length : Int) = 10 := rfl
  have hh : (i : Int) < 10 := by omega
  have w1 := wrapSucc (show i < 9223372036854775807 by omega)
  have hs0 := wdp (K := K) 0 hv hK
  have hs1 := wdp (K := K) 2147483648 hv hK
  match i, hi with
  | 0, _ =>
    have w1 : IntKind.i64.wrap ((0 : Int) + 1) = ((0 + 1 : Nat) : Int) := rfl
    have hn : ((0 : Nat) : Int) = 0 := rfl
    have ha : decide ((0 : Int) < 10) = true := rfl
    have hb : decide ((0 : Int) ≤ 0) = true := rfl
    have hc : Int.toNat (0 : Int) = 0 := rfl
    simp only [wb_.t0, za', zb', zc', zd', ze', zf', zg', zh', zi', zj', zk', zl', zm', zn', zo', zp', zq', zr', zs', zt', hl, hn, ha, hb, hc, w1, eff, dir0]
    rcases Bool.eq_false_or_eq_true (nm0 == name) with h | h <;> simp only [za', zb', zc', zd', ze', zf', zg', zh', zi', zj', zk', zl', zm', zn', zo', zp', zq', zr', zs', zt', h, natBeq, act, hs0, hs1, wcW, ha, hb, hc, w1, Nat.reduceEqDiff, reduceCtorEq]
  | 1, _ =>
    have w1 : IntKind.i64.wrap ((1 : Int) + 1) = ((1 + 1 : Nat) : Int) := rfl
    have hn : ((1 : Nat) : Int) = 1 := rfl
    have ha : decide ((1 : Int) < 10) = true := rfl
    have hb : decide ((0 : Int) ≤ 1) = true := rfl
    have hc : Int.toNat (1 : Int) = 1 := rfl
    simp only [wb_.t0, za', zb', zc', zd', ze', zf', zg', zh', zi', zj', zk', zl', zm', zn', zo', zp', zq', zr', zs', zt', hl, hn, ha, hb, hc, w1, eff, dir1]
    rcases Bool.eq_false_or_eq_true (nm1 == name) with h | h <;> simp only [za', zb', zc', zd', ze', zf', zg', zh', zi', zj', zk', zl', zm', zn', zo', zp', zq', zr', zs', zt', h, natBeq, act, hs0, hs1, wcW, ha, hb, hc, w1, Nat.reduceEqDiff, reduceCtorEq]
  | 2, _ =>
    have w1 : IntKind.i64.wrap ((2 : Int) + 1) = ((2 + 1 : Nat) : Int) := rfl
    have hn : ((2 : Nat) : Int) = 2 := rfl
    have ha : decide ((2 : Int) < 10) = true := rfl
    have hb : decide ((0 : Int) ≤ 2) = true := rfl
    have hc : Int.toNat (2 : Int) = 2 := rfl
    simp only [wb_.t0, za', zb', zc', zd', ze', zf', zg', zh', zi', zj', zk', zl', zm', zn', zo', zp', zq', zr', zs', zt', hl, hn, ha, hb, hc, w1, eff, dir2]
    rcases Bool.eq_false_or_eq_true (nm2 == name) with h | h <;> simp only [za', zb', zc', zd', ze', zf', zg', zh', zi', zj', zk', zl', zm', zn', zo', zp', zq', zr', zs', zt', h, natBeq, act, hs0, hs1, wcW, ha, hb, hc, w1, Nat.reduceEqDiff, reduceCtorEq]
  | 3, _ =>
    have w1 : IntKind.i64.wrap ((3 : Int) + 1) = ((3 + 1 : Nat) : Int) := rfl
    have hn : ((3 : Nat) : Int) = 3 := rfl
    have ha : decide ((3 : Int) < 10) = true := rfl
    have hb : decide ((0 : Int) ≤ 3) = true := rfl
    have hc : Int.toNat (3 : Int) = 3 := rfl
    simp only [wb_.t0, za', zb', zc', zd', ze', zf', zg', zh', zi', zj', zk', zl', zm', zn', zo', zp', zq', zr', zs', zt', hl, hn, ha, hb, hc, w1, eff, dir3]
    rcases Bool.eq_false_or_eq_true (nm3 == name) with h | h <;> simp only [za', zb', zc', zd', ze', zf', zg', zh', zi', zj', zk', zl', zm', zn', zo', zp', zq', zr', zs', zt', h, natBeq, act, hs0, hs1, wcW, ha, hb, hc, w1, Nat.reduceEqDiff, reduceCtorEq]
  | 4, _ =>
    have w1 : IntKind.i64.wrap ((4 : Int) + 1) = ((4 + 1 : Nat) : Int) := rfl
    have hn : ((4 : Nat) : Int) = 4 := rfl
    have ha : decide ((4 : Int) < 10) = true := rfl
    have hb : decide ((0 : Int) ≤ 4) = true := rfl
    have hc : Int.toNat (4 : Int) = 4 := rfl
    simp only [wb_.t0, za', zb', zc', zd', ze', zf', zg', zh', zi', zj', zk', zl', zm', zn', zo', zp', zq', zr', zs', zt', hl, hn, ha, hb, hc, w1, eff, dir4]
    rcases Bool.eq_false_or_eq_true (nm4 == name) with h | h <;> simp only [za', zb', zc', zd', ze', zf', zg', zh', zi', zj', zk', zl', zm', zn', zo', zp', zq', zr', zs', zt', h, natBeq, act, hs0, hs1, wcW, ha, hb, hc, w1, Nat.reduceEqDiff, reduceCtorEq]
  | 5, _ =>
    have w1 : IntKind.i64.wrap ((5 : Int) + 1) = ((5 + 1 : Nat) : Int) := rfl
    have hn : ((5 : Nat) : Int) = 5 := rfl
    have ha : decide ((5 : Int) < 10) = true := rfl
    have hb : decide ((0 : Int) ≤ 5) = true := rfl
    have hc : Int.toNat (5 : Int) = 5 := rfl
    simp only [wb_.t0, za', zb', zc', zd', ze', zf', zg', zh', zi', zj', zk', zl', zm', zn', zo', zp', zq', zr', zs', zt', hl, hn, ha, hb, hc, w1, eff, dir5]
    rcases Bool.eq_false_or_eq_true (nm5 == name) with h | h <;> simp only [za', zb', zc', zd', ze', zf', zg', zh', zi', zj', zk', zl', zm', zn', zo', zp', zq', zr', zs', zt', h, natBeq, act, hs0, hs1, wcW, ha, hb, hc, w1, Nat.reduceEqDiff, reduceCtorEq]
  | 6, _ =>
    have w1 : IntKind.i64.wrap ((6 : Int) + 1) = ((6 + 1 : Nat) : Int) := rfl
    have hn : ((6 : Nat) : Int) = 6 := rfl
    have ha : decide ((6 : Int) < 10) = true := rfl
    have hb : decide ((0 : Int) ≤ 6) = true := rfl
    have hc : Int.toNat (6 : Int) = 6 := rfl
    simp only [wb_.t0, za', zb', zc', zd', ze', zf', zg', zh', zi', zj', zk', zl', zm', zn', zo', zp', zq', zr', zs', zt', hl, hn, ha, hb, hc, w1, eff, dir6]
    rcases Bool.eq_false_or_eq_true (nm6 == name) with h | h <;> simp only [za', zb', zc', zd', ze', zf', zg', zh', zi', zj', zk', zl', zm', zn', zo', zp', zq', zr', zs', zt', h, natBeq, act, hs0, hs1, wcW, ha, hb, hc, w1, Nat.reduceEqDiff, reduceCtorEq]
  | 7, _ =>
    have w1 : IntKind.i64.wrap ((7 : Int) + 1) = ((7 + 1 : Nat) : Int) := rfl
    have hn : ((7 : Nat) : Int) = 7 := rfl
    have ha : decide ((7 : Int) < 10) = true := rfl
    have hb : decide ((0 : Int) ≤ 7) = true := rfl
    have hc : Int.toNat (7 : Int) = 7 := rfl
    simp only [wb_.t0, za', zb', zc', zd', ze', zf', zg', zh', zi', zj', zk', zl', zm', zn', zo', zp', zq', zr', zs', zt', hl, hn, ha, hb, hc, w1, eff, dir7]
    rcases Bool.eq_false_or_eq_true (nm7 == name) with h | h <;> simp only [za', zb', zc', zd', ze', zf', zg', zh', zi', zj', zk', zl', zm', zn', zo', zp', zq', zr', zs', zt', h, natBeq, act, hs0, hs1, wcW, ha, hb, hc, w1, Nat.reduceEqDiff, reduceCtorEq]
  | 8, _ =>
    have w1 : IntKind.i64.wrap ((8 : Int) + 1) = ((8 + 1 : Nat) : Int) := rfl
    have hn : ((8 : Nat) : Int) = 8 := rfl
    have ha : decide ((8 : Int) < 10) = true := rfl
    have hb : decide ((0 : Int) ≤ 8) = true := rfl
    have hc : Int.toNat (8 : Int) = 8 := rfl
    simp only [wb_.t0, za', zb', zc', zd', ze', zf', zg', zh', zi', zj', zk', zl', zm', zn', zo', zp', zq', zr', zs', zt', hl, hn, ha, hb, hc, w1, eff, dir8]
    rcases Bool.eq_false_or_eq_true (nm8 == name) with h | h <;> simp only [za', zb', zc', zd', ze', zf', zg', zh', zi', zj', zk', zl', zm', zn', zo', zp', zq', zr', zs', zt', h, natBeq, act, hs0, hs1, wcW, ha, hb, hc, w1, Nat.reduceEqDiff, reduceCtorEq]
  | 9, _ =>
    have w1 : IntKind.i64.wrap ((9 : Int) + 1) = ((9 + 1 : Nat) : Int) := rfl
    have hn : ((9 : Nat) : Int) = 9 := rfl
    have ha : decide ((9 : Int) < 10) = true := rfl
    have hb : decide ((0 : Int) ≤ 9) = true := rfl
    have hc : Int.toNat (9 : Int) = 9 := rfl
    simp only [wb_.t0, za', zb', zc', zd', ze', zf', zg', zh', zi', zj', zk', zl', zm', zn', zo', zp', zq', zr', zs', zt', hl, hn, ha, hb, hc, w1, eff, dir9]
    rcases Bool.eq_false_or_eq_true (nm9 == name) with h | h <;> simp only [za', zb', zc', zd', ze', zf', zg', zh', zi', zj', zk', zl', zm', zn', zo', zp', zq', zr', zs', zt', h, natBeq, act, hs0, hs1, wcW, ha, hb, hc, w1, Nat.reduceEqDiff, reduceCtorEq]
theorem wgw {K : Nat} (name v : List UInt8) (z : Ctl) (hv : v.length < 1000000) (hK : 1000000 + 100 ≤ K) (c : Ctl) :
    wb_.l0 K K ((0, (name, (v, (dirs, (10, (0, ())))))), (z, ((c, ()), ()))) = some ((), (z, ((stepC c (name, v), ()), ()))) := by
  refine idx_rule (l := wb_.l0 K) (wb_.t0 K) (fun _ _ => rfl) 10
    (fun i => ((0, (name, (v, (dirs, (10, ((i : Int), ())))))), (z, ((stepN name v c i, ()), ())))) (fun i => ((), (z, ((stepC c (name, v), ()), ())))) ?_ K 0 (by omega) (by omega)
  intro i rec hi ih
  by_cases h : i < 10
  · rw [wfu name v z hv hK rec _ i h]
    exact ih h
  · have h2 : i = 10 := by omega
    subst h2
    have e : ((10 : Nat) : Int) = 10 := rfl
    simp only [wb_.t0, za', zb', zc', zd', ze', zf', zg', zh', zi', zj', zk', zl', zm', zn', zo', zp', zq', zr', zs', zt', e, Int.lt_irrefl]
    rfl
def elemsOf (xs : List (List UInt8)) : List (List UInt8 × List UInt8) := xs.filterMap fun x => if (paramS x).2.2.2.1 = 0 then some ((paramS x).1, (paramS x).2.1) else none
def foldE (c : Ctl) (xs : List (List UInt8)) : Ctl := (elemsOf xs).foldl stepC c
theorem wfG (c : Ctl) (xs : List (List UInt8)) (x : List UInt8) : foldE c (xs ++ [x]) = if (paramS x).2.2.2.1 = 0 then stepC (foldE c xs) ((paramS x).1, (paramS x).2.1) else foldE c xs := by
  simp only [foldE, elemsOf, List.filterMap_append, List.foldl_append]
  by_cases h : (paramS x).2.2.2.1 = 0 <;> simp [h]
theorem wgp {K : Nat} (fine : Bool) (vals : List (List UInt8)) (ln ix : Int) (xs : List (List UInt8)) (z c : Ctl) (hx : ∀ x ∈ xs, x.length < 1000000) (hl : xs.length < 1000000) (hK : 1000000 + 100 ≤ K) :
    wb_.l1 K K (((0, ()), (fine, (vals, (ln, (ix, (xs, ((xs.length : Int), (0, ())))))))), (z, ((c, ()), ()))) = some (((0, ()), (fine, (vals, (ln, (ix, ()))))), (z, ((foldE c xs, ()), ()))) := by
  have H := idx_rule (l := wb_.l1 K) (wb_.t1 (wb_.l0 K) K) (fun _ _ => rfl) xs.length
    (fun i => (((0, ()), (fine, (vals, (ln, (ix, (xs, ((xs.length : Int), ((i : Int), ())))))))), (z, ((foldE c (xs.take i), ()), ())))) (fun i => (((0, ()), (fine, (vals, (ln, (ix, ()))))), (z, ((foldE c xs, ()), ())))) ?_ K 0 (by omega) (by omega)
  · exact H
  · intro i rec hi ih
    by_cases h : i < xs.length
    · have hh : (i : Int) < (xs.length : Int) := by omega
      have w1 := wrapSucc (show i < 9223372036854775807 by omega)
      have hm := hx _ (wc9 xs [] h)
      have hpl := wfC (xs.getD i [])
      have ih' := ih h
      rw [take_get xs [] h, wfG] at ih'
      have hd : (dirs.length : Int) = 10 := rfl
      simp only [wb_.t1, za', zb', zc', zd', ze', zf', zg', zh', zi', zj', zk', zl', zm', zn', zo', zp', zq', zr', zs', zt', hh, wej (K := K) (s := xs.getD i []) (by omega) (by omega)]
      by_cases c1 : (paramS (xs.getD i [])).2.2.2.1 = 0
      · rw [if_pos c1] at ih'
        simp only [c1, za', zb', zc', zd', ze', zf', zg', zh', zi', zj', zk', zl', zm', zn', zo', zp', zq', zr', zs', zt', wey, hd]
        rw [wgw _ _ _ (by omega) hK]
        simp only [za', zb', zc', zd', ze', zf', zg', zh', zi', zj', zk', zl', zm', zn', zo', zp', zq', zr', zs', zt', w1]
        exact ih'
      · rw [if_neg c1] at ih'
        simp only [c1, za', zb', zc', zd', ze', zf', zg', zh', zi', zj', zk', zl', zm', zn', zo', zp', zq', zr', zs', zt', w1]
        exact ih'
    · have h2 : i = xs.length := by omega
      subst h2
      simp only [wb_.t1, za', zb', zc', zd', ze', zf', zg', zh', zi', zj', zk', zl', zm', zn', zo', zp', zq', zr', zs', zt', Int.lt_irrefl, List.take_length]
def foldV (c : Ctl) (vs : List (List UInt8)) : Ctl := vs.foldl (fun c v => foldE c (splitS v).1) c
def fineV (vs : List (List UInt8)) : Bool := vs.all fun v => decide ((splitS v).2.1 = 0)
theorem wgr {K : Nat} (vs : List (List UInt8)) (z c : Ctl) (hx : ∀ x ∈ vs, x.length < 100000) (hl : vs.length < 1000000) (hK : 1000000 + 100 ≤ K) :
    wb_.l2 K K (((0, ()), (true, (vs, ((vs.length : Int), (0, ()))))), (z, ((c, ()), ()))) = some ((fineV vs, ()), (z, ((foldV c vs, ()), ()))) := by
  have H := idx_rule (l := wb_.l2 K) (wb_.t2 (wb_.l1 K) K) (fun _ _ => rfl) vs.length
    (fun i => (((0, ()), (fineV (vs.take i), (vs, ((vs.length : Int), ((i : Int), ()))))), (z, ((foldV c (vs.take i), ()), ())))) (fun i => ((fineV vs, ()), (z, ((foldV c vs, ()), ())))) ?_ K 0 (by omega) (by omega)
  · exact H
  · intro i rec hi ih
    by_cases h : i < vs.length
    · have hh : (i : Int) < (vs.length : Int) := by omega
      have w1 := wrapSucc (show i < 9223372036854775807 by omega)
      have hm := hx _ (wc9 vs [] h)
      have hsc := wdd (vs.getD i [])
      have hsi := wdm (vs.getD i [])
      have ih' := ih h
      rw [take_get vs [] h] at ih'
      simp only [fineV, foldV, List.all_append, List.foldl_append, List.foldl_cons, List.foldl_nil, List.all_cons, List.all_nil, Bool.and_true] at ih'
      simp only [wb_.t2, za', zb', zc', zd', ze', zf', zg', zh', zi', zj', zk', zl', zm', zn', zo', zp', zq', zr', zs', zt', hh, wdc (K := K) (s := vs.getD i []) (by omega) (by omega)]
      have hl1 := fun (fine : Bool) => wgp (K := K) fine vs (vs.length : Int) (i : Int) (splitS (vs.getD i [])).1 z (foldV c (vs.take i)) (fun x hx => by have := hsi x hx; omega) (by omega) hK
      cases hf : fineV (vs.take i)
      · simp only [fineV] at hf
        rw [hf] at ih'
        simp only [za', zb', zc', zd', ze', zf', zg', zh', zi', zj', zk', zl', zm', zn', zo', zp', zq', zr', zs', zt', hl1, w1]
        exact ih'
      · simp only [fineV] at hf
        rw [hf] at ih'
        simp only [za', zb', zc', zd', ze', zf', zg', zh', zi', zj', zk', zl', zm', zn', zo', zp', zq', zr', zs', zt', hl1, w1]
        exact ih'
    · have h2 : i = vs.length := by omega
      subst h2
      simp only [wb_.t2, za', zb', zc', zd', ze', zf', zg', zh', zi', zj', zk', zl', zm', zn', zo', zp', zq', zr', zs', zt', Int.lt_irrefl, List.take_length]
def hdr : List UInt8 := [67, 97, 99, 104, 101, 45, 67, 111, 110, 116, 114, 111, 108]
def ctl0 : Ctl := (false, false, false, false, false, false, -1, -1, -1, ())
def parseV (vs : List (List UInt8)) : Ctl := if fineV vs then foldV ctl0 vs else (true, true, (foldV ctl0 vs).2.2)
def parseC (l : List Fld) : Ctl := parseV (allOf l hdr)
theorem wc8 {K : Nat} {l : List Fld} (h : sized l) (hK : 1000000 + 100 ≤ K) : wb_ K l = some (parseC l) := by
  have h3 := wdw l hdr
  have hlen := h.1
  have hb : ∀ v ∈ allOf l hdr, v.length ≤ 99999 := wdj fun f hf => by have := (h.2 f hf).2; omega
  have hA : wQ_ K l [67, 97, 99, 104, 101, 45, 67, 111, 110, 116, 114, 111, 108] = some (allOf l hdr) := wc5 h.1 (fun f hf => by have := (h.2 f hf).1; omega) (name := hdr) (by decide) (by omega)
  have h2 := wgr (K := K) (allOf l hdr) (false, false, false, false, false, false, 0, 0, 0, ()) ctl0 (fun v hv => by have := hb v hv; omega) (by omega) hK
  simp only [wb_, wb_.tr, hA, za', zb', zc', zd', ze', zf', zg', zh', zi', zj', zk', zl', zm', zn', zo', zp', zq', zr', zs', zt']
  change Option.bind (wb_.l2 K K (((0, ()), (true, (allOf l hdr, (((allOf l hdr).length : Int), (0, ()))))), ((false, false, false, false, false, false, 0, 0, 0, ()), ((ctl0, ()), ())))) _ = _
  rw [h2]
  simp only [za', zb', zc', zd', ze', zf', zg', zh', zi', zj', zk', zl', zm', zn', zo', zp', zq', zr', zs', zt', parseC, parseV]
  cases fineV (allOf l hdr) <;> simp only [za', zb', zc', zd', ze', zf', zg', zh', zi', zj', zk', zl', zm', zn', zo', zp', zq', zr', zs', zt'] <;> rfl
def askedC (l : List Fld) : Ctl :=
  if (getOf l hdr).2.1 = false ∧ hasOf l [80, 114, 97, 103, 109, 97] nm1 = true then ((parseC l).1, true, (parseC l).2.2) else parseC l
theorem wdZ {K : Nat} {l : List Fld} (h : sized l) (hK : 1000000 + 100 ≤ K) : wbX K l = some (askedC l) := by
  have hG : wcv K l [67, 97, 99, 104, 101, 45, 67, 111, 110, 116, 114, 111, 108] = some (getOf l hdr) := wds h (name := hdr) (by decide) (by omega)
  have hH : wbg K l [80, 114, 97, 103, 109, 97] [110, 111, 45, 99, 97, 99, 104, 101] = some (hasOf l [80, 114, 97, 103, 109, 97] nm1) := wez h (name := [80, 114, 97, 103, 109, 97]) (item := nm1) (by decide) (by decide) hK
  simp only [wbX, wc8 h hK, hG, za', zb', zc', zd', ze', zf', zg', zh', zi', zj', zk', zl', zm', zn', zo', zp', zq', zr', zs', zt']
  unfold askedC
  cases h1 : (getOf l hdr).2.1
  · simp only [za', zb', zc', zd', ze', zf', zg', zh', zi', zj', zk', zl', zm', zn', zo', zp', zq', zr', zs', zt', hH]
    cases h2 : hasOf l [80, 114, 97, 103, 109, 97] nm1
    · simp only [za', zb', zc', zd', ze', zf', zg', zh', zi', zj', zk', zl', zm', zn', zo', zp', zq', zr', zs', zt', and_false, Bool.false_eq_true]
    · simp only [za', zb', zc', zd', ze', zf', zg', zh', zi', zj', zk', zl', zm', zn', zo', zp', zq', zr', zs', zt', and_self]
  · simp only [za', zb', zc', zd', ze', zf', zg', zh', zi', zj', zk', zl', zm', zn', zo', zp', zq', zr', zs', zt', false_and, Bool.true_eq_false]
/-! Print. -/
def fl (b : Bool) (n : List UInt8) : List (List UInt8) := if b then [n] else []
end Go.Proofs.X
