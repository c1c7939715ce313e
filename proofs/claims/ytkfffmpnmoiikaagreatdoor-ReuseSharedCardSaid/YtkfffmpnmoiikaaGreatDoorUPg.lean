/-
  A part of the proof. No condition.
-/
import Derived.Test.YtkfffmpnmoiikaaGreatDoorUPf
/- Chapter 07 (dates): how times are written: Format, Old, Plain; the law DateWrites. -/
set_option linter.unusedSimpArgs false
set_option linter.unusedVariables false
namespace Go.Proofs.X
open Go Go.Dp
def dayS (w : Nat) : List UInt8 := wcY.getD w []
def clkS (h i j : Nat) : List UInt8 := [dg (h / 10), dg (h % 10), 58, dg (i / 10), dg (i % 10), 58, dg (j / 10), dg (j % 10)]
def fmtS (w y m d h i j : Nat) : List UInt8 := (dayS w).take 3 ++ [44, 32] ++ p2 d ++ [32] ++ monS m ++ [32] ++ p4 y ++ [32] ++ clkS h i j ++ [32, 71, 77, 84]
def oldS (w y m d h i j : Nat) : List UInt8 := dayS w ++ [44, 32] ++ p2 d ++ [45] ++ monS m ++ [45] ++ p2 (y % 100) ++ [32] ++ clkS h i j ++ [32, 71, 77, 84]
def twoS (d : Nat) : List UInt8 := if d < 10 then 32 :: p1 d else p2 d
def plnS (w y m d h i j : Nat) : List UInt8 := (dayS w).take 3 ++ [32] ++ monS m ++ [32] ++ twoS d ++ [32] ++ clkS h i j ++ [32] ++ p4 y
structure PartsOf (t : Int) (w y m d h i j : Nat) : Prop where
  civ : civ (t / 86400) = ((y : Int), (m : Int) + 1, (d : Int))
  ew : (t / 86400 + 4) % 7 = w
  eh : t % 86400 / 3600 = h
  ei : t % 86400 / 60 % 60 = i
  ej : t % 86400 % 60 = j
  w7 : w < 7
  y0 : 1970 ≤ y
  y1 : y ≤ 9999
  m12 : m < 12
  d0 : 1 ≤ d
  d1 : d ≤ 31
  h24 : h < 24
  i60 : i < 60
  j60 : j < 60
  val : valid y ((m : Int) + 1) d
  ct : cnt y ((m : Int) + 1) d = t / 86400
  t0 : 0 ≤ t
  t1 : t ≤ 253402300799
theorem wdh {t : Int} (h0 : 0 ≤ t) (h1 : t ≤ 253402300799) : ∃ w y m d h i j, PartsOf t w y m d h i j := by
  obtain ⟨hv, hc⟩ := weA (n := t / 86400) (by omega) (by omega)
  have hv' := hv
  obtain ⟨v1, v2, v3, v4, v5, v6⟩ := hv'
  have hl := wdJ (civ (t / 86400)).1 (civ (t / 86400)).2.1
  obtain ⟨y, hy⟩ := Int.eq_ofNat_of_zero_le (show 0 ≤ (civ (t / 86400)).1 by omega)
  obtain ⟨m, hm⟩ := Int.eq_ofNat_of_zero_le (show 0 ≤ (civ (t / 86400)).2.1 - 1 by omega)
  obtain ⟨d, hd⟩ := Int.eq_ofNat_of_zero_le (show 0 ≤ (civ (t / 86400)).2.2 by omega)
  obtain ⟨w, hw⟩ := Int.eq_ofNat_of_zero_le (show 0 ≤ (t / 86400 + 4) % 7 by omega)
  obtain ⟨h, hh⟩ := Int.eq_ofNat_of_zero_le (show 0 ≤ t % 86400 / 3600 by omega)
  obtain ⟨i, hi⟩ := Int.eq_ofNat_of_zero_le (show 0 ≤ t % 86400 / 60 % 60 by omega)
  obtain ⟨j, hj⟩ := Int.eq_ofNat_of_zero_le (show 0 ≤ t % 86400 % 60 by omega)
  have e2 : (civ (t / 86400)).2.1 = (m : Int) + 1 := by omega
  refine ⟨w, y, m, d, h, i, j, ?_⟩
  have hciv : civ (t / 86400) = ((y : Int), (m : Int) + 1, (d : Int)) := Prod.ext hy (Prod.ext e2 hd)
  rw [hciv] at hv hc
  exact { civ := hciv, ew := hw, eh := hh, ei := hi, ej := hj, w7 := by omega, y0 := by omega, y1 := by omega, m12 := by omega, d0 := by omega, d1 := by omega, h24 := by omega, i60 := by omega, j60 := by omega, val := hv, ct := hc, t0 := h0, t1 := h1 }
theorem PartsOf.time {t : Int} {w y m d h i j : Nat} (p : PartsOf t w y m d h i j) : t = cnt y ((m : Int) + 1) d * 86400 + h * 3600 + i * 60 + j := by
  have := p.ct; have := p.eh; have := p.ei; have := p.ej; have := p.t0
  omega
section
variable {t : Int} {w y m d h i j : Nat} {K : Nat}
theorem wfw (K h i j : Nat) : joinS K [p2 h, p2 i, p2 j] [58] = some (clkS h i j) := by kernel_rfl
theorem wday (K : Nat) {w : Nat} (h : w < 7) : ∃ a b c r, dayS w = a :: b :: c :: r ∧ r.length < 10 := by
  have : w = 0 ∨ w = 1 ∨ w = 2 ∨ w = 3 ∨ w = 4 ∨ w = 5 ∨ w = 6 := by omega
  rcases this with h | h | h | h | h | h | h <;> subst h <;> exact ⟨_, _, _, _, rfl, by decide⟩
theorem PartsOf.days (p : PartsOf t w y m d h i j) : 0 ≤ t / 86400 ∧ t / 86400 ≤ 2932896 := by have := p.t0; have := p.t1; omega
theorem of_ok (p : PartsOf t w y m d h i j) : wc3 K t = some ((w : Int), ((y : Int), ((m : Int) + 1, ((d : Int), (clkS h i j, ()))))) := by
  have h0 := p.t0; have h1 := p.t1
  obtain ⟨n0, n1⟩ := p.days
  have eh := p.eh; have ei := p.ei; have ej := p.ej
  have e1 : Int.tdiv t 86400 = t / 86400 := Int.tdiv_eq_ediv_of_nonneg h0
  have e2 : Int.tmod t 86400 = t % 86400 := Int.tmod_eq_emod_of_nonneg h0
  have e3 : Int.tdiv (t % 86400) 3600 = t % 86400 / 3600 := Int.tdiv_eq_ediv_of_nonneg (by omega)
  have e4 : Int.tdiv (t % 86400) 60 = t % 86400 / 60 := Int.tdiv_eq_ediv_of_nonneg (by omega)
  have e5 : Int.tmod (t % 86400 / 60) 60 = t % 86400 / 60 % 60 := Int.tmod_eq_emod_of_nonneg (by omega)
  have e6 : Int.tmod (t % 86400) 60 = t % 86400 % 60 := Int.tmod_eq_emod_of_nonneg (by omega)
  have w1 := wrap64 (x := t / 86400) (by omega) (by omega)
  have w2 := wrap64 (x := t % 86400 / 3600) (by omega) (by omega)
  have w3 := wrap64 (x := t % 86400 / 60) (by omega) (by omega)
  simp only [wc3, e1, e2, e3, e4, w1, w2, w3, e5, e6]
  rw [eh] at *
  rw [ei, ej, wdD n0 n1, weo n0, p.ew, p.civ]
  simp only [wdR (K := K) (show h < 100 by have := p.h24; omega), wdR (K := K) (show i < 100 by have := p.i60; omega), wdR (K := K) (show j < 100 by have := p.j60; omega), za', zb', zc', zd', ze', zf', zg', zh', zi', zj', zk', zl', zm', zn', zo', zp', zq', zr', zs', zt', wfw]
def inR (t : Int) : Prop := 0 ≤ t ∧ t ≤ 253402300799
def inO (t : Int) : Prop := 0 ≤ t ∧ t ≤ 3155759999
theorem we6 (K : Nat) (x0 x1 x2 a b c : UInt8) (d y h i j : Nat) : joinS K [[x0, x1, x2, 44], p2 d, [a, b, c], p4 y, clkS h i j, [71, 77, 84]] [32] = some ([x0, x1, x2] ++ [44, 32] ++ p2 d ++ [32] ++ [a, b, c] ++ [32] ++ p4 y ++ [32] ++ clkS h i j ++ [32, 71, 77, 84]) := by kernel_rfl
theorem wef (p : PartsOf t w y m d h i j) : wcq K t = some (fmtS w y m d h i j) := by
  have h0 := p.t0; have h1 := p.t1; have := p.w7; have := p.m12; have := p.d1; have := p.y0; have := p.y1
  obtain ⟨x0, x1, x2, r, hw, hr⟩ := wday K p.w7
  obtain ⟨a, b, c, hm⟩ := mon3 p.m12
  have e1 : ((m : Int) + 1 - 1) = (m : Int) := by omega
  have w1 := wrapNat (n := m) (by omega)
  have eg : List.getD wcY w [] = x0 :: x1 :: x2 :: r := hw
  have em : List.getD wcG m [] = [a, b, c] := hm
  have hmr := wdb
  have ec : cut (x0 :: x1 :: x2 :: r) 0 3 = [x0, x1, x2] := by simp [cut]
  have el : (3 : Int) ≤ ((x0 :: x1 :: x2 :: r).length : Int) := by simp only [List.length_cons]; omega
  have ey : wbp K (y : Int) = some (p4 y) := by rw [wd1 y (by omega), wgb (by omega) (by omega)]
  simp only [wcq, show ¬ t < 0 by omega, show ¬ t > 253402300799 by omega, of_ok p, za', zb', zc', zd', ze', zf', zg', zh', zi', zj', zk', zl', zm', zn', zo', zp', zq', zr', zs', zt', show (w : Int) < 7 by omega, eg, ec, el, e1, w1, em, show (m : Int) < 12 by omega, wdR (K := K) (show d < 100 by omega), ey,
    show (0 : Nat) ≤ 3 by decide, show ([x0, x1, x2] : List UInt8).length + 1 ≤ maxRoom by simp; omega, List.cons_append, List.nil_append, we6, fmtS, dayS, hw, hm]
  rfl
theorem wep (h : ¬ inR t) : wcq K t = some [] := by
  by_cases h0 : t < 0
  · simp only [wcq, h0, za', zb', zc', zd', ze', zf', zg', zh', zi', zj', zk', zl', zm', zn', zo', zp', zq', zr', zs', zt']
  · have h1 : t > 253402300799 := by simp only [inR] at h; omega
    simp only [wcq, h0, h1, za', zb', zc', zd', ze', zf', zg', zh', zi', zj', zk', zl', zm', zn', zo', zp', zq', zr', zs', zt']
theorem wgq (K : Nat) (a b c : UInt8) (d y : Nat) : joinS K [p2 d, [a, b, c], p2 y] [45] = some (p2 d ++ [45] ++ [a, b, c] ++ [45] ++ p2 y) := by kernel_rfl
theorem wgI (p : PartsOf t w y m d h i j) (hO : inO t) : wcZ K t = some (oldS w y m d h i j) := by
  have h0 := p.t0; have h1 := hO.2; have := p.w7; have := p.m12; have := p.d1; have := p.y0; have := p.y1
  obtain ⟨a, b, c, hm⟩ := mon3 p.m12
  have e1 : ((m : Int) + 1 - 1) = (m : Int) := by omega
  have w1 := wrapNat (n := m) (by omega)
  have em : List.getD wcG m [] = [a, b, c] := hm
  have hmr := wdb
  have ey : Int.tmod (y : Int) 100 = ((y % 100 : Nat) : Int) := by rw [Int.tmod_eq_emod_of_nonneg (by omega)]; omega
  simp only [wcZ, show ¬ t < 0 by omega, show ¬ t > 3155759999 by omega, of_ok p, za', zb', zc', zd', ze', zf', zg', zh', zi', zj', zk', zl', zm', zn', zo', zp', zq', zr', zs', zt', show (w : Int) < 7 by omega, e1, w1, em, show (m : Int) < 12 by omega, wdR (K := K) (show d < 100 by omega), ey, wdR (K := K) (show y % 100 < 100 by omega), wgq, oldS, dayS, hm]
  have : w = 0 ∨ w = 1 ∨ w = 2 ∨ w = 3 ∨ w = 4 ∨ w = 5 ∨ w = 6 := by omega
  rcases this with h | h | h | h | h | h | h <;> subst h <;> rfl
theorem we1 (h : ¬ inO t) : wcZ K t = some [] := by
  by_cases h0 : t < 0
  · simp only [wcZ, h0, za', zb', zc', zd', ze', zf', zg', zh', zi', zj', zk', zl', zm', zn', zo', zp', zq', zr', zs', zt']
  · have h1 : t > 3155759999 := by simp only [inO] at h; omega
    simp only [wcZ, h0, h1, za', zb', zc', zd', ze', zf', zg', zh', zi', zj', zk', zl', zm', zn', zo', zp', zq', zr', zs', zt']
theorem wfb (K : Nat) (x0 x1 x2 a b c : UInt8) (d y h i j : Nat) : joinS K [[x0, x1, x2], [a, b, c], 32 :: p1 d, clkS h i j, p4 y] [32] = some ([x0, x1, x2] ++ [32] ++ [a, b, c] ++ [32] ++ (32 :: p1 d) ++ [32] ++ clkS h i j ++ [32] ++ p4 y) := by kernel_rfl
theorem we4 (K : Nat) (x0 x1 x2 a b c : UInt8) (d y h i j : Nat) : joinS K [[x0, x1, x2], [a, b, c], p2 d, clkS h i j, p4 y] [32] = some ([x0, x1, x2] ++ [32] ++ [a, b, c] ++ [32] ++ p2 d ++ [32] ++ clkS h i j ++ [32] ++ p4 y) := by kernel_rfl
theorem wfR (p : PartsOf t w y m d h i j) : wcx K t = some (plnS w y m d h i j) := by
  have h0 := p.t0; have h1 := p.t1; have := p.w7; have := p.m12; have := p.d1; have := p.y0; have := p.y1
  obtain ⟨x0, x1, x2, r, hw, hr⟩ := wday K p.w7
  obtain ⟨a, b, c, hm⟩ := mon3 p.m12
  have e1 : ((m : Int) + 1 - 1) = (m : Int) := by omega
  have w1 := wrapNat (n := m) (by omega)
  have eg : List.getD wcY w [] = x0 :: x1 :: x2 :: r := hw
  have em : List.getD wcG m [] = [a, b, c] := hm
  have hmr := wdb
  have ec : cut (x0 :: x1 :: x2 :: r) 0 3 = [x0, x1, x2] := by simp [cut]
  have el : (3 : Int) ≤ ((x0 :: x1 :: x2 :: r).length : Int) := by simp only [List.length_cons]; omega
  have ey : wbp K (y : Int) = some (p4 y) := by rw [wd1 y (by omega), wgb (by omega) (by omega)]
  by_cases hd : d < 10
  · have ed : wbp K (d : Int) = some (p1 d) := by rw [wd1 d (by omega), wgF hd]
    have e3 : ((p1 d).length : Int) < 2 := by simp [p1]
    have e4 : 1 + (p1 d).length ≤ maxRoom := by simp [p1]; omega
    simp only [wcx, show ¬ t < 0 by omega, show ¬ t > 253402300799 by omega, of_ok p, za', zb', zc', zd', ze', zf', zg', zh', zi', zj', zk', zl', zm', zn', zo', zp', zq', zr', zs', zt', show (w : Int) < 7 by omega, eg, ec, el, e1, w1, em, show (m : Int) < 12 by omega, ed, e3, e4, ey,
      show (0 : Nat) ≤ 3 by decide, List.cons_append, List.nil_append, wfb, plnS, twoS, hd, dayS, hw, hm]
    rfl
  · have ed : wbp K (d : Int) = some (p2 d) := by rw [wd1 d (by omega), wgG (by omega) (by omega)]
    have e3 : ¬ ((p2 d).length : Int) < 2 := by simp [p2]
    simp only [wcx, show ¬ t < 0 by omega, show ¬ t > 253402300799 by omega, of_ok p, za', zb', zc', zd', ze', zf', zg', zh', zi', zj', zk', zl', zm', zn', zo', zp', zq', zr', zs', zt', show (w : Int) < 7 by omega, eg, ec, el, e1, w1, em, show (m : Int) < 12 by omega, ed, e3, ey,
      show (0 : Nat) ≤ 3 by decide, List.cons_append, List.nil_append, we4, plnS, twoS, hd, dayS, hw, hm]
    rfl
theorem wfY (h : ¬ inR t) : wcx K t = some [] := by
  by_cases h0 : t < 0
  · simp only [wcx, h0, za', zb', zc', zd', ze', zf', zg', zh', zi', zj', zk', zl', zm', zn', zo', zp', zq', zr', zs', zt']
  · have h1 : t > 253402300799 := by simp only [inR] at h; omega
    simp only [wcx, h0, h1, za', zb', zc', zd', ze', zf', zg', zh', zi', zj', zk', zl', zm', zn', zo', zp', zq', zr', zs', zt']
end
end Go.Proofs.X
