/-
  A part of the proof. No condition.
-/
import Derived.Test.YtkfffmpnmoiikaaGreatDoorUPl
/- Chapter 17 (life): lifetimes, what is fresh, what is left; the page's example. No condition but on sizes. -/
set_option linter.unusedSimpArgs false
set_option linter.unusedVariables false
namespace Go.Proofs.X
open Go Go.Dp
theorem div10 {r : Int} (h0 : 0 ≤ r) (h1 : r ≤ 2147483648) : IntKind.wrap .i64 (Int.tdiv r 10) = r / 10 := by
  rw [Int.tdiv_eq_ediv_of_nonneg h0]
  exact wrap64 (by omega) (by omega)
theorem wd0 {K : Nat} {s : Sto} (h : sized s.1.2.2.2.1) (hK : 1000000 + 100 ≤ K) : wb7 K s = some (lifeO s) := by
  have hp := wc8 (K := K) h hK
  have hg : wcv K s.1.2.2.2.1 [69, 120, 112, 105, 114, 101, 115] = some (getOf s.1.2.2.2.1 nExp) := wds h (name := nExp) (by decide) (by omega)
  have w1 : wcA K s.1.2.2.2.1 [69, 120, 112, 105, 114, 101, 115] = some (whenO s.1.2.2.2.1 nExp) := wdo (n := nExp) h (by decide) hK
  have w2 : wcA K s.1.2.2.2.1 [76, 97, 115, 116, 45, 77, 111, 100, 105, 102, 105, 101, 100] = some (whenO s.1.2.2.2.1 nMod) := wdo (n := nMod) h (by decide) hK
  have hd : wcN K (((s.1.1, (s.1.2.1, (s.1.2.2.1, (s.1.2.2.2.1, (s.1.2.2.2.2.1, ()))))), (s.2.1, (s.2.2.1, ())))) = some (dateO s) := wdT (s := s) h hK
  have ha := wfV (dateO s) (whenO s.1.2.2.2.1 nMod).1
  have hge : (getOf s.1.2.2.2.1 nExp).2.1 = decide ((allOf s.1.2.2.2.1 nExp).length > 0) := rfl
  simp only [wb7, wbU, hp, za', zb', zc', zd', ze', zf', zg', zh', zi', zj', zk', zl', zm', zn', zo', zp', zq', zr', zs', zt']
  unfold lifeO
  by_cases c1 : (parseC s.1.2.2.2.1).2.2.2.2.2.2.2.1 ≥ 0
  · simp only [c1, za', zb', zc', zd', ze', zf', zg', zh', zi', zj', zk', zl', zm', zn', zo', zp', zq', zr', zs', zt']
  · rw [if_neg c1]
    by_cases c2 : (parseC s.1.2.2.2.1).2.2.2.2.2.2.1 ≥ 0
    · simp only [c1, c2, za', zb', zc', zd', ze', zf', zg', zh', zi', zj', zk', zl', zm', zn', zo', zp', zq', zr', zs', zt']
    · rw [if_neg c2]
      by_cases c3 : (allOf s.1.2.2.2.1 nExp).length > 0
      · rw [if_pos c3]
        simp only [c1, c2, hg, hge, c3, w1, za', zb', zc', zd', ze', zf', zg', zh', zi', zj', zk', zl', zm', zn', zo', zp', zq', zr', zs', zt']
        cases c4 : (whenO s.1.2.2.2.1 nExp).2.1 with
        | true => simp only [za', zb', zc', zd', ze', zf', zg', zh', zi', zj', zk', zl', zm', zn', zo', zp', zq', zr', zs', zt', hd, wdu _ _ (show 2 ≤ K by omega)]
        | false => simp only [za', zb', zc', zd', ze', zf', zg', zh', zi', zj', zk', zl', zm', zn', zo', zp', zq', zr', zs', zt']
      · rw [if_neg c3]
        simp only [c1, c2, hg, hge, c3, w2, za', zb', zc', zd', ze', zf', zg', zh', zi', zj', zk', zl', zm', zn', zo', zp', zq', zr', zs', zt']
        cases c4 : (whenO s.1.2.2.2.1 nMod).2.1 with
        | true =>
          simp only [za', zb', zc', zd', ze', zf', zg', zh', zi', zj', zk', zl', zm', zn', zo', zp', zq', zr', zs', zt', wdC]
          cases c5 : usual s.1.1 with
          | true => simp only [za', zb', zc', zd', ze', zf', zg', zh', zi', zj', zk', zl', zm', zn', zo', zp', zq', zr', zs', zt', hd, wdu _ _ (show 2 ≤ K by omega), div10 ha.1 ha.2, wfe, and_self]
          | false => simp only [za', zb', zc', zd', ze', zf', zg', zh', zi', zj', zk', zl', zm', zn', zo', zp', zq', zr', zs', zt', and_false]
        | false => simp only [za', zb', zc', zd', ze', zf', zg', zh', zi', zj', zk', zl', zm', zn', zo', zp', zq', zr', zs', zt', false_and]
noncomputable def freshO (s : Sto) (now : Int) : Bool := decide (lifeO s > ageO s now)
theorem wdK {K : Nat} {s : Sto} {now : Int} (h : sized s.1.2.2.2.1) (hK : 1000000 + 100 ≤ K) : wcl K s now = some (freshO s now) := by
  have h1 : wb7 K (((s.1.1, (s.1.2.1, (s.1.2.2.1, (s.1.2.2.2.1, (s.1.2.2.2.2.1, ()))))), (s.2.1, (s.2.2.1, ())))) = some (lifeO s) := wd0 (s := s) h hK
  have h2 : wcO K (((s.1.1, (s.1.2.1, (s.1.2.2.1, (s.1.2.2.2.1, (s.1.2.2.2.2.1, ()))))), (s.2.1, (s.2.2.1, ())))) now = some (ageO s now) := wff (s := s) h hK
  simp only [wcl, h1, h2, za', zb', zc', zd', ze', zf', zg', zh', zi', zj', zk', zl', zm', zn', zo', zp', zq', zr', zs', zt', freshO]
end Go.Proofs.X
