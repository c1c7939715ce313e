/-
  A part of the proof. No condition.
-/
import Derived.Test.YtkfffmpnmoiikaaGreatDoorUPl
/- Chapter 17 (life): lifetimes, what is fresh, what is left; the page's example. No condition but on sizes. -/
set_option linter.unusedSimpArgs false
set_option linter.unusedVariables false
namespace Go.Proofs.X
open Go Go.Dp
theorem wdY {K : Nat} (c : Int) (hK : 100 ≤ K) : wB_ K c = some (usual c) := by
  have H := idx_rule (l := wB_.l0 K) (wB_.t0 K) (fun _ _ => rfl) 11
    (fun i => ((c, ([200, 203, 204, 300, 301, 308, 404, 405, 410, 414, 501], ((i : Int), ()))), ())) (fun i => if (([200, 203, 204, 300, 301, 308, 404, 405, 410, 414, 501] : List Int).drop i).any (fun x => decide (x = c)) then .inr ((true, ()), ()) else .inl ((), ())) ?_ K 0 (by omega) (by omega)
  · rw [List.drop_zero] at H
    simp only [wB_, wB_.tr]
    change Option.bind (wB_.l0 K K ((c, ([200, 203, 204, 300, 301, 308, 404, 405, 410, 414, 501], (((0 : Nat) : Int), ()))), ())) _ = _
    rw [H]
    change _ = some (([200, 203, 204, 300, 301, 308, 404, 405, 410, 414, 501] : List Int).any fun x => decide (x = c))
    cases ([200, 203, 204, 300, 301, 308, 404, 405, 410, 414, 501] : List Int).any fun x => decide (x = c) <;> rfl
  · have hlen : ([200, 203, 204, 300, 301, 308, 404, 405, 410, 414, 501] : List Int).length = 11 := rfl
    generalize ([200, 203, 204, 300, 301, 308, 404, 405, 410, 414, 501] : List Int) = vs at hlen
    intro i rec hi ih
    by_cases h : i < 11
    · have hh : (i : Int) < (vs.length : Int) := by omega
      have w1 := wrapSucc (show i < 9223372036854775807 by omega)
      have ih' := ih h
      rw [drop_get vs 0 (by omega), List.any_cons]
      by_cases d : vs.getD i 0 = c
      · simp only [wB_.t0, za', zb', zc', zd', ze', zf', zg', zh', zi', zj', zk', zl', zm', zn', zo', zp', zq', zr', zs', zt', hh, d, Bool.true_or]
      · simp only [wB_.t0, za', zb', zc', zd', ze', zf', zg', zh', zi', zj', zk', zl', zm', zn', zo', zp', zq', zr', zs', zt', hh, d, w1, Bool.false_or]
        exact ih'
    · have h2 : i = 11 := by omega
      have hh : ¬ (i : Int) < (vs.length : Int) := by omega
      have hd : vs.drop i = [] := List.drop_eq_nil_of_le (by omega)
      simp only [wB_.t0, za', zb', zc', zd', ze', zf', zg', zh', zi', zj', zk', zl', zm', zn', zo', zp', zq', zr', zs', zt', hh, hd, List.any_nil]
theorem div10 {r : Int} (h0 : 0 ≤ r) (h1 : r ≤ 2147483648) : IntKind.wrap .i64 (Int.tdiv r 10) = r / 10 := by
  rw [Int.tdiv_eq_ediv_of_nonneg h0]
  exact wrap64 (by omega) (by omega)
theorem wes {K : Nat} {s : Sto} (h : sized s.1.2.2.2.1) (hK : 1000000 + 100 ≤ K) : wce K s = some (lifeO s) := by
  have hp := wdl (K := K) h hK
  have hg : wct K s.1.2.2.2.1 [69, 120, 112, 105, 114, 101, 115] = some (getOf s.1.2.2.2.1 nExp) := wdG h (name := nExp) (by decide) (by omega)
  have w1 : wcy K s.1.2.2.2.1 [69, 120, 112, 105, 114, 101, 115] = some (whenO s.1.2.2.2.1 nExp) := wdt (n := nExp) h (by decide) hK
  have w2 : wcy K s.1.2.2.2.1 [76, 97, 115, 116, 45, 77, 111, 100, 105, 102, 105, 101, 100] = some (whenO s.1.2.2.2.1 nMod) := wdt (n := nMod) h (by decide) hK
  have hd : wcM K (((s.1.1, (s.1.2.1, (s.1.2.2.1, (s.1.2.2.2.1, (s.1.2.2.2.2.1, ()))))), (s.2.1, (s.2.2.1, ())))) = some (dateO s) := wen (s := s) h hK
  have ha := wfY (dateO s) (whenO s.1.2.2.2.1 nMod).1
  have hge : (getOf s.1.2.2.2.1 nExp).2.1 = decide ((allOf s.1.2.2.2.1 nExp).length > 0) := rfl
  simp only [wce, wb3, hp, za', zb', zc', zd', ze', zf', zg', zh', zi', zj', zk', zl', zm', zn', zo', zp', zq', zr', zs', zt']
  unfold lifeO
  by_cases c1 : (parseC s.1.2.2.2.1).2.2.2.2.2.2.2.1 ≥ 0
  · simp only [c1, za', zb', zc', zd', ze', zf', zg', zh', zi', zj', zk', zl', zm', zn', zo', zp', zq', zr', zs', zt']
  · rw [if_neg c1]
    by_cases c2 : (parseC s.1.2.2.2.1).2.2.2.2.2.2.1 ≥ 0
    · simp only [c1, c2, za', zb', zc', zd', ze', zf', zg', zh', zi', zj', zk', zl', zm', zn', zo', zp', zq', zr', zs', zt']
    · rw [if_neg c2]
      by_cases c3 : (allOf s.1.2.2.2.1 nExp).length > 0
      · rw [if_pos c3]
        simp only [c1, c2, hg, hge, c3, w1, za', zb', zc', zd', ze', zf', zg', zh', zi', zj', zk', zl', zm', zn', zo', zp', zq', zr', zs', zt']
        cases c4 : (whenO s.1.2.2.2.1 nExp).2.1 with
        | true => simp only [za', zb', zc', zd', ze', zf', zg', zh', zi', zj', zk', zl', zm', zn', zo', zp', zq', zr', zs', zt', hd, wdI _ _ (show 2 ≤ K by omega)]
        | false => simp only [za', zb', zc', zd', ze', zf', zg', zh', zi', zj', zk', zl', zm', zn', zo', zp', zq', zr', zs', zt']
      · rw [if_neg c3]
        simp only [c1, c2, hg, hge, c3, w2, za', zb', zc', zd', ze', zf', zg', zh', zi', zj', zk', zl', zm', zn', zo', zp', zq', zr', zs', zt']
        cases c4 : (whenO s.1.2.2.2.1 nMod).2.1 with
        | true =>
          simp only [za', zb', zc', zd', ze', zf', zg', zh', zi', zj', zk', zl', zm', zn', zo', zp', zq', zr', zs', zt', wed]
          cases c5 : usual s.1.1 with
          | true => simp only [za', zb', zc', zd', ze', zf', zg', zh', zi', zj', zk', zl', zm', zn', zo', zp', zq', zr', zs', zt', hd, wdI _ _ (show 2 ≤ K by omega), div10 ha.1 ha.2, wd0, and_self]
          | false => simp only [za', zb', zc', zd', ze', zf', zg', zh', zi', zj', zk', zl', zm', zn', zo', zp', zq', zr', zs', zt', and_false]
        | false => simp only [za', zb', zc', zd', ze', zf', zg', zh', zi', zj', zk', zl', zm', zn', zo', zp', zq', zr', zs', zt', false_and]
theorem wej {K : Nat} {s : Sto} (h : sized s.1.2.2.2.1) (hK : 1000000000000 + 100 ≤ K) : w6_ K s = some (lifeO s) := by
  have hp := wdz (K := K) h hK
  have hA : wo_ K s.1.2.2.2.1 [69, 120, 112, 105, 114, 101, 115] = some (allOf s.1.2.2.2.1 nExp) := wc6 h.1 (fun f hf => by have := (h.2 f hf).1; omega) (name := nExp) (by decide) (by omega)
  have w1 : wba K s.1.2.2.2.1 [69, 120, 112, 105, 114, 101, 115] = some (whenO s.1.2.2.2.1 nExp) := wdo (n := nExp) h (by decide) (by omega)
  have w2 : wba K s.1.2.2.2.1 [76, 97, 115, 116, 45, 77, 111, 100, 105, 102, 105, 101, 100] = some (whenO s.1.2.2.2.1 nMod) := wdo (n := nMod) h (by decide) (by omega)
  have hd : wbu K (((s.1.1, (s.1.2.1, (s.1.2.2.1, (s.1.2.2.2.1, (s.1.2.2.2.2.1, ()))))), (s.2.1, (s.2.2.1, ())))) = some (dateO s) := web (s := s) h (by omega)
  have ha := wfY (dateO s) (whenO s.1.2.2.2.1 nMod).1
  simp only [w6_, hp, za', zb', zc', zd', ze', zf', zg', zh', zi', zj', zk', zl', zm', zn', zo', zp', zq', zr', zs', zt']
  unfold lifeO
  by_cases c1 : (parseC s.1.2.2.2.1).2.2.2.2.2.2.2.1 ≥ 0
  · simp only [c1, za', zb', zc', zd', ze', zf', zg', zh', zi', zj', zk', zl', zm', zn', zo', zp', zq', zr', zs', zt']
  · rw [if_neg c1]
    by_cases c2 : (parseC s.1.2.2.2.1).2.2.2.2.2.2.1 ≥ 0
    · simp only [c1, c2, za', zb', zc', zd', ze', zf', zg', zh', zi', zj', zk', zl', zm', zn', zo', zp', zq', zr', zs', zt']
    · rw [if_neg c2]
      by_cases c3 : (allOf s.1.2.2.2.1 nExp).length > 0
      · have c3' : ((allOf s.1.2.2.2.1 nExp).length : Int) > 0 := by omega
        rw [if_pos c3]
        simp only [c1, c2, hA, c3', w1, za', zb', zc', zd', ze', zf', zg', zh', zi', zj', zk', zl', zm', zn', zo', zp', zq', zr', zs', zt']
        cases c4 : (whenO s.1.2.2.2.1 nExp).2.1 with
        | true => simp only [za', zb', zc', zd', ze', zf', zg', zh', zi', zj', zk', zl', zm', zn', zo', zp', zq', zr', zs', zt', hd, wdA]
        | false => simp only [za', zb', zc', zd', ze', zf', zg', zh', zi', zj', zk', zl', zm', zn', zo', zp', zq', zr', zs', zt']
      · have c3' : ¬ ((allOf s.1.2.2.2.1 nExp).length : Int) > 0 := by omega
        rw [if_neg c3]
        simp only [c1, c2, hA, c3', w2, za', zb', zc', zd', ze', zf', zg', zh', zi', zj', zk', zl', zm', zn', zo', zp', zq', zr', zs', zt']
        cases c4 : (whenO s.1.2.2.2.1 nMod).2.1 with
        | true =>
          simp only [za', zb', zc', zd', ze', zf', zg', zh', zi', zj', zk', zl', zm', zn', zo', zp', zq', zr', zs', zt', wdY _ (show 100 ≤ K by omega)]
          cases c5 : usual s.1.1 with
          | true => simp only [za', zb', zc', zd', ze', zf', zg', zh', zi', zj', zk', zl', zm', zn', zo', zp', zq', zr', zs', zt', hd, wdA, div10 ha.1 ha.2, wd0, and_self]
          | false => simp only [za', zb', zc', zd', ze', zf', zg', zh', zi', zj', zk', zl', zm', zn', zo', zp', zq', zr', zs', zt', and_false]
        | false => simp only [za', zb', zc', zd', ze', zf', zg', zh', zi', zj', zk', zl', zm', zn', zo', zp', zq', zr', zs', zt', false_and]
noncomputable def freshO (s : Sto) (now : Int) : Bool := decide (lifeO s > ageO s now)
theorem wfj {K : Nat} {s : Sto} {now : Int} (h : sized s.1.2.2.2.1) (hK : 1000000 + 100 ≤ K) : wcv K s now = some (freshO s now) := by
  have h1 : wce K (((s.1.1, (s.1.2.1, (s.1.2.2.1, (s.1.2.2.2.1, (s.1.2.2.2.2.1, ()))))), (s.2.1, (s.2.2.1, ())))) = some (lifeO s) := wes (s := s) h hK
  have h2 : wcN K (((s.1.1, (s.1.2.1, (s.1.2.2.1, (s.1.2.2.2.1, (s.1.2.2.2.2.1, ()))))), (s.2.1, (s.2.2.1, ())))) now = some (ageO s now) := wgf (s := s) h hK
  simp only [wcv, h1, h2, za', zb', zc', zd', ze', zf', zg', zh', zi', zj', zk', zl', zm', zn', zo', zp', zq', zr', zs', zt', freshO]
theorem weU {K : Nat} {s : Sto} {now : Int} (h : sized s.1.2.2.2.1) (hK : 1000000000000 + 100 ≤ K) : wbW K s now = some (freshO s now) := by
  have h1 : w6_ K (((s.1.1, (s.1.2.1, (s.1.2.2.1, (s.1.2.2.2.1, (s.1.2.2.2.2.1, ()))))), (s.2.1, (s.2.2.1, ())))) = some (lifeO s) := wej (s := s) h hK
  have h2 : wbz K (((s.1.1, (s.1.2.1, (s.1.2.2.1, (s.1.2.2.2.1, (s.1.2.2.2.2.1, ()))))), (s.2.1, (s.2.2.1, ())))) now = some (ageO s now) := wfK (s := s) h (by omega)
  simp only [wbW, h1, h2, za', zb', zc', zd', ze', zf', zg', zh', zi', zj', zk', zl', zm', zn', zo', zp', zq', zr', zs', zt', freshO]
end Go.Proofs.X
