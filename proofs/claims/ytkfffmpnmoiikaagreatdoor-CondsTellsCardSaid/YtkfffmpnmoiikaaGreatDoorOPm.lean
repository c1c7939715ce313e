/-
  A part of the proof. No condition.
-/
import Derived.Test.YtkfffmpnmoiikaaGreatDoorOPl
import Derived.Test.YtkfffmpnmoiikaaGreatDoorFc
/- Chapter 07 (dates): how the document reads times; the laws DateReads and DateBack. -/
set_option linter.unusedSimpArgs false
set_option linter.unusedVariables false
namespace Go.Proofs.X
open Go Go.Dp
def digT (s : List UInt8) (a n : Nat) : Int := if a + n > s.length then -1 else if (numR (cut s a (a + n)) 9999).2.1 = 0 then (numR (cut s a (a + n)) 9999).1 else -1
theorem wdv {K : Nat} (s : List UInt8) (a n : Nat) (h : a + n < 1000000000) (hK : 30 ≤ K) : wx_ K s (a : Int) (n : Int) = some (digT s a n) := by
  have w1 := wrapAdd (n := a) n (by omega)
  by_cases c : a + n > s.length
  · simp only [wx_, show ¬ (a : Int) < 0 by omega, w1, show ((a + n : Nat) : Int) > (s.length : Int) by omega, za', zb', zc', zd', ze', zf', zg', zh', zi', zj', zk', zl', zm', zn', zo', zp', zq', zr', zs', zt', digT, c]
  · simp only [wx_, show ¬ (a : Int) < 0 by omega, w1, show ¬ ((a + n : Nat) : Int) > (s.length : Int) by omega, za', zb', zc', zd', ze', zf', zg', zh', zi', zj', zk', zl', zm', zn', zo', zp', zq', zr', zs', zt', digT, c, show ((a + n : Nat) : Int) ≤ (s.length : Int) by omega, show (a : Int) ≤ ((a + n : Nat) : Int) by omega, weo _ 9999 hK]
    by_cases e : (numR (cut s a (a + n)) 9999).2.1 = 0
    · simp only [e, za', zb', zc', zd', ze', zf', zg', zh', zi', zj', zk', zl', zm', zn', zo', zp', zq', zr', zs', zt']
    · simp only [e, za', zb', zc', zd', ze', zf', zg', zh', zi', zj', zk', zl', zm', zn', zo', zp', zq', zr', zs', zt']
theorem wdl {s : List UInt8} {a n : Nat} {x : Nat} (h : part s a n ≠ []) (h2 : numR (part s a n) 9999 = ((x : Int), 0, ())) : digT s a n = x := by
  have c : ¬ a + n > s.length := fun c => h (by simp only [part, c, if_true])
  simp only [part, c, if_false] at h2
  simp only [digT, c, if_false, h2, if_true]
theorem wch {s : List UInt8} {a x : Nat} (h : part s a 2 = p2 x) (hx : x < 100) : digT s a 2 = x := wdl (by rw [h]; simp [p2]) (by rw [h, wfC hx])
theorem wfD {s : List UInt8} {a x : Nat} (h : part s a 4 = p4 x) (hx : x < 10000) : digT s a 4 = x := wdl (by rw [h]; simp [p4]) (by rw [h, wfB hx])
theorem wgc {s : List UInt8} {a x : Nat} (h : part s a 1 = p1 x) (hx : x < 10) : digT s a 1 = x := wdl (by rw [h]; simp [p1]) (by rw [h, wfs hx])
theorem wfJ {s : List UInt8} {a x : Nat} (h : part s a 2 = 32 :: p1 x) (hx : x < 10) : digT s a 2 = -1 := by
  have c : ¬ a + 2 > s.length := fun c => by rw [part, if_pos c] at h; cases h
  simp only [part, c, if_false] at h
  simp only [digT, c, if_false, h, wf7 hx]
  rfl
section
variable {t : Int} {w y m d h i j : Nat} {K : Nat}
theorem rmon (K : Nat) {i : Nat} (h : i < 12) : wW_ K (1 + (i : Int)) = some (monS i) := by
  rw [show (1 : Int) + (i : Int) = (i : Int) + 1 by omega]; exact wcr h
theorem weN (s : List UInt8) (a c : Nat) (yv dv : Int) (ha : a < 100000000) (hc : c < 100000000) (hK : 20000 ≤ K) : ∃ r, wl_ K s yv (a : Int) dv (c : Int) = some r := by
  have w3 : IntKind.wrap .i64 ((a : Int) + 3) = ((a + 3 : Nat) : Int) := wrapAdd 3 (by omega)
  have v3 : IntKind.wrap .i64 ((c : Int) + 3) = ((c + 3 : Nat) : Int) := wrapAdd 3 (by omega)
  have v6 : IntKind.wrap .i64 ((c : Int) + 6) = ((c + 6 : Nat) : Int) := wrapAdd 6 (by omega)
  have dk := fun b (hb : b < 900000000) => wdv (K := K) s b 2 (by omega) (by omega)
  have d1 := dk c (by omega); have d2 := dk (c + 3) (by omega); have d3 := dk (c + 6) (by omega)
  change wx_ K s (c : Int) 2 = _ at d1
  change wx_ K s ((c + 3 : Nat) : Int) 2 = _ at d2
  change wx_ K s ((c + 6 : Nat) : Int) 2 = _ at d3
  by_cases c1 : a + 3 > s.length
  · simp only [wl_, wl_.tr, show ¬ (a : Int) < 0 by omega, w3, show ((a + 3 : Nat) : Int) > (s.length : Int) by omega, za', zb', zc', zd', ze', zf', zg', zh', zi', zj', zk', zl', zm', zn', zo', zp', zq', zr', zs', zt']
    exact ⟨_, rfl⟩
  · have H := idx_ex (l := wl_.l0 K) (wl_.t0 K) (fun _ _ => rfl) 12 (fun i => ((s, (yv, ((a : Int), (dv, ((c : Int), (1 + (i : Int), ())))))), ())) (fun _ => True) (fun _ => True) ?_ K 0 (by omega) (by omega) trivial
    · obtain ⟨r, hr, _⟩ := H
      simp only [Int.natCast_zero, Int.add_zero] at hr
      simp only [wl_, wl_.tr, show ¬ (a : Int) < 0 by omega, w3, show ¬ ((a + 3 : Nat) : Int) > (s.length : Int) by omega, za', zb', zc', zd', ze', zf', zg', zh', zi', zj', zk', zl', zm', zn', zo', zp', zq', zr', zs', zt', hr]
      cases r <;> exact ⟨_, rfl⟩
    · intro i rec hi _ ih
      by_cases h : i < 12
      · have w1 : IntKind.wrap .i64 (1 + (i : Int) + 1) = 1 + ((i + 1 : Nat) : Int) := by rw [wrap64 (by omega) (by omega)]; omega
        simp only [wl_.t0, show 1 + (i : Int) ≤ 12 by omega, rmon K h, za', zb', zc', zd', ze', zf', zg', zh', zi', zj', zk', zl', zm', zn', zo', zp', zq', zr', zs', zt', w3, show ((a + 3 : Nat) : Int) ≤ (s.length : Int) by omega, show (0 : Int) ≤ ((a + 3 : Nat) : Int) by omega, show (a : Int) ≤ ((a + 3 : Nat) : Int) by omega]
        cases (monS i == cut s a (a + 3)) with
        | false => simp only [za', zb', zc', zd', ze', zf', zg', zh', zi', zj', zk', zl', zm', zn', zo', zp', zq', zr', zs', zt', w1]; exact ih h trivial
        | true =>
          simp only [za', zb', zc', zd', ze', zf', zg', zh', zi', zj', zk', zl', zm', zn', zo', zp', zq', zr', zs', zt', wdH _ _ _ hK, d1, v3, v6, d2, d3, wcu]
          exact ⟨_, rfl, trivial⟩
      · simp only [wl_.t0, show ¬ 1 + (i : Int) ≤ 12 by omega, za', zb', zc', zd', ze', zf', zg', zh', zi', zj', zk', zl', zm', zn', zo', zp', zq', zr', zs', zt']
        exact ⟨_, rfl, trivial⟩
theorem weB (p : PartsOf t w y m d h i j) {s : List UInt8} {a c : Nat} (hm : part s a 3 = monS m) (h1 : digT s c 2 = h) (h2 : digT s (c + 3) 2 = i) (h3 : digT s (c + 6) 2 = j) (ha : a < 100000000) (hc : c < 100000000) (hK : 20000 ≤ K) :
    wl_ K s (y : Int) (a : Int) (d : Int) (c : Int) = some t := by
  have w3 : IntKind.wrap .i64 ((a : Int) + 3) = ((a + 3 : Nat) : Int) := wrapAdd 3 (by omega)
  have v3 : IntKind.wrap .i64 ((c : Int) + 3) = ((c + 3 : Nat) : Int) := wrapAdd 3 (by omega)
  have v6 : IntKind.wrap .i64 ((c : Int) + 6) = ((c + 6 : Nat) : Int) := wrapAdd 6 (by omega)
  have dk := fun b (hb : b < 900000000) => wdv (K := K) s b 2 (by omega) (by omega)
  have d1 := dk c (by omega); have d2 := dk (c + 3) (by omega); have d3 := dk (c + 6) (by omega)
  change wx_ K s (c : Int) 2 = _ at d1
  change wx_ K s ((c + 3 : Nat) : Int) 2 = _ at d2
  change wx_ K s ((c + 6 : Nat) : Int) 2 = _ at d3
  have c1 : ¬ a + 3 > s.length := fun c => by
    obtain ⟨x, y, z, hz⟩ := mon3 p.m12
    rw [part, if_pos c, hz] at hm; cases hm
  have hcut : cut s a (a + 3) = monS m := by rw [part, if_neg c1] at hm; exact hm
  have g0 := p.y0; have g1 := p.y1; have g2 := p.h24; have g3 := p.i60; have g4 := p.j60; have g5 := p.t0; have g6 := p.t1; have g7 := p.m12
  have gt := p.time
  have hr := wcG p.val
  have hv : daysOf (y : Int) ((m : Int) + 1) (d : Int) = (cnt y ((m : Int) + 1) d, true, ()) := by simp only [daysOf, p.val, if_true]
  have fin : IntKind.wrap .i64 (IntKind.wrap .i64 (IntKind.wrap .i64 (IntKind.wrap .i64 (cnt y ((m : Int) + 1) d * 86400) + IntKind.wrap .i64 ((h : Int) * 3600)) + IntKind.wrap .i64 ((i : Int) * 60)) + (j : Int)) = t := by
    simp (disch := omega) only [wrap64]
    exact gt.symm
  have H := idx_rule (l := wl_.l0 K) (wl_.t0 K) (fun _ _ => rfl) m (fun i => ((s, ((y : Int), ((a : Int), ((d : Int), ((c : Int), (1 + (i : Int), ())))))), ())) (fun _ => .inr ((t, ()), ())) ?_ K 0 (by omega) (by omega)
  · simp only [Int.natCast_zero, Int.add_zero] at H
    simp only [wl_, wl_.tr, show ¬ (a : Int) < 0 by omega, w3, show ¬ ((a + 3 : Nat) : Int) > (s.length : Int) by omega, za', zb', zc', zd', ze', zf', zg', zh', zi', zj', zk', zl', zm', zn', zo', zp', zq', zr', zs', zt', H]
  · intro k rec hk ih
    have w1 : IntKind.wrap .i64 (1 + (k : Int) + 1) = 1 + ((k + 1 : Nat) : Int) := by rw [wrap64 (by omega) (by omega)]; omega
    by_cases hlt : k < m
    · have hne : (monS k == monS m) = false := by
        simp only [beq_eq_false_iff_ne, ne_eq]
        exact fun e => by have := wf4 (by omega) g7 e; omega
      simp only [wl_.t0, show 1 + (k : Int) ≤ 12 by omega, rmon K (show k < 12 by omega), za', zb', zc', zd', ze', zf', zg', zh', zi', zj', zk', zl', zm', zn', zo', zp', zq', zr', zs', zt', w3, show ((a + 3 : Nat) : Int) ≤ (s.length : Int) by omega, show (0 : Int) ≤ ((a + 3 : Nat) : Int) by omega, show (a : Int) ≤ ((a + 3 : Nat) : Int) by omega, hcut, hne, w1]
      exact ih hlt
    · obtain rfl : k = m := by omega
      simp only [wl_.t0, show (k : Int) + 1 ≤ 12 by omega, wcr (K := K) g7, za', zb', zc', zd', ze', zf', zg', zh', zi', zj', zk', zl', zm', zn', zo', zp', zq', zr', zs', zt', w3, show ((a + 3 : Nat) : Int) ≤ (s.length : Int) by omega, show (0 : Int) ≤ ((a + 3 : Nat) : Int) by omega, show (a : Int) ≤ ((a + 3 : Nat) : Int) by omega, hcut, beq_self_eq_true,
        wdH _ _ _ hK, show (1 : Int) + (k : Int) = (k : Int) + 1 by omega, hv, d1, v3, v6, d2, d3, h1, h2, h3,
        show ¬ (h : Int) < 0 by omega, show ¬ (h : Int) > 23 by omega, show ¬ (i : Int) < 0 by omega, show ¬ (i : Int) > 59 by omega, show ¬ (j : Int) < 0 by omega, show ¬ (j : Int) > 59 by omega, fin]
end
theorem wf8 {K : Nat} {t : Int} (hR : inR t) (hK : 20000 ≤ K) : wl_ K (fT t) (digT (fT t) 12 4) 8 (digT (fT t) 5 2) 17 = some t := by
  obtain ⟨w, y, m, d, h, i, j, p⟩ := wcg hR.1 hR.2
  obtain ⟨x0, x1, x2, a, b, c, hm, hw⟩ := wcF p.w7 p.m12
  obtain ⟨f1, f2, f3, f4, f5, f6⟩ := wea x0 x1 x2 a b c d y h i j
  have e : fmtS w y m d h i j = [x0, x1, x2] ++ [44, 32] ++ p2 d ++ [32] ++ [a, b, c] ++ [32] ++ p4 y ++ [32] ++ clkS h i j ++ [32, 71, 77, 84] := by simp only [fmtS, hm, hw]
  rw [← e] at f1 f2 f3 f4 f5 f6
  have := p.y1; have := p.d1; have := p.h24; have := p.i60; have := p.j60
  rw [fT_in p, wfD f1 (by omega), wch f3 (by omega)]
  exact weB (a := 8) (c := 17) p (by rw [f2, hm]) (wch f4 (by omega)) (wch f5 (by omega)) (wch f6 (by omega)) (by omega) (by omega) hK
theorem wf2 {K : Nat} {t : Int} (hO : inO t) (hK : 20000 ≤ K) : ∃ c : Nat, c < 100 ∧ ((oT t).takeWhile (· != 44)).length = c ∧
    wl_ K (oT t) (if digT (oT t) (c + 9) 2 ≥ 70 then 1900 + digT (oT t) (c + 9) 2 else 2000 + digT (oT t) (c + 9) 2) ((c + 5 : Nat) : Int) (digT (oT t) (c + 2) 2) ((c + 12 : Nat) : Int) = some t := by
  have hR := inO_R hO
  obtain ⟨w, y, m, d, h, i, j, p⟩ := wcg hR.1 hR.2
  obtain ⟨a, b, c, hm⟩ := mon3 p.m12
  obtain ⟨f1, f2, f3, f4, f5, f6, f7, f8, f9⟩ := wem p.w7 a b c d (y % 100) h i j
  have e : oldS w y m d h i j = dayS w ++ [44, 32] ++ p2 d ++ [45] ++ [a, b, c] ++ [45] ++ p2 (y % 100) ++ [32] ++ clkS h i j ++ [32, 71, 77, 84] := by simp only [oldS, hm]
  rw [← e] at f1 f2 f3 f4 f5 f6 f7 f8 f9
  have := p.y0; have := p.y1; have := p.d1; have := p.h24; have := p.i60; have := p.j60
  have hy := weS p hO
  have hc : dlen w < 100 := by
    have := (oldS w y m d h i j).takeWhile_prefix (· != 44)
    have := this.length_le; omega
  rw [oT_in p hO]
  refine ⟨dlen w, hc, f8, ?_⟩
  rw [wch f1 (by omega), wch f3 (by omega)]
  have ey : (if ((y % 100 : Nat) : Int) ≥ 70 then 1900 + ((y % 100 : Nat) : Int) else 2000 + ((y % 100 : Nat) : Int)) = (y : Int) := by split <;> omega
  rw [ey]
  exact weB (a := dlen w + 5) (c := dlen w + 12) p (by rw [f2, hm]) (wch f4 (by omega)) (wch f5 (by omega)) (wch f6 (by omega)) (by omega) (by omega) hK
theorem wfm (x0 x1 x2 a b c u v : UInt8) (y h i j : Nat) : part ([x0, x1, x2] ++ [32] ++ [a, b, c] ++ [32] ++ [u, v] ++ [32] ++ clkS h i j ++ [32] ++ p4 y) 9 1 = [v] := by kernel_rfl
theorem wge {K : Nat} {t : Int} (hR : inR t) (hK : 20000 ≤ K) : wl_ K (pT t) (digT (pT t) 20 4) 4 (if digT (pT t) 8 2 < 0 then digT (pT t) 9 1 else digT (pT t) 8 2) 11 = some t := by
  obtain ⟨w, y, m, d, h, i, j, p⟩ := wcg hR.1 hR.2
  obtain ⟨x0, x1, x2, a, b, c, hm, hw⟩ := wcF p.w7 p.m12
  obtain ⟨u, v, h2⟩ := wd3 d
  obtain ⟨f1, f2, f3, f4, f5, f6⟩ := wei x0 x1 x2 a b c u v y h i j
  have f7 := wfm x0 x1 x2 a b c u v y h i j
  have e : plnS w y m d h i j = [x0, x1, x2] ++ [32] ++ [a, b, c] ++ [32] ++ [u, v] ++ [32] ++ clkS h i j ++ [32] ++ p4 y := by simp only [plnS, hm, hw, h2]
  rw [← e] at f1 f2 f3 f4 f5 f6 f7
  have := p.y1; have := p.d1; have := p.h24; have := p.i60; have := p.j60
  have hd : (if digT (plnS w y m d h i j) 8 2 < 0 then digT (plnS w y m d h i j) 9 1 else digT (plnS w y m d h i j) 8 2) = (d : Int) := by
    rw [← h2] at f3
    by_cases hd : d < 10
    · have e2 : twoS d = 32 :: p1 d := by simp only [twoS, hd, if_true]
      rw [e2] at f3 h2
      have : [v] = p1 d := by simpa [p1] using (List.cons.inj h2).2.symm
      rw [this] at f7
      rw [wfJ f3 hd, if_pos (by decide), wgc f7 hd]
    · have e2 : twoS d = p2 d := by simp only [twoS, hd, if_false]
      rw [e2] at f3
      rw [wch f3 (by omega), if_neg (by omega)]
  rw [pT_in p, wfD f1 (by omega), hd]
  exact weB (a := 4) (c := 11) p (by rw [f2, hm]) (wch f4 (by omega)) (wch f5 (by omega)) (wch f6 (by omega)) (by omega) (by omega) hK
theorem wd6 (K : Nat) : ws_ (K + 40) [] = some (0, 24, ()) := by kernel_rfl
theorem wdm {K : Nat} (s : List UInt8) (hs : s.length < 10000000) (hK : 10000005 ≤ K) : ws_.l0 K K ((s, (0, ())), ()) = some ((s, (((s.takeWhile (· != 44)).length : Int), ())), ()) := by
  have H := idx_rule (l := ws_.l0 K) (ws_.t0 K) (fun _ _ => rfl) (s.takeWhile (· != 44)).length (fun i => ((s, ((i : Int), ())), ())) (fun _ => ((s, (((s.takeWhile (· != 44)).length : Int), ())), ())) ?_ K 0 (by omega) (by have := takeWhile_len s (· != 44); omega)
  · exact H
  · intro i rec hi ih
    have hl := takeWhile_len s (· != 44)
    have w1 := wrapSucc (show i < 9223372036854775807 by omega)
    by_cases hlt : i < (s.takeWhile (· != 44)).length
    · have hlt2 : i < s.length := by omega
      have hne : ¬ ((s.getD i 0).toNat : Int) = 44 := fun e => by
        have e1 : (s.takeWhile (· != 44)).getD i 0 = s.getD i 0 := by
          conv => lhs; rw [← take_takeWhile s (· != 44)]
          simp only [List.getD_eq_getElem?_getD, List.getElem?_take]
          rw [if_pos hlt]
        have e2 : s.getD i 0 = 44 := (byte44 _).1 e
        have e3 := List.all_eq_true.1 (List.all_takeWhile (p := (· != 44)) (l := s)) _ (List.getElem_mem hlt)
        rw [← getD_get _ 0 hlt, e1, e2] at e3
        cases e3
      simp only [ws_.t0, show (i : Int) < (s.length : Int) by omega, za', zb', zc', zd', ze', zf', zg', zh', zi', zj', zk', zl', zm', zn', zo', zp', zq', zr', zs', zt', hne, w1]
      exact ih hlt
    · have hi2 : i = (s.takeWhile (· != 44)).length := by omega
      rw [← hi2]
      by_cases hend : i < s.length
      · have e1 := drop_takeWhile s (· != 44)
        rw [← hi2, drop_get s 0 hend] at e1
        have e2 := wcC e1.symm
        have e3 : s.getD i 0 = 44 := by simpa using e2
        have e4 : ((s.getD i 0).toNat : Int) = 44 := by rw [e3]; rfl
        simp only [ws_.t0, show (i : Int) < (s.length : Int) by omega, za', zb', zc', zd', ze', zf', zg', zh', zi', zj', zk', zl', zm', zn', zo', zp', zq', zr', zs', zt', e4]
      · simp only [ws_.t0, show ¬ (i : Int) < (s.length : Int) by omega, za', zb', zc', zd', ze', zf', zg', zh', zi', zj', zk', zl', zm', zn', zo', zp', zq', zr', zs', zt']
theorem we2 {K : Nat} (s : List UInt8) (hs : s.length < 10000000) (hK : 10000005 ≤ K) : ∃ r, ws_ K s = some r ∧ ParseR s r := by
  have hF := fun t => (wcI (K := K) t (by omega)).2.1
  have hO := fun t => (wcI (K := K) t (by omega)).2.2.2.1
  have hP := fun t => (wcI (K := K) t (by omega)).2.2.2.2.2
  by_cases hne : s = []
  · subst hne
    have a1 : ¬ ∃ t, inR t ∧ fT t = [] := fun ⟨t, ht, e⟩ => fT_ne ht e
    have a2 : ¬ ∃ t, inO t ∧ oT t = [] := fun ⟨t, ht, e⟩ => oT_ne ht e
    have a3 : ¬ ∃ t, inR t ∧ pT t = [] := fun ⟨t, ht, e⟩ => pT_ne ht e
    refine ⟨(0, 24, ()), ?_, .inr (.inr (.inr ⟨a1, a2, a3, rfl⟩))⟩
    obtain ⟨j, rfl⟩ := Nat.exists_eq_add_of_le (show 40 ≤ K by omega)
    rw [Nat.add_comm]; exact wd6 j
  obtain ⟨c, hc⟩ : ∃ c : Nat, (s.takeWhile (· != 44)).length = c := ⟨_, rfl⟩
  have hcl := takeWhile_len s (· != 44)
  have dk := fun a n (h : a + n < 1000000000) => wdv (K := K) s a n h (by omega)
  have k1 := dk 12 4 (by omega)
  have k2 := dk 5 2 (by omega)
  have k3 := dk (c + 9) 2 (by omega)
  have k4 := dk (c + 2) 2 (by omega)
  have k5 := dk 8 2 (by omega)
  have k6 := dk 9 1 (by omega)
  have k7 := dk 20 4 (by omega)
  change wx_ K s 12 4 = _ at k1
  change wx_ K s 5 2 = _ at k2
  change wx_ K s ((c + 9 : Nat) : Int) 2 = _ at k3
  change wx_ K s ((c + 2 : Nat) : Int) 2 = _ at k4
  change wx_ K s 8 2 = _ at k5
  change wx_ K s 9 1 = _ at k6
  change wx_ K s 20 4 = _ at k7
  have w2 : IntKind.wrap .i64 ((c : Int) + 2) = ((c + 2 : Nat) : Int) := wrapAdd 2 (by omega)
  have w5 : IntKind.wrap .i64 ((c : Int) + 5) = ((c + 5 : Nat) : Int) := wrapAdd 5 (by omega)
  have w9 : IntKind.wrap .i64 ((c : Int) + 9) = ((c + 9 : Nat) : Int) := wrapAdd 9 (by omega)
  have w12 : IntKind.wrap .i64 ((c : Int) + 12) = ((c + 12 : Nat) : Int) := wrapAdd 12 (by omega)
  obtain ⟨t1, h1⟩ := weN (K := K) s 8 17 (digT s 12 4) (digT s 5 2) (by omega) (by omega) (by omega)
  change wl_ K s _ 8 _ 17 = _ at h1
  have hdr : ∀ a n, -1 ≤ digT s a n ∧ digT s a n < 1000000000 := by
    intro a n
    simp only [digT]; split
    · omega
    · split
      · rename_i h0
        simp only [numR] at h0 ⊢
        split at h0
        · cases h0
        · rename_i h3
          rw [if_neg h3]
          split at h0
          · rename_i h4
            rw [if_pos h4]
            split at h0
            · cases h0
            · rename_i h5; rw [if_neg h5]; simp only; omega
          · cases h0
      · omega
  obtain ⟨t2, h2⟩ := weN (K := K) s (c + 5) (c + 12) (if digT s (c + 9) 2 ≥ 70 then 1900 + digT s (c + 9) 2 else 2000 + digT s (c + 9) 2) (digT s (c + 2) 2) (by omega) (by omega) (by omega)
  obtain ⟨t3, h3⟩ := weN (K := K) s 4 11 (digT s 20 4) (if digT s 8 2 < 0 then digT s 9 1 else digT s 8 2) (by omega) (by omega) (by omega)
  change wl_ K s _ 4 _ 11 = _ at h3
  have hdr9 := hdr (c + 9) 2
  have hyear : (bif decide (digT s (c + 9) 2 ≥ 70) then (some ((s, ((c : Int), ((IntKind.wrap .i64 (1900 + digT s (c + 9) 2)), ()))), ()) : Option ((List UInt8 × (Int × (Int × Unit))) × Unit)) else some ((s, ((c : Int), ((IntKind.wrap .i64 (2000 + digT s (c + 9) 2)), ()))), ())) =
      some ((s, ((c : Int), ((if digT s (c + 9) 2 ≥ 70 then 1900 + digT s (c + 9) 2 else 2000 + digT s (c + 9) 2), ()))), ()) := by
    by_cases e : digT s (c + 9) 2 ≥ 70
    · simp only [e, za', zb', zc', zd', ze', zf', zg', zh', zi', zj', zk', zl', zm', zn', zo', zp', zq', zr', zs', zt']; rw [wrap64 (by omega) (by omega)]
    · simp only [e, za', zb', zc', zd', ze', zf', zg', zh', zi', zj', zk', zl', zm', zn', zo', zp', zq', zr', zs', zt']; rw [wrap64 (by omega) (by omega)]
  have hday : (bif decide (digT s 8 2 < 0) then (Option.bind (wx_ K s 9 1) fun r27 => (some ((s, (r27, ())), ()) : Option ((List UInt8 × (Int × Unit)) × Unit))) else some ((s, (digT s 8 2, ())), ())) = some ((s, ((if digT s 8 2 < 0 then digT s 9 1 else digT s 8 2), ())), ()) := by
    by_cases e : digT s 8 2 < 0
    · simp only [e, za', zb', zc', zd', ze', zf', zg', zh', zi', zj', zk', zl', zm', zn', zo', zp', zq', zr', zs', zt', k6]
    · simp only [e, za', zb', zc', zd', ze', zf', zg', zh', zi', zj', zk', zl', zm', zn', zo', zp', zq', zr', zs', zt']
  simp only [ws_, ws_.tr, k1, k2, h1, za', zb', zc', zd', ze', zf', zg', zh', zi', zj', zk', zl', zm', zn', zo', zp', zq', zr', zs', zt', wdm s hs hK, hc, w2, w5, w9, w12, k3, k4, k5, k7]
  by_cases c1 : t1 ≥ 0 ∧ fT t1 = s
  · have hin : inR t1 := by
      by_cases hi : inR t1
      · exact hi
      · rw [wfY hi] at c1; exact absurd c1.2.symm hne
    simp only [c1.1, hF, c1.2, beq_self_eq_true, za', zb', zc', zd', ze', zf', zg', zh', zi', zj', zk', zl', zm', zn', zo', zp', zq', zr', zs', zt']
    exact ⟨_, rfl, .inl ⟨t1, hin, c1.2, rfl⟩⟩
  have a1 : ¬ ∃ t, inR t ∧ fT t = s := by
    rintro ⟨t, ht, e⟩
    have := wf8 (K := K) ht (by omega)
    rw [e, h1] at this
    rw [← Option.some.inj this] at e ht
    exact c1 ⟨ht.1, e⟩
  have c1b : (bif decide (t1 ≥ 0) then (Option.bind (w5_ K t1) fun r8 => (some ((s, (t1, ((r8 == s), ()))), ()) : Option ((List UInt8 × (Int × (Bool × Unit))) × Unit))) else some ((s, (t1, (false, ()))), ())) = some ((s, (t1, (false, ()))), ()) := by
    by_cases e : t1 ≥ 0
    · have : (fT t1 == s) = false := by simpa using fun h => c1 ⟨e, h⟩
      simp only [e, za', zb', zc', zd', ze', zf', zg', zh', zi', zj', zk', zl', zm', zn', zo', zp', zq', zr', zs', zt', hF, this]
    · simp only [e, za', zb', zc', zd', ze', zf', zg', zh', zi', zj', zk', zl', zm', zn', zo', zp', zq', zr', zs', zt']
  simp only [c1b, za', zb', zc', zd', ze', zf', zg', zh', zi', zj', zk', zl', zm', zn', zo', zp', zq', zr', zs', zt', hyear, h2]
  simp only [wdm s hs hK, hc, za', zb', zc', zd', ze', zf', zg', zh', zi', zj', zk', zl', zm', zn', zo', zp', zq', zr', zs', zt', w2, w5, w9, w12, k3, k4, k5, k7, hyear, h2]
  by_cases c2 : t2 ≥ 0 ∧ oT t2 = s
  · have hin : inO t2 := by
      by_cases hi : inO t2
      · exact hi
      · rw [wf1 hi] at c2; exact absurd c2.2.symm hne
    simp only [c2.1, hO, c2.2, beq_self_eq_true, za', zb', zc', zd', ze', zf', zg', zh', zi', zj', zk', zl', zm', zn', zo', zp', zq', zr', zs', zt']
    exact ⟨_, rfl, .inr (.inl ⟨a1, t2, hin, c2.2, rfl⟩)⟩
  have a2 : ¬ ∃ t, inO t ∧ oT t = s := by
    rintro ⟨t, ht, e⟩
    obtain ⟨c', hc', e2, e3⟩ := wf2 (K := K) ht (by omega)
    rw [e] at e2 e3
    rw [hc] at e2
    subst e2
    rw [e3] at h2
    rw [Option.some.inj h2] at e ht
    exact c2 ⟨ht.1, e⟩
  have c2b : (bif decide (t2 ≥ 0) then (Option.bind (wbt K t2) fun r8 => (some ((s, (t2, ((r8 == s), ()))), ()) : Option ((List UInt8 × (Int × (Bool × Unit))) × Unit))) else some ((s, (t2, (false, ()))), ())) = some ((s, (t2, (false, ()))), ()) := by
    by_cases e : t2 ≥ 0
    · have : (oT t2 == s) = false := by simpa using fun h => c2 ⟨e, h⟩
      simp only [e, za', zb', zc', zd', ze', zf', zg', zh', zi', zj', zk', zl', zm', zn', zo', zp', zq', zr', zs', zt', hO, this]
    · simp only [e, za', zb', zc', zd', ze', zf', zg', zh', zi', zj', zk', zl', zm', zn', zo', zp', zq', zr', zs', zt']
  simp only [c2b, za', zb', zc', zd', ze', zf', zg', zh', zi', zj', zk', zl', zm', zn', zo', zp', zq', zr', zs', zt', k5, hday, k7, h3]
  by_cases c3 : t3 ≥ 0 ∧ pT t3 = s
  · have hin : inR t3 := by
      by_cases hi : inR t3
      · exact hi
      · rw [wfZ hi] at c3; exact absurd c3.2.symm hne
    simp only [c3.1, hP, c3.2, beq_self_eq_true, za', zb', zc', zd', ze', zf', zg', zh', zi', zj', zk', zl', zm', zn', zo', zp', zq', zr', zs', zt']
    exact ⟨_, rfl, .inr (.inr (.inl ⟨a1, a2, t3, hin, c3.2, rfl⟩))⟩
  have a3 : ¬ ∃ t, inR t ∧ pT t = s := by
    rintro ⟨t, ht, e⟩
    have := wge (K := K) ht (by omega)
    rw [e, h3] at this
    rw [← Option.some.inj this] at e ht
    exact c3 ⟨ht.1, e⟩
  have c3b : (bif decide (t3 ≥ 0) then (Option.bind (wbb K t3) fun r8 => (some ((t3, ((r8 == s), ())), ()) : Option ((Int × (Bool × Unit)) × Unit))) else some ((t3, (false, ())), ())) = some ((t3, (false, ())), ()) := by
    by_cases e : t3 ≥ 0
    · have : (pT t3 == s) = false := by simpa using fun h => c3 ⟨e, h⟩
      simp only [e, za', zb', zc', zd', ze', zf', zg', zh', zi', zj', zk', zl', zm', zn', zo', zp', zq', zr', zs', zt', hP, this]
    · simp only [e, za', zb', zc', zd', ze', zf', zg', zh', zi', zj', zk', zl', zm', zn', zo', zp', zq', zr', zs', zt']
  simp only [c3b, za', zb', zc', zd', ze', zf', zg', zh', zi', zj', zk', zl', zm', zn', zo', zp', zq', zr', zs', zt']
  exact ⟨_, rfl, .inr (.inr (.inr ⟨a1, a2, a3, rfl⟩))⟩
/-! ### The forms differ -/
theorem f3 {t : Int} (h : inR t) : (fT t).getD 3 0 = 44 := by
  obtain ⟨w, y, m, d, hh, i, j, p⟩ := wcg h.1 h.2
  obtain ⟨x0, x1, x2, a, b, c, hm, hw⟩ := wcF p.w7 p.m12
  rw [fT_in p]; simp only [fmtS, hw]; rfl
end Go.Proofs.X
