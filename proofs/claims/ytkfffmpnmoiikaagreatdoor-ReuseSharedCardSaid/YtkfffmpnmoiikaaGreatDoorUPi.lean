/-
  A part of the proof. No condition.
-/
import Derived.Test.YtkfffmpnmoiikaaGreatDoorUPh
/- Chapter 07 (dates): how the program reads times. -/
set_option linter.unusedSimpArgs false
set_option linter.unusedVariables false
namespace Go.Proofs.X
open Go Go.Dp
def fT (t : Int) : List UInt8 := (wcq 20000 t).getD []
def oT (t : Int) : List UInt8 := (wcZ 20000 t).getD []
def pT (t : Int) : List UInt8 := (wcx 20000 t).getD []
theorem weC {K : Nat} (t : Int) (hK : 20000 ≤ K) : wcq K t = some (fT t) ∧ wbf K t = some (fT t) ∧ wcZ K t = some (oT t) ∧ wbJ K t = some (oT t) ∧ wcx K t = some (pT t) ∧ wbk K t = some (pT t) := by
  obtain ⟨F, O, P, h⟩ := forms t
  obtain ⟨h1, h2, h3, h4, h5, h6⟩ := h 20000 (Nat.le_refl _)
  have e1 : fT t = F := by simp only [fT, h1, Option.getD_some]
  have e2 : oT t = O := by simp only [oT, h3, Option.getD_some]
  have e3 : pT t = P := by simp only [pT, h5, Option.getD_some]
  rw [e1, e2, e3]
  exact h K hK
section
variable {t : Int} {w y m d h i j : Nat} {K : Nat}
theorem fT_in (p : PartsOf t w y m d h i j) : fT t = fmtS w y m d h i j := by simp only [fT, wef p, Option.getD_some]
theorem oT_in (p : PartsOf t w y m d h i j) (hO : inO t) : oT t = oldS w y m d h i j := by simp only [oT, wgI p hO, Option.getD_some]
theorem pT_in (p : PartsOf t w y m d h i j) : pT t = plnS w y m d h i j := by simp only [pT, wfR p, Option.getD_some]
theorem whl (h : ¬ inR t) : fT t = [] := by simp only [fT, wep h, Option.getD_some]
theorem whi (h : ¬ inO t) : oT t = [] := by simp only [oT, we1 h, Option.getD_some]
theorem whd (h : ¬ inR t) : pT t = [] := by simp only [pT, wfY h, Option.getD_some]
/-! ### Reading: the program -/
def part (s : List UInt8) (a n : Nat) : List UInt8 := if a + n > s.length then [] else cut s a (a + n)
theorem wdk (s : List UInt8) (a n : Nat) (h : a + n < 1000000000) : wbn K (a : Int) (n : Int) s = some (part s a n) := by
  have w1 := wrapAdd (n := a) n (by omega)
  by_cases c : a + n > s.length
  · simp only [wbn, w1, show ((a + n : Nat) : Int) > (s.length : Int) by omega, za', zb', zc', zd', ze', zf', zg', zh', zi', zj', zk', zl', zm', zn', zo', zp', zq', zr', zs', zt', part, c]
  · simp only [wbn, w1, show ¬ ((a + n : Nat) : Int) > (s.length : Int) by omega, za', zb', zc', zd', ze', zf', zg', zh', zi', zj', zk', zl', zm', zn', zo', zp', zq', zr', zs', zt', part, c, show ((a + n : Nat) : Int) ≤ (s.length : Int) by omega, show (a : Int) ≤ ((a + n : Nat) : Int) by omega]
theorem wgv (s : List UInt8) (a n : Nat) : (part s a n).length ≤ n := by
  simp only [part, cut]; split
  · simp
  · simp; omega
theorem wgz (s : List UInt8) (hK : 20 ≤ K) : ∃ r, w8_ K s = some r := by
  have H := idx_ex (l := w8_.l0 K) (w8_.t0 K) (fun _ _ => rfl) 12 (fun i => ((s, (wcG, ((i : Int), ()))), ())) (fun _ => True) (fun _ => True) ?_ K 0 (by omega) (by omega) trivial
  · obtain ⟨r, hr, _⟩ := H
    have e0 : ((0 : Nat) : Int) = 0 := rfl
    simp only [w8_, w8_.tr]
    change ∃ r, Option.bind (w8_.l0 K K ((s, (wcG, (((0 : Nat) : Int), ()))), ())) _ = some r
    rw [hr]
    simp only [za', zb', zc', zd', ze', zf', zg', zh', zi', zj', zk', zl', zm', zn', zo', zp', zq', zr', zs', zt']
    cases r <;> exact ⟨_, rfl⟩
  · intro i rec hi _ ih
    by_cases h : i < 12
    · have w1 := wrapSucc (show i < 9223372036854775807 by omega)
      simp only [w8_.t0, show (i : Int) < 12 by omega, za', zb', zc', zd', ze', zf', zg', zh', zi', zj', zk', zl', zm', zn', zo', zp', zq', zr', zs', zt', w1]
      cases (wcG.getD i [] == s) with
      | true => exact ⟨_, rfl, trivial⟩
      | false => exact ih h trivial
    · simp only [w8_.t0, show ¬ (i : Int) < 12 by omega, za', zb', zc', zd', ze', zf', zg', zh', zi', zj', zk', zl', zm', zn', zo', zp', zq', zr', zs', zt']
      exact ⟨_, rfl, trivial⟩
theorem wdr (s : List UInt8) (a n : Nat) (hn : n ≤ 4) (hK : 30 ≤ K) : wcr K (part s a n) = some (numB (part s a n)) := wfA _ (by have := wgv s a n; omega) hK
theorem wdz {α : Type} (b : Bool) (x y : α) : (bif b then some x else some y) = some (bif b then x else y) := by cases b <;> rfl
theorem we7 (s : List UInt8) (d m y dg clock : Nat) (hdg : dg ≤ 4) (h1 : d < 100000000) (h2 : m < 100000000) (h3 : y < 100000000) (h4 : clock < 100000000) (hK : 30 ≤ K) : ∃ r, wcz K s (d : Int) (m : Int) (y : Int) (dg : Int) (clock : Int) = some r := by
  obtain ⟨mm, hm⟩ := wgz (K := K) (part s m 3) (by omega)
  have w3 := wrapAdd (n := clock) 3 (by omega)
  have w6 := wrapAdd (n := clock) 6 (by omega)
  have q3 : IntKind.wrap .i64 ((clock : Int) + 3) = ((clock + 3 : Nat) : Int) := w3
  have q6 : IntKind.wrap .i64 ((clock : Int) + 6) = ((clock + 6 : Nat) : Int) := w6
  have p2' := fun a (ha : a + 2 < 1000000000) => wdk (K := K) s a 2 ha
  have p3' := wdk (K := K) s m 3 (by omega)
  have n2 := fun a => wdr (K := K) s a 2 (by omega) hK
  have b1 := p2' d (by omega); have b2 := p2' clock (by omega); have b3 := p2' (clock + 3) (by omega); have b4 := p2' (clock + 6) (by omega)
  change wbn K (d : Int) 2 s = _ at b1
  change wbn K (clock : Int) 2 s = _ at b2
  change wbn K ((clock + 3 : Nat) : Int) 2 s = _ at b3
  change wbn K ((clock + 6 : Nat) : Int) 2 s = _ at b4
  change wbn K (m : Int) 3 s = _ at p3'
  have hc : ∀ x, ∃ c, wct K x = some c := fun x => by
    simp only [wct]; cases decide (x ≥ 70) <;> exact ⟨_, rfl⟩
  obtain ⟨c, hc⟩ := hc (numB (part s y dg))
  simp only [wcz, wdk s y dg (by omega), wdr s y dg hdg hK, za', zb', zc', zd', ze', zf', zg', zh', zi', zj', zk', zl', zm', zn', zo', zp', zq', zr', zs', zt']
  by_cases e : (dg : Int) = 2
  · simp only [e, za', zb', zc', zd', ze', zf', zg', zh', zi', zj', zk', zl', zm', zn', zo', zp', zq', zr', zs', zt']
    by_cases e2 : numB (part s y dg) ≥ 0
    · simp only [e2, za', zb', zc', zd', ze', zf', zg', zh', zi', zj', zk', zl', zm', zn', zo', zp', zq', zr', zs', zt', hc, p3', hm, b1, b2, q3, q6, b3, b4, n2, wdi]
      simp only [wdz, bind_some']
      exact ⟨_, rfl⟩
    · simp only [e2, za', zb', zc', zd', ze', zf', zg', zh', zi', zj', zk', zl', zm', zn', zo', zp', zq', zr', zs', zt', hc, p3', hm, b1, b2, q3, q6, b3, b4, n2, wdi]
      simp only [wdz, bind_some']
      exact ⟨_, rfl⟩
  · simp only [e, za', zb', zc', zd', ze', zf', zg', zh', zi', zj', zk', zl', zm', zn', zo', zp', zq', zr', zs', zt', p3', hm, b1, b2, q3, q6, b3, b4, n2, wdi]
    simp only [wdz, bind_some']
    exact ⟨_, rfl⟩
structure Reads (s : List UInt8) (d m y dg clock : Nat) (t : Int) (yy dd mm hh ii jj : Nat) : Prop where
  y : numB (part s y dg) = if dg = 2 then ((yy % 100 : Nat) : Int) else (yy : Int)
  m : part s m 3 = monS mm
  d : numB (part s d 2) = dd
  h : numB (part s clock 2) = hh
  i : numB (part s (clock + 3) 2) = ii
  j : numB (part s (clock + 6) 2) = jj
theorem wfg {s : List UInt8} {dp mp yp dgs cl : Nat} (p : PartsOf t w y m d h i j) (q : Reads s dp mp yp dgs cl t y d m h i j) (hdg : dgs ≤ 4) (hc : dgs = 2 → y ≤ 2069) (h1 : dp < 100000000) (h2 : mp < 100000000) (h3 : yp < 100000000) (h4 : cl < 100000000) (hK : 30 ≤ K) :
    wcz K s (dp : Int) (mp : Int) (yp : Int) (dgs : Int) (cl : Int) = some t := by
  have q3 : IntKind.wrap .i64 ((cl : Int) + 3) = ((cl + 3 : Nat) : Int) := wrapAdd (n := cl) 3 (by omega)
  have q6 : IntKind.wrap .i64 ((cl : Int) + 6) = ((cl + 6 : Nat) : Int) := wrapAdd (n := cl) 6 (by omega)
  have p2' := fun a (ha : a + 2 < 1000000000) => wdk (K := K) s a 2 ha
  have p3' := wdk (K := K) s mp 3 (by omega)
  have n2 := fun a => wdr (K := K) s a 2 (by omega) hK
  have b1 := p2' dp (by omega); have b2 := p2' cl (by omega); have b3 := p2' (cl + 3) (by omega); have b4 := p2' (cl + 6) (by omega)
  change wbn K (dp : Int) 2 s = _ at b1
  change wbn K (cl : Int) 2 s = _ at b2
  change wbn K ((cl + 3 : Nat) : Int) 2 s = _ at b3
  change wbn K ((cl + 6 : Nat) : Int) 2 s = _ at b4
  change wbn K (mp : Int) 3 s = _ at p3'
  rw [q.m] at p3'
  have g0 := p.y0; have g1 := p.y1; have g2 := p.h24; have g3 := p.i60; have g4 := p.j60; have g5 := p.t0; have g6 := p.t1
  have gt := p.time
  have hr := wdF p.val
  have hv : daysOf (y : Int) ((m : Int) + 1) (d : Int) = (cnt y ((m : Int) + 1) d, true, ()) := by simp only [daysOf, p.val, if_true]
  have fin : IntKind.wrap .i64 (IntKind.wrap .i64 (IntKind.wrap .i64 (IntKind.wrap .i64 (cnt y ((m : Int) + 1) d * 86400) + IntKind.wrap .i64 ((h : Int) * 3600)) + IntKind.wrap .i64 ((i : Int) * 60)) + (j : Int)) = t := by
    simp (disch := omega) only [wrap64]
    exact gt.symm
  simp only [wcz, wdk s yp dgs (by omega), wdr s yp dgs hdg hK, za', zb', zc', zd', ze', zf', zg', zh', zi', zj', zk', zl', zm', zn', zo', zp', zq', zr', zs', zt', q.y]
  by_cases e : dgs = 2
  · have hy2 : wct K ((y % 100 : Nat) : Int) = some (y : Int) := by
      have := hc e
      simp only [wct]
      by_cases c : ((y % 100 : Nat) : Int) ≥ 70
      · simp only [c, za', zb', zc', zd', ze', zf', zg', zh', zi', zj', zk', zl', zm', zn', zo', zp', zq', zr', zs', zt']
        rw [wrap64 (by omega) (by omega)]; congr 1; omega
      · simp only [c, za', zb', zc', zd', ze', zf', zg', zh', zi', zj', zk', zl', zm', zn', zo', zp', zq', zr', zs', zt']
        rw [wrap64 (by omega) (by omega)]; congr 1; omega
    simp only [e, if_true, show ((2 : Nat) : Int) = 2 from rfl, za', zb', zc', zd', ze', zf', zg', zh', zi', zj', zk', zl', zm', zn', zo', zp', zq', zr', zs', zt', show ((y % 100 : Nat) : Int) ≥ 0 by omega, hy2, p3', wfp p.m12 (show 20 ≤ K by omega), b1, b2, q3, q6, b3, b4, n2, q.d, q.h, q.i, q.j, wdi, hv,
      show ¬ (h : Int) < 0 by omega, show ¬ (h : Int) > 23 by omega, show ¬ (i : Int) < 0 by omega, show ¬ (i : Int) > 59 by omega, show ¬ (j : Int) < 0 by omega, show ¬ (j : Int) > 59 by omega, fin]
  · simp only [e, if_false, show ¬ (dgs : Int) = 2 by omega, za', zb', zc', zd', ze', zf', zg', zh', zi', zj', zk', zl', zm', zn', zo', zp', zq', zr', zs', zt', p3', wfp p.m12 (show 20 ≤ K by omega), b1, b2, q3, q6, b3, b4, n2, q.d, q.h, q.i, q.j, wdi, hv,
      show ¬ (h : Int) < 0 by omega, show ¬ (h : Int) > 23 by omega, show ¬ (i : Int) < 0 by omega, show ¬ (i : Int) > 59 by omega, show ¬ (j : Int) < 0 by omega, show ¬ (j : Int) > 59 by omega, fin]
end
end Go.Proofs.X
