/-
  A part of the proof. No condition.
-/
import Derived.Test.YtkfffmpnmoiikaaGreatDoorUPg
/- Chapter 07 (dates): how the document writes times; the law DateWrites. -/
set_option linter.unusedSimpArgs false
set_option linter.unusedVariables false
namespace Go.Proofs.X
open Go Go.Dp
section
variable {t : Int} {w y m d h i j : Nat} {K : Nat}
theorem refCiv (p : PartsOf t w y m d h i j) (hK : 20000 ≤ K) : wc_ K (t / 86400) = some ((y : Int), (m : Int) + 1, (d : Int), true, ()) := by
  rw [← p.ct, wdB p.val hK]
theorem refDay (K : Nat) (h : w < 7) : wbK K (w : Int) = some (dayS w) := by
  have : w = 0 ∨ w = 1 ∨ w = 2 ∨ w = 3 ∨ w = 4 ∨ w = 5 ∨ w = 6 := by omega
  rcases this with h | h | h | h | h | h | h <;> subst h <;> rfl
theorem refClock (p : PartsOf t w y m d h i j) (hK : 20 ≤ K) : wbj K t = some (clkS h i j) := by
  have h0 := p.t0; have h1 := p.t1
  have eh := p.eh; have ei := p.ei; have ej := p.ej
  have e2 : Int.tmod t 86400 = t % 86400 := Int.tmod_eq_emod_of_nonneg h0
  have e3 : Int.tdiv (t % 86400) 3600 = t % 86400 / 3600 := Int.tdiv_eq_ediv_of_nonneg (by omega)
  have e4 : Int.tdiv (t % 86400) 60 = t % 86400 / 60 := Int.tdiv_eq_ediv_of_nonneg (by omega)
  have e5 : Int.tmod (t % 86400 / 60) 60 = t % 86400 / 60 % 60 := Int.tmod_eq_emod_of_nonneg (by omega)
  have e6 : Int.tmod (t % 86400) 60 = t % 86400 % 60 := Int.tmod_eq_emod_of_nonneg (by omega)
  have w2 := wrap64 (x := t % 86400 / 3600) (by omega) (by omega)
  have w3 := wrap64 (x := t % 86400 / 60) (by omega) (by omega)
  simp only [wbj, e2, e3, e4, w2, w3, e5, e6]
  rw [eh, ei, ej, wdy (show h < 100 by have := p.h24; omega) hK, wdy (show i < 100 by have := p.i60; omega) hK, wdy (show j < 100 by have := p.j60; omega) hK]
  rfl
theorem refWday (p : PartsOf t w y m d h i j) : w3_ K (t / 86400) = some (w : Int) := by
  rw [← wfi, weo p.days.1, p.ew]
theorem wrapDay (p : PartsOf t w y m d h i j) : IntKind.wrap .i64 (Int.tdiv t 86400) = t / 86400 := by
  have := p.t0; have := p.t1
  rw [Int.tdiv_eq_ediv_of_nonneg p.t0, wrap64 (by omega) (by omega)]
theorem year100 (h : 1970 ≤ y) : Int.tmod (y : Int) 100 = ((y % 100 : Nat) : Int) := by rw [Int.tmod_eq_emod_of_nonneg (by omega)]; omega
theorem wdV (p : PartsOf t w y m d h i j) (hK : 20000 ≤ K) : wbf K t = some (fmtS w y m d h i j) := by
  have h0 := p.t0; have h1 := p.t1; have := p.y0; have := p.y1; have := p.d1
  obtain ⟨a, b, c, hm⟩ := mon3 p.m12
  simp only [wbf, show ¬ t < 0 by omega, show ¬ t > 253402300799 by omega, za', zb', zc', zd', ze', zf', zg', zh', zi', zj', zk', zl', zm', zn', zo', zp', zq', zr', zs', zt', wrapDay p, refCiv p hK, refWday p, refDay K p.w7, wdy (K := K) (show d < 100 by omega) (by omega), wdE (K := K) p.m12, weq (K := K) (show 1000 ≤ y by omega) (by omega) (by omega), refClock p (show 20 ≤ K by omega), fmtS, hm]
  have hw := p.w7
  have : w = 0 ∨ w = 1 ∨ w = 2 ∨ w = 3 ∨ w = 4 ∨ w = 5 ∨ w = 6 := by omega
  rcases this with h | h | h | h | h | h | h <;> subst h <;> rfl
theorem wfL (p : PartsOf t w y m d h i j) (hO : inO t) (hK : 20000 ≤ K) : wbJ K t = some (oldS w y m d h i j) := by
  have h0 := p.t0; have h1 := hO.2; have := p.y0; have := p.y1; have := p.d1
  obtain ⟨a, b, c, hm⟩ := mon3 p.m12
  simp only [wbJ, show ¬ t < 0 by omega, show ¬ t > 3155759999 by omega, za', zb', zc', zd', ze', zf', zg', zh', zi', zj', zk', zl', zm', zn', zo', zp', zq', zr', zs', zt', wrapDay p, refCiv p hK, refWday p, refDay K p.w7, wdy (K := K) (show d < 100 by omega) (by omega), wdE (K := K) p.m12, year100 p.y0, wdy (K := K) (show y % 100 < 100 by omega) (by omega), refClock p (show 20 ≤ K by omega), oldS, hm]
  have hw := p.w7
  have : w = 0 ∨ w = 1 ∨ w = 2 ∨ w = 3 ∨ w = 4 ∨ w = 5 ∨ w = 6 := by omega
  rcases this with h | h | h | h | h | h | h <;> subst h <;> rfl
theorem weN (p : PartsOf t w y m d h i j) (hK : 20000 ≤ K) : wbk K t = some (plnS w y m d h i j) := by
  have h0 := p.t0; have h1 := p.t1; have := p.y0; have := p.y1; have := p.d1
  obtain ⟨a, b, c, hm⟩ := mon3 p.m12
  have hmr := wdb
  have hw := p.w7
  by_cases hd : d < 10
  · have ed : wbm K (d : Int) = some (p1 d) := by rw [wdA d (by omega) (by omega), wgF hd]
    simp only [wbk, show ¬ t < 0 by omega, show ¬ t > 253402300799 by omega, za', zb', zc', zd', ze', zf', zg', zh', zi', zj', zk', zl', zm', zn', zo', zp', zq', zr', zs', zt', wrapDay p, refCiv p hK, refWday p, refDay K p.w7, ed, show (d : Int) < 10 by omega, show 1 + (p1 d).length ≤ maxRoom by simp [p1]; omega, wdE (K := K) p.m12, weq (K := K) (show 1000 ≤ y by omega) (by omega) (by omega), refClock p (show 20 ≤ K by omega), plnS, hm, twoS, hd]
    have : w = 0 ∨ w = 1 ∨ w = 2 ∨ w = 3 ∨ w = 4 ∨ w = 5 ∨ w = 6 := by omega
    rcases this with h | h | h | h | h | h | h <;> subst h <;> rfl
  · have ed : wbm K (d : Int) = some (p2 d) := by rw [wdA d (by omega) (by omega), wgG (by omega) (by omega)]
    simp only [wbk, show ¬ t < 0 by omega, show ¬ t > 253402300799 by omega, za', zb', zc', zd', ze', zf', zg', zh', zi', zj', zk', zl', zm', zn', zo', zp', zq', zr', zs', zt', wrapDay p, refCiv p hK, refWday p, refDay K p.w7, ed, show ¬ (d : Int) < 10 by omega, wdE (K := K) p.m12, weq (K := K) (show 1000 ≤ y by omega) (by omega) (by omega), refClock p (show 20 ≤ K by omega), plnS, hm, twoS, hd]
    have : w = 0 ∨ w = 1 ∨ w = 2 ∨ w = 3 ∨ w = 4 ∨ w = 5 ∨ w = 6 := by omega
    rcases this with h | h | h | h | h | h | h <;> subst h <;> rfl
theorem wer (h : ¬ inR t) : wbf K t = some [] := by
  by_cases h0 : t < 0
  · simp only [wbf, h0, za', zb', zc', zd', ze', zf', zg', zh', zi', zj', zk', zl', zm', zn', zo', zp', zq', zr', zs', zt']
  · have h1 : t > 253402300799 := by simp only [inR] at h; omega
    simp only [wbf, h0, h1, za', zb', zc', zd', ze', zf', zg', zh', zi', zj', zk', zl', zm', zn', zo', zp', zq', zr', zs', zt']
theorem wel (h : ¬ inO t) : wbJ K t = some [] := by
  by_cases h0 : t < 0
  · simp only [wbJ, h0, za', zb', zc', zd', ze', zf', zg', zh', zi', zj', zk', zl', zm', zn', zo', zp', zq', zr', zs', zt']
  · have h1 : t > 3155759999 := by simp only [inO] at h; omega
    simp only [wbJ, h0, h1, za', zb', zc', zd', ze', zf', zg', zh', zi', zj', zk', zl', zm', zn', zo', zp', zq', zr', zs', zt']
theorem wfD (h : ¬ inR t) : wbk K t = some [] := by
  by_cases h0 : t < 0
  · simp only [wbk, h0, za', zb', zc', zd', ze', zf', zg', zh', zi', zj', zk', zl', zm', zn', zo', zp', zq', zr', zs', zt']
  · have h1 : t > 253402300799 := by simp only [inR] at h; omega
    simp only [wbk, h0, h1, za', zb', zc', zd', ze', zf', zg', zh', zi', zj', zk', zl', zm', zn', zo', zp', zq', zr', zs', zt']
end
instance (t : Int) : Decidable (inR t) := by unfold inR; exact inferInstance
instance (t : Int) : Decidable (inO t) := by unfold inO; exact inferInstance
theorem forms (t : Int) : ∃ F O P : List UInt8, ∀ K, 20000 ≤ K → wcq K t = some F ∧ wbf K t = some F ∧ wcZ K t = some O ∧ wbJ K t = some O ∧ wcx K t = some P ∧ wbk K t = some P := by
  by_cases hR : inR t
  · obtain ⟨w, y, m, d, h, i, j, p⟩ := wdh hR.1 hR.2
    by_cases hO : inO t
    · exact ⟨_, _, _, fun K hK => ⟨wef p, wdV p hK, wgI p hO, wfL p hO hK, wfR p, weN p hK⟩⟩
    · exact ⟨_, _, _, fun K hK => ⟨wef p, wdV p hK, we1 hO, wel hO, wfR p, weN p hK⟩⟩
  · have hO : ¬ inO t := fun h => hR ⟨h.1, by have := h.2; omega⟩
    exact ⟨_, _, _, fun K hK => ⟨wep hR, wer hR, we1 hO, wel hO, wfY hR, wfD hR⟩⟩
end Go.Proofs.X
