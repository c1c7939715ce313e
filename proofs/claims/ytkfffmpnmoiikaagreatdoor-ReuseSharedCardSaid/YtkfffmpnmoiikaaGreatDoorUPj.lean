/-
  A part of the proof. No condition.
-/
import Derived.Test.YtkfffmpnmoiikaaGreatDoorUPi
/- Chapter 07 (dates): what is read of the three forms; Parse. -/
set_option linter.unusedSimpArgs false
set_option linter.unusedVariables false
namespace Go.Proofs.X
open Go Go.Dp
section
variable {t : Int} {w y m d h i j : Nat} {K : Nat}
theorem wf6 (x0 x1 x2 a b c : UInt8) (d y h i j : Nat) : 
    let L := [x0, x1, x2] ++ [44, 32] ++ p2 d ++ [32] ++ [a, b, c] ++ [32] ++ p4 y ++ [32] ++ clkS h i j ++ [32, 71, 77, 84]
    part L 12 4 = p4 y ∧ part L 8 3 = [a, b, c] ∧ part L 5 2 = p2 d ∧ part L 17 2 = p2 h ∧ part L 20 2 = p2 i ∧ part L 23 2 = p2 j := ⟨by kernel_rfl, by kernel_rfl, by kernel_rfl, by kernel_rfl, by kernel_rfl, by kernel_rfl⟩
theorem wdG (h : w < 7) (hm : m < 12) : ∃ x0 x1 x2 a b c, monS m = [a, b, c] ∧ (dayS w).take 3 = [x0, x1, x2] := by
  obtain ⟨x0, x1, x2, r, hw, _⟩ := wday 0 h
  obtain ⟨a, b, c, hm⟩ := mon3 hm
  exact ⟨x0, x1, x2, a, b, c, hm, by rw [hw]; rfl⟩
theorem wga (p : PartsOf t w y m d h i j) : Reads (fmtS w y m d h i j) 5 8 12 4 17 t y d m h i j := by
  obtain ⟨x0, x1, x2, a, b, c, hm, hw⟩ := wdG p.w7 p.m12
  obtain ⟨f1, f2, f3, f4, f5, f6⟩ := wf6 x0 x1 x2 a b c d y h i j
  have e : fmtS w y m d h i j = [x0, x1, x2] ++ [44, 32] ++ p2 d ++ [32] ++ [a, b, c] ++ [32] ++ p4 y ++ [32] ++ clkS h i j ++ [32, 71, 77, 84] := by simp only [fmtS, hm, hw]
  have := p.y1; have := p.d1; have := p.h24; have := p.i60; have := p.j60
  rw [e]
  exact ⟨by rw [f1, wfO (by omega)]; rfl, by rw [f2, hm], by rw [f3, wda (by omega)], by rw [f4, wda (by omega)], by rw [f5, wda (by omega)], by rw [f6, wda (by omega)]⟩
theorem wfX (x0 x1 x2 a b c u v : UInt8) (y h i j : Nat) : 
    let L := [x0, x1, x2] ++ [32] ++ [a, b, c] ++ [32] ++ [u, v] ++ [32] ++ clkS h i j ++ [32] ++ p4 y
    part L 20 4 = p4 y ∧ part L 4 3 = [a, b, c] ∧ part L 8 2 = [u, v] ∧ part L 11 2 = p2 h ∧ part L 14 2 = p2 i ∧ part L 17 2 = p2 j := ⟨by kernel_rfl, by kernel_rfl, by kernel_rfl, by kernel_rfl, by kernel_rfl, by kernel_rfl⟩
theorem wfQ (d : Nat) : ∃ u v, twoS d = [u, v] := by
  simp only [twoS]; split
  · exact ⟨_, _, rfl⟩
  · exact ⟨_, _, rfl⟩
theorem wf0 (p : PartsOf t w y m d h i j) : Reads (plnS w y m d h i j) 8 4 20 4 11 t y d m h i j := by
  obtain ⟨x0, x1, x2, a, b, c, hm, hw⟩ := wdG p.w7 p.m12
  obtain ⟨u, v, h2⟩ := wfQ d
  obtain ⟨f1, f2, f3, f4, f5, f6⟩ := wfX x0 x1 x2 a b c u v y h i j
  have e : plnS w y m d h i j = [x0, x1, x2] ++ [32] ++ [a, b, c] ++ [32] ++ [u, v] ++ [32] ++ clkS h i j ++ [32] ++ p4 y := by simp only [plnS, hm, hw, h2]
  have := p.y1; have := p.d1; have := p.h24; have := p.i60; have := p.j60
  rw [e]
  refine ⟨by rw [f1, wfO (by omega)]; rfl, by rw [f2, hm], ?_, by rw [f4, wda (by omega)], by rw [f5, wda (by omega)], by rw [f6, wda (by omega)]⟩
  rw [f3, ← h2]
  simp only [twoS]; split
  · rw [wgN (by omega)]
  · rw [wda (by omega)]
def dlen (w : Nat) : Nat := (dayS w).length
theorem wf7 (hw : w < 7) (a b c : UInt8) (d y h i j : Nat) : 
    let L := dayS w ++ [44, 32] ++ p2 d ++ [45] ++ [a, b, c] ++ [45] ++ p2 y ++ [32] ++ clkS h i j ++ [32, 71, 77, 84]
    part L (dlen w + 9) 2 = p2 y ∧ part L (dlen w + 5) 3 = [a, b, c] ∧ part L (dlen w + 2) 2 = p2 d ∧ part L (dlen w + 12) 2 = p2 h ∧ part L (dlen w + 12 + 3) 2 = p2 i ∧ part L (dlen w + 12 + 6) 2 = p2 j ∧
      Lib.indexByte L 44 = (dlen w : Int) ∧ (L.takeWhile (· != 44)).length = dlen w ∧ L.length < 100 := by
  have : w = 0 ∨ w = 1 ∨ w = 2 ∨ w = 3 ∨ w = 4 ∨ w = 5 ∨ w = 6 := by omega
  rcases this with h | h | h | h | h | h | h <;> subst h <;> exact ⟨by kernel_rfl, by kernel_rfl, by kernel_rfl, by kernel_rfl, by kernel_rfl, by kernel_rfl, by kernel_rfl, by kernel_rfl, of_decide_eq_true (by kernel_rfl)⟩
theorem wfS (p : PartsOf t w y m d h i j) : Reads (oldS w y m d h i j) (dlen w + 2) (dlen w + 5) (dlen w + 9) 2 (dlen w + 12) t y d m h i j ∧ Lib.indexByte (oldS w y m d h i j) 44 = (dlen w : Int) ∧ ((oldS w y m d h i j).takeWhile (· != 44)).length = dlen w ∧ (oldS w y m d h i j).length < 100 := by
  obtain ⟨a, b, c, hm⟩ := mon3 p.m12
  obtain ⟨f1, f2, f3, f4, f5, f6, f7, f8, f9⟩ := wf7 p.w7 a b c d (y % 100) h i j
  have e : oldS w y m d h i j = dayS w ++ [44, 32] ++ p2 d ++ [45] ++ [a, b, c] ++ [45] ++ p2 (y % 100) ++ [32] ++ clkS h i j ++ [32, 71, 77, 84] := by simp only [oldS, hm]
  have := p.y1; have := p.d1; have := p.h24; have := p.i60; have := p.j60
  rw [e]
  exact ⟨⟨by rw [f1, wda (by omega)]; rfl, by rw [f2, hm], by rw [f3, wda (by omega)], by rw [f4, wda (by omega)], by rw [f5, wda (by omega)], by rw [f6, wda (by omega)]⟩, f7, f8, f9⟩
theorem wgm (p : PartsOf t w y m d h i j) (hO : inO t) : y ≤ 2069 := by
  rcases Int.lt_or_le (y : Int) 2070 with h | h
  · omega
  · have h1 := wdS h
    have e : ydL 2070 = 36525 := by decide
    have h2 := (weu p.val).1
    have := p.ct; have := hO.2
    omega
end
def ParseR (s : List UInt8) (r : Int × Int × Unit) : Prop :=
  (∃ t, inR t ∧ fT t = s ∧ r = (t, 0, ())) ∨
  (¬ (∃ t, inR t ∧ fT t = s) ∧ ∃ t, inO t ∧ oT t = s ∧ r = (t, 0, ())) ∨
  (¬ (∃ t, inR t ∧ fT t = s) ∧ ¬ (∃ t, inO t ∧ oT t = s) ∧ ∃ t, inR t ∧ pT t = s ∧ r = (t, 0, ())) ∨
  (¬ (∃ t, inR t ∧ fT t = s) ∧ ¬ (∃ t, inO t ∧ oT t = s) ∧ ¬ (∃ t, inR t ∧ pT t = s) ∧ r = (0, 24, ()))
theorem inO_R {t : Int} (h : inO t) : inR t := ⟨h.1, by have := h.2; omega⟩
theorem wfh {K : Nat} {t : Int} (hR : inR t) (hK : 30 ≤ K) : wcz K (fT t) 5 8 12 4 17 = some t := by
  obtain ⟨w, y, m, d, h, i, j, p⟩ := wdh hR.1 hR.2
  rw [fT_in p]
  exact wfg (dp := 5) (mp := 8) (yp := 12) (dgs := 4) (cl := 17) p (wga p) (by omega) (by omega) (by omega) (by omega) (by omega) (by omega) hK
theorem wfd {K : Nat} {t : Int} (hR : inR t) (hK : 30 ≤ K) : wcz K (pT t) 8 4 20 4 11 = some t := by
  obtain ⟨w, y, m, d, h, i, j, p⟩ := wdh hR.1 hR.2
  rw [pT_in p]
  exact wfg (dp := 8) (mp := 4) (yp := 20) (dgs := 4) (cl := 11) p (wf0 p) (by omega) (by omega) (by omega) (by omega) (by omega) (by omega) hK
theorem wfk {K : Nat} {t : Int} (hO : inO t) (hK : 30 ≤ K) : ∃ c : Nat, c < 100 ∧ Lib.indexByte (oT t) 44 = (c : Int) ∧ ((oT t).takeWhile (· != 44)).length = c ∧ wcz K (oT t) ((c + 2 : Nat) : Int) ((c + 5 : Nat) : Int) ((c + 9 : Nat) : Int) ((2 : Nat) : Int) ((c + 12 : Nat) : Int) = some t := by
  have hR := inO_R hO
  obtain ⟨w, y, m, d, h, i, j, p⟩ := wdh hR.1 hR.2
  obtain ⟨q, f1, f2, f3⟩ := wfS p
  have hc : dlen w < 100 := by
    have := (oldS w y m d h i j).takeWhile_prefix (· != 44)
    have := this.length_le; omega
  rw [oT_in p hO]
  exact ⟨dlen w, hc, f1, f2, wfg p q (by omega) (fun _ => wgm p hO) (by omega) (by omega) (by omega) (by omega) hK⟩
theorem whk {t u : Int} (h : inR t) (h2 : inR u) (e : fT t = fT u) : t = u := by
  have e1 := wfh (K := 30) h (Nat.le_refl _)
  rw [e, wfh h2 (Nat.le_refl _)] at e1
  exact (Option.some.inj e1).symm
theorem whj {t u : Int} (h : inR t) (h2 : inR u) (e : pT t = pT u) : t = u := by
  have e1 := wfd (K := 30) h (Nat.le_refl _)
  rw [e, wfd h2 (Nat.le_refl _)] at e1
  exact (Option.some.inj e1).symm
theorem whc {t u : Int} (h : inO t) (h2 : inO u) (e : oT t = oT u) : t = u := by
  obtain ⟨c, _, _, hc, e1⟩ := wfk (K := 30) h (Nat.le_refl _)
  obtain ⟨c', _, _, hc', e2⟩ := wfk (K := 30) h2 (Nat.le_refl _)
  rw [e] at hc e1
  rw [hc'] at hc
  subst hc
  rw [e2] at e1
  exact (Option.some.inj e1).symm
theorem we3 {s : List UInt8} {r r' : Int × Int × Unit} (h : ParseR s r) (h' : ParseR s r') : r = r' := by
  rcases h with ⟨t, a, b, c⟩ | ⟨n, t, a, b, c⟩ | ⟨n, n2, t, a, b, c⟩ | ⟨n, n2, n3, c⟩
  · rcases h' with ⟨t', a', b', c'⟩ | ⟨n', _⟩ | ⟨n', _⟩ | ⟨n', _⟩
    · rw [c, c', whk a a' (b.trans b'.symm)]
    all_goals exact absurd ⟨t, a, b⟩ n'
  · rcases h' with ⟨t', a', b', c'⟩ | ⟨n', t', a', b', c'⟩ | ⟨n', n2', _⟩ | ⟨n', n2', _⟩
    · exact absurd ⟨t', a', b'⟩ n
    · rw [c, c', whc a a' (b.trans b'.symm)]
    all_goals exact absurd ⟨t, a, b⟩ n2'
  · rcases h' with ⟨t', a', b', c'⟩ | ⟨n', t', a', b', c'⟩ | ⟨n', n2', t', a', b', c'⟩ | ⟨n', n2', n3', _⟩
    · exact absurd ⟨t', a', b'⟩ n
    · exact absurd ⟨t', a', b'⟩ n2
    · rw [c, c', whj a a' (b.trans b'.symm)]
    · exact absurd ⟨t, a, b⟩ n3'
  · rcases h' with ⟨t', a', b', c'⟩ | ⟨n', t', a', b', c'⟩ | ⟨n', n2', t', a', b', c'⟩ | ⟨n', n2', n3', c'⟩
    · exact absurd ⟨t', a', b'⟩ n
    · exact absurd ⟨t', a', b'⟩ n2
    · exact absurd ⟨t', a', b'⟩ n3
    · rw [c, c']
theorem fT_ne {t : Int} (h : inR t) : fT t ≠ [] := by
  obtain ⟨w, y, m, d, hh, i, j, p⟩ := wdh h.1 h.2
  rw [fT_in p]; simp [fmtS]
theorem pT_ne {t : Int} (h : inR t) : pT t ≠ [] := by
  obtain ⟨w, y, m, d, hh, i, j, p⟩ := wdh h.1 h.2
  rw [pT_in p]; simp [plnS]
theorem oT_ne {t : Int} (h : inO t) : oT t ≠ [] := by
  obtain ⟨w, y, m, d, hh, i, j, p⟩ := wdh h.1 (inO_R h).2
  rw [oT_in p h]; simp [oldS]
theorem wgM {K : Nat} (s : List UInt8) (hs : s.length < 10000000) (hK : 20000 ≤ K) : ∃ r, wcP K s = some r ∧ ParseR s r := by
  have hF := fun t => (weC (K := K) t hK).1
  have hO := fun t => (weC (K := K) t hK).2.2.1
  have hP := fun t => (weC (K := K) t hK).2.2.2.2.1
  have hix : w9_ K s 44 = some (Lib.indexByte s 44) := rfl
  obtain ⟨c, hc, hc2⟩ : ∃ c : Nat, (if 0 > Lib.indexByte s 44 then 0 else Lib.indexByte s 44) = (c : Int) ∧ c < 10000000 := by
    rw [indexByte_eq]
    have := takeWhile_len s (· != 44)
    split
    · rw [if_neg (by omega)]; exact ⟨_, rfl, by omega⟩
    · exact ⟨0, rfl, by omega⟩
  obtain ⟨t1, h1⟩ := we7 (K := K) s 5 8 12 4 17 (by omega) (by omega) (by omega) (by omega) (by omega) (by omega)
  change wcz K s 5 8 12 4 17 = _ at h1
  obtain ⟨t2, h2⟩ := we7 (K := K) s (c + 2) (c + 5) (c + 9) 2 (c + 12) (by omega) (by omega) (by omega) (by omega) (by omega) (by omega)
  have h2' := h2
  change wcz K s _ _ _ 2 _ = _ at h2
  obtain ⟨t3, h3⟩ := we7 (K := K) s 8 4 20 4 11 (by omega) (by omega) (by omega) (by omega) (by omega) (by omega)
  change wcz K s 8 4 20 4 11 = _ at h3
  have w2 : IntKind.wrap .i64 ((c : Int) + 2) = ((c + 2 : Nat) : Int) := wrapAdd 2 (by omega)
  have w5 : IntKind.wrap .i64 ((c : Int) + 5) = ((c + 5 : Nat) : Int) := wrapAdd 5 (by omega)
  have w9 : IntKind.wrap .i64 ((c : Int) + 9) = ((c + 9 : Nat) : Int) := wrapAdd 9 (by omega)
  have w12 : IntKind.wrap .i64 ((c : Int) + 12) = ((c + 12 : Nat) : Int) := wrapAdd 12 (by omega)
  simp only [wcP, hix, h1, hF, za', zb', zc', zd', ze', zf', zg', zh', zi', zj', zk', zl', zm', zn', zo', zp', zq', zr', zs', zt', hc]
  by_cases hne : s = []
  · subst hne
    have e0 : ((([] : List UInt8) == []) : Bool) = true := rfl
    have a1 : ¬ ∃ t, inR t ∧ fT t = [] := fun ⟨t, ht, e⟩ => fT_ne ht e
    have a2 : ¬ ∃ t, inO t ∧ oT t = [] := fun ⟨t, ht, e⟩ => oT_ne ht e
    have a3 : ¬ ∃ t, inR t ∧ pT t = [] := fun ⟨t, ht, e⟩ => pT_ne ht e
    refine ⟨(0, 24, ()), ?_, .inr (.inr (.inr ⟨a1, a2, a3, rfl⟩))⟩
    cases (fT t1 == []) <;> simp only [e0, za', zb', zc', zd', ze', zf', zg', zh', zi', zj', zk', zl', zm', zn', zo', zp', zq', zr', zs', zt', w2, w5, w9, w12, h2, hO] <;> cases (oT t2 == []) <;> simp only [e0, za', zb', zc', zd', ze', zf', zg', zh', zi', zj', zk', zl', zm', zn', zo', zp', zq', zr', zs', zt', h3, hP] <;> cases (pT t3 == []) <;> simp only [za', zb', zc', zd', ze', zf', zg', zh', zi', zj', zk', zl', zm', zn', zo', zp', zq', zr', zs', zt']
  have en : (s == ([] : List UInt8)) = false := by simpa using hne
  by_cases c1 : fT t1 = s
  · have hin : inR t1 := by
      by_cases hi : inR t1
      · exact hi
      · rw [whl hi] at c1; exact absurd c1.symm hne
    simp only [c1, beq_self_eq_true, en, za', zb', zc', zd', ze', zf', zg', zh', zi', zj', zk', zl', zm', zn', zo', zp', zq', zr', zs', zt']
    exact ⟨_, rfl, .inl ⟨t1, hin, c1, rfl⟩⟩
  have a1 : ¬ ∃ t, inR t ∧ fT t = s := by
    rintro ⟨t, ht, e⟩
    have := wfh (K := K) ht (by omega)
    rw [e, h1] at this
    rw [← Option.some.inj this] at e
    exact c1 e
  have c1b : (fT t1 == s) = false := by simpa using c1
  simp only [c1b, za', zb', zc', zd', ze', zf', zg', zh', zi', zj', zk', zl', zm', zn', zo', zp', zq', zr', zs', zt', w2, w5, w9, w12, h2, hO]
  by_cases c2 : oT t2 = s
  · have hin : inO t2 := by
      by_cases hi : inO t2
      · exact hi
      · rw [whi hi] at c2; exact absurd c2.symm hne
    simp only [c2, beq_self_eq_true, en, za', zb', zc', zd', ze', zf', zg', zh', zi', zj', zk', zl', zm', zn', zo', zp', zq', zr', zs', zt']
    exact ⟨_, rfl, .inr (.inl ⟨a1, t2, hin, c2, rfl⟩)⟩
  have a2 : ¬ ∃ t, inO t ∧ oT t = s := by
    rintro ⟨t, ht, e⟩
    obtain ⟨c', hc', e1, e2, e3⟩ := wfk (K := K) ht (by omega)
    rw [e] at e1 e3
    rw [e1, if_neg (by omega)] at hc
    obtain rfl : c' = c := by omega
    rw [e3] at h2'
    rw [Option.some.inj h2'] at e
    exact c2 e
  have c2b : (oT t2 == s) = false := by simpa using c2
  simp only [c2b, za', zb', zc', zd', ze', zf', zg', zh', zi', zj', zk', zl', zm', zn', zo', zp', zq', zr', zs', zt', h3, hP]
  by_cases c3 : pT t3 = s
  · have hin : inR t3 := by
      by_cases hi : inR t3
      · exact hi
      · rw [whd hi] at c3; exact absurd c3.symm hne
    simp only [c3, beq_self_eq_true, en, za', zb', zc', zd', ze', zf', zg', zh', zi', zj', zk', zl', zm', zn', zo', zp', zq', zr', zs', zt']
    exact ⟨_, rfl, .inr (.inr (.inl ⟨a1, a2, t3, hin, c3, rfl⟩))⟩
  have a3 : ¬ ∃ t, inR t ∧ pT t = s := by
    rintro ⟨t, ht, e⟩
    have := wfd (K := K) ht (by omega)
    rw [e, h3] at this
    rw [← Option.some.inj this] at e
    exact c3 e
  have c3b : (pT t3 == s) = false := by simpa using c3
  simp only [c3b, za', zb', zc', zd', ze', zf', zg', zh', zi', zj', zk', zl', zm', zn', zo', zp', zq', zr', zs', zt']
  exact ⟨_, rfl, .inr (.inr (.inr ⟨a1, a2, a3, rfl⟩))⟩
end Go.Proofs.X
