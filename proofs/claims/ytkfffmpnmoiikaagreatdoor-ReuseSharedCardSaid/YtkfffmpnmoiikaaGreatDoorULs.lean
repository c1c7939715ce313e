/-
  A part of the proof. No condition.
-/
import Derived.Test.YtkfffmpnmoiikaaGreatDoorUL
/- Chapter 18: the law ReuseShared, as plain Lean. -/
set_option linter.unusedSimpArgs false
set_option linter.unusedVariables false
namespace Go.Proofs.X
open Go Go.Dp
def chU : List UInt8 := [67, 65, 67, 72, 69, 45, 99, 111, 110, 116, 114, 111, 108]
def noSt : List UInt8 := [78, 111, 45, 83, 116, 111, 114, 101]
def auN : List UInt8 := [97, 117, 116, 104, 111, 114, 105, 122, 97, 116, 105, 111, 110]
theorem wes {a b n : List UInt8} (l : List Fld) (h : same a n = false) : allOf ((a, b, ()) :: l) n = allOf l n := by
  unfold allOf; rw [List.filter_cons, if_neg (by rw [h]; decide)]
theorem wfm {a b n : List UInt8} (l : List Fld) (h : same a n = true) : allOf ((a, b, ()) :: l) n = b :: allOf l n := by
  unfold allOf; rw [List.filter_cons, if_pos h, List.map_cons]
theorem wet (l : List Fld) : (parseC ((chU, noSt, ()) :: l)).1 = true := by
  unfold parseC
  rw [wfm l (show same chU hdr = true by decide), weZ]
  have e : hasE (elsV [noSt]) nm0 = true := by kernel_rfl
  have e2 : elsV (noSt :: allOf l hdr) = elsV [noSt] ++ elsV (allOf l hdr) := by simp [elsV]
  show (!fineV _ || hasE _ nm0) = true
  rw [e2]
  unfold hasE at e ⊢
  rw [List.any_append, e]
  simp
theorem wgB (l : List Fld) : (askedC ((chU, noSt, ()) :: l)).1 = true := by
  unfold askedC
  split
  · exact wet l
  · exact wet l
theorem wgi (q : Req) (r : Rep) (now : Int) (h : (askedC q.2.2.2.1).1 = true) : storO q r now = false := by
  simp only [storO, b2S, h, Bool.not_true, Bool.false_and, Bool.and_false]
theorem wgd (q : Req) (r : Rep) (now : Int) (h : (parseC r.2.2.2.1).1 = true) : storO q r now = false := by
  simp only [storO, b2S, h, Bool.not_true, Bool.false_and, Bool.and_false]
theorem wd2 {a b n : List UInt8} (l : List Fld) (h : same a n = false) : hasO ((a, b, ()) :: l) n = hasO l n := by
  unfold hasO; rw [wes l h]
theorem wg8 (l : List Fld) : passO ((auN, [120], ()) :: l) = passO l := by
  simp only [passO, List.any_cons, List.any_nil, wd2 l (show same auN nRange = false by decide), wd2 l (show same auN nIfRange = false by decide), wd2 l (show same auN nIfMatch = false by decide), wd2 l (show same auN nIfUn = false by decide)]
theorem wgj (l : List Fld) : askedC ((auN, [120], ()) :: l) = askedC l := by
  have h1 : allOf ((auN, [120], ()) :: l) hdr = allOf l hdr := wes l (by decide)
  have h2 : allOf ((auN, [120], ()) :: l) [80, 114, 97, 103, 109, 97] = allOf l [80, 114, 97, 103, 109, 97] := wes l (by decide)
  unfold askedC parseC getOf hasOf
  rw [h1, h2]
theorem wgP (q : Req) (r : Rep) (now : Int) (h : storO q r now = true) : storO (q.1, (q.2.1, (q.2.2.1, ((auN, [120], ()) :: q.2.2.2.1, (q.2.2.2.2.1, ()))))) r now = ((parseC r.2.2.2.1).2.2.2.1 || ((parseC r.2.2.2.1).2.2.2.2.1 || decide ((parseC r.2.2.2.1).2.2.2.2.2.2.2.1 ≥ 0))) := by
  have e : hasO ((auN, [120], ()) :: q.2.2.2.1) nAuth = true := by
    unfold hasO; rw [wfm _ (show same auN nAuth = true by decide)]; simp
  unfold storO at h
  simp only [Bool.and_eq_true] at h
  obtain ⟨h1, h2, h3, h4, h5, h6, h7⟩ := h
  have h1' : b1S (q.1, (q.2.1, (q.2.2.1, ((auN, [120], ()) :: q.2.2.2.1, (q.2.2.2.2.1, ()))))) = true := by
    unfold b1S at h1 ⊢; rw [wg8]; exact h1
  unfold storO
  rw [h1', wgj, h2, h4, h5, h6, h7]
  simp only [b3S, e, Bool.not_true, Bool.true_and, Bool.and_true, Bool.false_or]
theorem wdQ {l : List Fld} {f : Fld} (h : l.length ≤ 70 ∧ ∀ f ∈ l, small 500 f) (h1 : f.1.length < 100 ∧ f.2.1.length < 100) : sized (f :: l) := by
  refine ⟨by simp only [List.length_cons]; omega, fun g hg => ?_⟩
  rcases List.mem_cons.1 hg with rfl | hg
  · exact ⟨by omega, by omega⟩
  · obtain ⟨h2, h3⟩ := h.2 g hg; exact ⟨by omega, by omega⟩
theorem wdX (a0 : Req) (a1 : Rep) (a2 : Int) : ∃ k, wT_ k a0 a1 a2 = some true := by
  refine ⟨KK, ?_⟩
  have hs := wg0 (K := KK) (by decide)
  obtain ⟨b, h1, h2⟩ := we5 KK a0 (by decide)
  have h1 : wF_ KK (reqEta a0) 500 = some b := h1
  obtain ⟨c, h3, h4⟩ := wfI KK a1 (by decide)
  have h3 : wN_ KK (repEta a1) 500 = some c := h3
  simp only [reqEta, repEta] at h1 h3
  cases b with
  | false => simp only [wT_, h1, hs, za', zb', zc', zd', ze', zf', zg', zh', zi', zj', zk', zl', zm', zn', zo', zp', zq', zr', zs', zt']
  | true =>
  cases c with
  | false => simp only [wT_, h1, h3, hs, za', zb', zc', zd', ze', zf', zg', zh', zi', zj', zk', zl', zm', zn', zo', zp', zq', zr', zs', zt']
  | true =>
  by_cases c1 : (a0.2.2.2.1.length : Int) > 60
  · simp only [wT_, h1, h3, hs, za', zb', zc', zd', ze', zf', zg', zh', zi', zj', zk', zl', zm', zn', zo', zp', zq', zr', zs', zt', c1]
  by_cases c2 : (a1.2.2.2.1.length : Int) > 60
  · simp only [wT_, h1, h3, hs, za', zb', zc', zd', ze', zf', zg', zh', zi', zj', zk', zl', zm', zn', zo', zp', zq', zr', zs', zt', c1, c2]
  obtain ⟨g1, g2⟩ := h2 rfl
  obtain ⟨g3, g4⟩ := h4 rfl
  have zq := weY (h2 rfl) (by decide) (by decide)
  have zr := weY (h4 rfl) (by decide) (by decide)
  have m1 : (1 + a0.2.2.2.1.length) * 32 ≤ maxRoom := by simp only [maxRoom]; omega
  have m2 : (1 + a1.2.2.2.1.length) * 32 ≤ maxRoom := by simp only [maxRoom]; omega
  have zqn : sized ((chU, noSt, ()) :: a0.2.2.2.1) := wdQ (h2 rfl) (by decide)
  have zrn : sized ((chU, noSt, ()) :: a1.2.2.2.1) := wdQ (h4 rfl) (by decide)
  have zqa : sized ((auN, [120], ()) :: a0.2.2.2.1) := wdQ (h2 rfl) (by decide)
  have e1 : w4_ KK (a0.1, (a0.2.1, (a0.2.2.1, ([(chU, (noSt, ()))] ++ a0.2.2.2.1, (a0.2.2.2.2.1, ()))))) (repEta a1) a2 = some false := by
    rw [show some false = some (storO (a0.1, (a0.2.1, (a0.2.2.1, ((chU, (noSt, ())) :: a0.2.2.2.1, (a0.2.2.2.2.1, ()))))) a1 a2) from congrArg some (wgi _ _ _ (wgB _)).symm]
    exact wc6 (q := (a0.1, (a0.2.1, (a0.2.2.1, ((chU, (noSt, ())) :: a0.2.2.2.1, (a0.2.2.2.2.1, ())))))) (r := a1) a2 zqn zr (by decide)
  have e2 : w4_ KK (reqEta a0) (a1.1, (a1.2.1, (a1.2.2.1, ([(chU, (noSt, ()))] ++ a1.2.2.2.1, (a1.2.2.2.2.1, ()))))) a2 = some false := by
    rw [show some false = some (storO a0 (a1.1, (a1.2.1, (a1.2.2.1, ((chU, (noSt, ())) :: a1.2.2.2.1, (a1.2.2.2.2.1, ()))))) a2) from congrArg some (wgd _ _ _ (wet _)).symm]
    exact wc6 (q := a0) (r := (a1.1, (a1.2.1, (a1.2.2.1, ((chU, (noSt, ())) :: a1.2.2.2.1, (a1.2.2.2.2.1, ())))))) a2 zq zrn (by decide)
  have e3 : w4_ KK (reqEta a0) (repEta a1) a2 = some (storO a0 a1 a2) := wc6 (q := a0) (r := a1) a2 zq zr (by decide)
  have e4 : w4_ KK (a0.1, (a0.2.1, (a0.2.2.1, ([(auN, ([120], ()))] ++ a0.2.2.2.1, (a0.2.2.2.2.1, ()))))) (repEta a1) a2 = some (storO (a0.1, (a0.2.1, (a0.2.2.1, ((auN, ([120], ())) :: a0.2.2.2.1, (a0.2.2.2.2.1, ()))))) a1 a2) :=
    wc6 (q := (a0.1, (a0.2.1, (a0.2.2.1, ((auN, ([120], ())) :: a0.2.2.2.1, (a0.2.2.2.2.1, ())))))) (r := a1) a2 zqa zr (by decide)
  simp only [reqEta, repEta, chU, noSt, auN] at e1 e2 e3 e4
  cases d : storO a0 a1 a2 with
  | false =>
    rw [d] at e3
    simp only [wT_, h1, h3, hs, za', zb', zc', zd', ze', zf', zg', zh', zi', zj', zk', zl', zm', zn', zo', zp', zq', zr', zs', zt', c1, c2, m1, m2, e1, e2, e3]
  | true =>
    rw [d] at e3
    have hau := wgP a0 a1 a2 d
    simp only [auN] at hau
    rw [hau] at e4
    have hC := wc8 (K := KK) zr (by decide)
    have hV : w7_ KK (repEta a1) = some (valO a1.2.2.2.1) := wdn (r := a1) zr (by decide)
    have hF : wcl KK (((a1.1, (a1.2.1, (a1.2.2.1, (a1.2.2.2.1, (a1.2.2.2.2.1, ()))))), (a2, ([], ())))) a2 = some (freshO (a1, a2, [], ()) a2) := wdK (s := (a1, a2, [], ())) zr (by decide)
    simp only [repEta] at hV
    unfold storO at d
    simp only [Bool.and_eq_true] at d
    obtain ⟨d1, d2, d3, d4, d5, d6, d7⟩ := d
    unfold b1S mGET at d1
    unfold b2S at d2
    unfold b4S at d4
    unfold b7S at d7
    simp only [Bool.and_eq_true, Bool.not_eq_true'] at d1 d2 d4
    obtain ⟨d11, d12⟩ := d1
    obtain ⟨d21, d22, d23⟩ := d2
    obtain ⟨d41, d42⟩ := d4
    have key : ∀ (p m n : Bool), (bif (!p) then (bif (!m) then some (!(( p || (m || n)) == n)) else some (!((p || (m || n)) == true))) else some (!((p || (m || n)) == true))) = some false := by decide
    cases k1 : (parseC a1.2.2.2.1).2.2.2.1 <;> cases k2 : (parseC a1.2.2.2.1).2.2.2.2.1 <;> cases k3 : decide ((parseC a1.2.2.2.1).2.2.2.2.2.2.2.1 ≥ 0) <;>
      cases k4 : freshO (a1, a2, [], ()) a2 <;> rw [k1, k2, k3] at e4 <;>
      first
      | (rw [k4, Bool.or_false] at d7
         simp only [wT_, h1, h3, hs, za', zb', zc', zd', ze', zf', zg', zh', zi', zj', zk', zl', zm', zn', zo', zp', zq', zr', zs', zt', c1, c2, m1, m2, e1, e2, e3, e4, hC, k1, k2, k3, hF, k4, hV, d7, d11, d22, d23, d41, d42, Bool.or_true, Bool.true_or, Bool.or_false, beq_self_eq_true])
      | simp only [wT_, h1, h3, hs, za', zb', zc', zd', ze', zf', zg', zh', zi', zj', zk', zl', zm', zn', zo', zp', zq', zr', zs', zt', c1, c2, m1, m2, e1, e2, e3, e4, hC, k1, k2, k3, hF, k4, hV, d11, d22, d23, d41, d42, Bool.or_true, Bool.true_or, Bool.or_false, beq_self_eq_true]
end Go.Proofs.X
