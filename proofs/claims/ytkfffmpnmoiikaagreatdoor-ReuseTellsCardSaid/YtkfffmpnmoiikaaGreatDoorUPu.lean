/-
  A part of the proof. No condition.
-/
import Derived.Test.YtkfffmpnmoiikaaGreatDoorUPt
/- Chapter 18 (reuse): the document's rules. No condition but on sizes. -/
set_option linter.unusedSimpArgs false
set_option linter.unusedVariables false
namespace Go.Proofs.X
open Go Go.Dp
theorem negI (x : Int) : decide (x < 0) = !decide (x ≥ 0) := by
  by_cases h : x ≥ 0
  · have h2 : ¬ x < 0 := by omega
    simp only [h, h2, decide_true, decide_false, Bool.not_true]
  · have h2 : x < 0 := by omega
    simp only [h, h2, decide_true, decide_false, Bool.not_false]
theorem au3 {α : Type} (f : Bool → α) : ∀ u p m n : Bool, (bif u then (bif (!p) then (bif (!m) then some (f n) else some (f false)) else some (f false)) else some (f false)) = some (f (u && (!p && (!m && n)))) := by
  intro u p m n
  cases u <;> cases p <;> cases m <;> rfl
theorem u6 {α : Type} (f : Bool → α) : ∀ a b p e u : Bool, (bif (!a) then (bif (!b) then (bif (!p) then (bif (!e) then some (f (!u)) else some (f false)) else some (f false)) else some (f false)) else some (f false)) = some (f (!((a || b) || (p || (e || u))))) := by
  intro a b p e u
  cases a <;> cases b <;> cases p <;> cases e <;> cases u <;> rfl
theorem wee {K : Nat} {q : Req} {r : Rep} (now : Int) (hq : sized q.2.2.2.1) (hr : sized r.2.2.2.1) (hK : 1000000000000 + 100 ≤ K) : w0_ K q r now = some (storO q r now) := by
  have hP : wbm K (q.1, (q.2.1, (q.2.2.1, (q.2.2.2.1, (q.2.2.2.2.1, ()))))) = some (passO q.2.2.2.1) := wdQ (q := q) hq (by omega)
  have hA := we4 (K := K) hq (by omega)
  have hC := wdz (K := K) hr (by omega)
  have hU : wbe K q.2.2.2.1 [65, 117, 116, 104, 111, 114, 105, 122, 97, 116, 105, 111, 110] = some (hasO q.2.2.2.1 nAuth) := wdb (n := nAuth) hq (by decide) (by omega)
  have hE : wbe K r.2.2.2.1 [69, 120, 112, 105, 114, 101, 115] = some (hasO r.2.2.2.1 nExp) := wdb (n := nExp) hr (by decide) (by omega)
  have hN := weX (K := K) hr (by omega)
  have hV : w2_ K (r.1, (r.2.1, (r.2.2.1, (r.2.2.2.1, (r.2.2.2.2.1, ()))))) = some (valO r.2.2.2.1) := wdv (r := r) hr (by omega)
  have hF : wbW K (((r.1, (r.2.1, (r.2.2.1, (r.2.2.2.1, (r.2.2.2.2.1, ()))))), (now, ([], ())))) now = some (freshO (r, now, [], ()) now) := weU (s := (r, now, [], ())) hr hK
  have hus := wdY (K := K) r.1 (by omega)
  have A3 := au3 (fun b => (((now, (r, ((0 : Nat), (b, ())))), ((parseC r.2.2.2.1), ())) : (Int × Rep × Nat × Bool × Unit) × Ctl × Unit))
  have U6 := u6 (fun b => (((now, (r, (b, ()))), ((parseC r.2.2.2.1), ())) : (Int × Rep × Bool × Unit) × Ctl × Unit))
  unfold storO b1S b2S b4S b7S
  cases c1 : (q.1 == ([71, 69, 84] : List UInt8)) with
  | false => simp only [w0_, c1, za', zb', zc', zd', ze', zf', zg', zh', zi', zj', zk', zl', zm', zn', zo', zp', zq', zr', zs', zt', mGET]
  | true =>
  cases c2 : passO q.2.2.2.1 with
  | true => simp only [w0_, c1, c2, hP, za', zb', zc', zd', ze', zf', zg', zh', zi', zj', zk', zl', zm', zn', zo', zp', zq', zr', zs', zt', mGET]
  | false =>
  cases c3 : (askedC q.2.2.2.1).1 with
  | true => simp only [w0_, c1, c2, c3, hP, hA, za', zb', zc', zd', ze', zf', zg', zh', zi', zj', zk', zl', zm', zn', zo', zp', zq', zr', zs', zt', mGET]
  | false =>
  cases c4 : (parseC r.2.2.2.1).1 with
  | true => simp only [w0_, c1, c2, c3, c4, hP, hA, hC, za', zb', zc', zd', ze', zf', zg', zh', zi', zj', zk', zl', zm', zn', zo', zp', zq', zr', zs', zt', mGET]
  | false =>
  cases c5 : (parseC r.2.2.2.1).2.2.1 with
  | true => simp only [w0_, c1, c2, c3, c4, c5, hP, hA, hC, za', zb', zc', zd', ze', zf', zg', zh', zi', zj', zk', zl', zm', zn', zo', zp', zq', zr', zs', zt', mGET]
  | false =>
  by_cases c6 : r.1 = 206
  · simp only [w0_, c1, c2, c3, c4, c5, c6, hP, hA, hC, za', zb', zc', zd', ze', zf', zg', zh', zi', zj', zk', zl', zm', zn', zo', zp', zq', zr', zs', zt', mGET]
  by_cases c7 : r.1 = 304
  · simp only [w0_, c1, c2, c3, c4, c5, c7, show ¬ (304 : Int) = 206 by decide, hP, hA, hC, za', zb', zc', zd', ze', zf', zg', zh', zi', zj', zk', zl', zm', zn', zo', zp', zq', zr', zs', zt', mGET]
  simp only [w0_, c1, c2, c3, c4, c5, c6, c7, hP, hA, hC, za', zb', zc', zd', ze', zf', zg', zh', zi', zj', zk', zl', zm', zn', zo', zp', zq', zr', zs', zt', mGET, hU, negI, A3]
  have e3 : (hasO q.2.2.2.1 nAuth && (!(parseC r.2.2.2.1).2.2.2.1 && (!(parseC r.2.2.2.1).2.2.2.2.1 && !decide ((parseC r.2.2.2.1).2.2.2.2.2.2.2.1 ≥ 0)))) = !b3S q (parseC r.2.2.2.1) := by
    unfold b3S
    cases hasO q.2.2.2.1 nAuth <;> cases (parseC r.2.2.2.1).2.2.2.1 <;> cases (parseC r.2.2.2.1).2.2.2.2.1 <;> simp
  rw [e3]
  cases c8 : b3S q (parseC r.2.2.2.1) with
  | false => simp only [za', zb', zc', zd', ze', zf', zg', zh', zi', zj', zk', zl', zm', zn', zo', zp', zq', zr', zs', zt']
  | true =>
  simp only [za', zb', zc', zd', ze', zf', zg', zh', zi', zj', zk', zl', zm', zn', zo', zp', zq', zr', zs', zt', hN]
  cases c9 : (namesO r.2.2.2.1).2.1 with
  | false => simp only [za', zb', zc', zd', ze', zf', zg', zh', zi', zj', zk', zl', zm', zn', zo', zp', zq', zr', zs', zt']
  | true =>
  simp only [za', zb', zc', zd', ze', zf', zg', zh', zi', zj', zk', zl', zm', zn', zo', zp', zq', zr', zs', zt', hE, hus]
  have := U6 (decide ((parseC r.2.2.2.1).2.2.2.2.2.2.2.1 ≥ 0)) (decide ((parseC r.2.2.2.1).2.2.2.2.2.2.1 ≥ 0)) (parseC r.2.2.2.1).2.2.2.1 (hasO r.2.2.2.1 nExp) (usual r.1)
  simp only [this, za', zb', zc', zd', ze', zf', zg', zh', zi', zj', zk', zl', zm', zn', zo', zp', zq', zr', zs', zt']
  have e6 : ((decide ((parseC r.2.2.2.1).2.2.2.2.2.2.2.1 ≥ 0) || decide ((parseC r.2.2.2.1).2.2.2.2.2.2.1 ≥ 0)) || ((parseC r.2.2.2.1).2.2.2.1 || (hasO r.2.2.2.1 nExp || usual r.1))) = b6S (parseC r.2.2.2.1) r := rfl
  rw [e6]
  cases c10 : b6S (parseC r.2.2.2.1) r with
  | false => simp only [za', zb', zc', zd', ze', zf', zg', zh', zi', zj', zk', zl', zm', zn', zo', zp', zq', zr', zs', zt']
  | true =>
  simp only [za', zb', zc', zd', ze', zf', zg', zh', zi', zj', zk', zl', zm', zn', zo', zp', zq', zr', zs', zt', hV, hF]
  cases valO r.2.2.2.1 <;> simp only [za', zb', zc', zd', ze', zf', zg', zh', zi', zj', zk', zl', zm', zn', zo', zp', zq', zr', zs', zt', Bool.true_or, Bool.false_or]
/-! What is to be done. -/
end Go.Proofs.X
