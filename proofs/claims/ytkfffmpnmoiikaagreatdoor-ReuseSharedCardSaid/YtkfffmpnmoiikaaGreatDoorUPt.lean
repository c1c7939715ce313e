/-
  A part of the proof. No condition.
-/
import Derived.Test.YtkfffmpnmoiikaaGreatDoorUPm
import Derived.Test.YtkfffmpnmoiikaaGreatDoorUPr
import Derived.Test.YtkfffmpnmoiikaaGreatDoorUPs
/- Chapter 18 (reuse): tags, validators, what may be kept, what is to be done. No condition but on sizes. -/
set_option linter.unusedSimpArgs false
set_option linter.unusedVariables false
namespace Go.Proofs.X
open Go Go.Dp
abbrev Req := List UInt8 × List UInt8 × Int × List Fld × List UInt8 × Unit
def nTag : List UInt8 := [69, 84, 97, 103]
def tagO (l : List Fld) : Tg × Bool × Unit := if (allOf l nTag).length = 1 then parT ((allOf l nTag).getD 0 []) else ((false, [], ()), false, ())
theorem weF {K : Nat} {r : Rep} (h : sized r.2.2.2.1) (hK : 1000000 + 100 ≤ K) : wcH K r = some (tagO r.2.2.2.1) := by
  have hA : wQ_ K r.2.2.2.1 [69, 84, 97, 103] = some (allOf r.2.2.2.1 nTag) := wc5 h.1 (fun f hf => by have := (h.2 f hf).1; omega) (name := nTag) (by decide) (by omega)
  have hb : ∀ v ∈ allOf r.2.2.2.1 nTag, v.length ≤ 99999 := wdj fun f hf => by have := (h.2 f hf).2; omega
  simp only [wcH, hA, za', zb', zc', zd', ze', zf', zg', zh', zi', zj', zk', zl', zm', zn', zo', zp', zq', zr', zs', zt']
  unfold tagO
  by_cases c : (allOf r.2.2.2.1 nTag).length = 1
  · have hm := hb _ (wc9 (allOf r.2.2.2.1 nTag) [] (i := 0) (by omega))
    have hP := wew (K := K) (s := (allOf r.2.2.2.1 nTag).getD 0 []) (by omega) (by omega)
    have c1 : ((allOf r.2.2.2.1 nTag).length : Int) = 1 := by omega
    have c2 : (0 : Int) < ((allOf r.2.2.2.1 nTag).length : Int) := by omega
    rw [if_pos c]
    simp only [c1, za', zb', zc', zd', ze', zf', zg', zh', zi', zj', zk', zl', zm', zn', zo', zp', zq', zr', zs', zt', Nat.zero_le, Nat.le_refl, Int.le_refl, show (0 : Int) < 1 by decide, hP]
  · have c1 : ¬ ((allOf r.2.2.2.1 nTag).length : Int) = 1 := by omega
    rw [if_neg c]
    simp only [c1, za', zb', zc', zd', ze', zf', zg', zh', zi', zj', zk', zl', zm', zn', zo', zp', zq', zr', zs', zt']
def hasO (l : List Fld) (n : List UInt8) : Bool := decide ((allOf l n).length > 0)
theorem wdx {K : Nat} {l : List Fld} {ns : List (List UInt8)} (h : sized l) (hn : ∀ n ∈ ns, n.length < 1000000) (hl : ns.length < 1000) (hK : 1000000 + 100 ≤ K) : wbd K l ns = some (ns.any (hasO l)) := by
  have H := idx_rule (l := wbd.l0 K) (wbd.t0 K) (fun _ _ => rfl) ns.length
    (fun i => ((l, (ns, ((ns.length : Int), ((i : Int), ())))), ())) (fun i => if (ns.drop i).any (hasO l) then .inr ((true, ()), ()) else .inl ((), ())) ?_ K 0 (by omega) (by omega)
  · simp only [List.drop_zero, Int.natCast_zero] at H
    simp only [wbd, wbd.tr]
    rw [H]
    cases ns.any (hasO l) <;> simp only [za', zb', zc', zd', ze', zf', zg', zh', zi', zj', zk', zl', zm', zn', zo', zp', zq', zr', zs', zt']
  · intro i rec hi ih
    by_cases h1 : i < ns.length
    · have hh : (i : Int) < (ns.length : Int) := by omega
      have w1 := wrapSucc (show i < 9223372036854775807 by omega)
      have hm := hn _ (wc9 ns [] h1)
      have hG := wds (K := K) (name := ns.getD i []) h hm (by omega)
      have e : (getOf l (ns.getD i [])).2.1 = hasO l (ns.getD i []) := rfl
      have ih' := ih h1
      rw [drop_get ns [] h1, List.any_cons]
      cases d : hasO l (ns.getD i []) with
      | true => simp only [wbd.t0, za', zb', zc', zd', ze', zf', zg', zh', zi', zj', zk', zl', zm', zn', zo', zp', zq', zr', zs', zt', hh, hG, e, d, Bool.true_or]
      | false =>
        simp only [wbd.t0, za', zb', zc', zd', ze', zf', zg', zh', zi', zj', zk', zl', zm', zn', zo', zp', zq', zr', zs', zt', hh, hG, e, d, w1, Bool.false_or]
        exact ih'
    · have h2 : i = ns.length := by omega
      subst h2
      simp only [wbd.t0, za', zb', zc', zd', ze', zf', zg', zh', zi', zj', zk', zl', zm', zn', zo', zp', zq', zr', zs', zt', Int.lt_irrefl, drop_len, List.any_nil]
def nRange : List UInt8 := [82, 97, 110, 103, 101]
def nIfRange : List UInt8 := [73, 102, 45, 82, 97, 110, 103, 101]
def nIfMatch : List UInt8 := [73, 102, 45, 77, 97, 116, 99, 104]
def nIfUn : List UInt8 := [73, 102, 45, 85, 110, 109, 111, 100, 105, 102, 105, 101, 100, 45, 83, 105, 110, 99, 101]
def nAuth : List UInt8 := [65, 117, 116, 104, 111, 114, 105, 122, 97, 116, 105, 111, 110]
def passO (l : List Fld) : Bool := [nRange, nIfRange, nIfMatch, nIfUn].any (hasO l)
theorem wd4 {K : Nat} {q : Req} (h : sized q.2.2.2.1) (hK : 1000000 + 100 ≤ K) : wb3 K q = some (passO q.2.2.2.1) := by
  have hP : wbd K q.2.2.2.1 [[82, 97, 110, 103, 101], [73, 102, 45, 82, 97, 110, 103, 101], [73, 102, 45, 77, 97, 116, 99, 104], [73, 102, 45, 85, 110, 109, 111, 100, 105, 102, 105, 101, 100, 45, 83, 105, 110, 99, 101]] = some (passO q.2.2.2.1) :=
    wdx (ns := [nRange, nIfRange, nIfMatch, nIfUn]) h (by decide) (by decide) hK
  simp only [wb3, hP, za', zb', zc', zd', ze', zf', zg', zh', zi', zj', zk', zl', zm', zn', zo', zp', zq', zr', zs', zt']
noncomputable def valO (l : List Fld) : Bool := (tagO l).2.1 || (whenO l nMod).2.1
theorem wdn {K : Nat} {r : Rep} (h : sized r.2.2.2.1) (hK : 1000000 + 100 ≤ K) : w7_ K r = some (valO r.2.2.2.1) := by
  have hT : wcH K (r.1, (r.2.1, (r.2.2.1, (r.2.2.2.1, (r.2.2.2.2.1, ()))))) = some (tagO r.2.2.2.1) := weF (r := r) h hK
  have hW : wcA K r.2.2.2.1 [76, 97, 115, 116, 45, 77, 111, 100, 105, 102, 105, 101, 100] = some (whenO r.2.2.2.1 nMod) := wdo (n := nMod) h (by decide) hK
  simp only [w7_, hT, hW, za', zb', zc', zd', ze', zf', zg', zh', zi', zj', zk', zl', zm', zn', zo', zp', zq', zr', zs', zt', valO]
  cases (tagO r.2.2.2.1).2.1 <;> rfl
def mGET : List UInt8 := [71, 69, 84]
/-! What may be kept. -/
def ctlEta (c : Ctl) : Ctl := (c.1, (c.2.1, (c.2.2.1, (c.2.2.2.1, (c.2.2.2.2.1, (c.2.2.2.2.2.1, (c.2.2.2.2.2.2.1, (c.2.2.2.2.2.2.2.1, (c.2.2.2.2.2.2.2.2.1, ())))))))))
noncomputable def b1S (q : Req) : Bool := (q.1 == mGET) && !passO q.2.2.2.1
def b2S (a c : Ctl) : Bool := !a.1 && (!c.1 && !c.2.2.1)
def b3S (q : Req) (c : Ctl) : Bool := !hasO q.2.2.2.1 nAuth || (c.2.2.2.1 || (c.2.2.2.2.1 || decide (c.2.2.2.2.2.2.2.1 ≥ 0)))
def b4S (r : Rep) : Bool := !decide (r.1 = 206) && !decide (r.1 = 304)
def b6S (c : Ctl) (r : Rep) : Bool := (decide (c.2.2.2.2.2.2.2.1 ≥ 0) || decide (c.2.2.2.2.2.2.1 ≥ 0)) || (c.2.2.2.1 || (hasO r.2.2.2.1 nExp || usual r.1))
noncomputable def b7S (r : Rep) (now : Int) : Bool := valO r.2.2.2.1 || freshO (r, now, [], ()) now
noncomputable def storO (q : Req) (r : Rep) (now : Int) : Bool :=
  b1S q && (b2S (askedC q.2.2.2.1) (parseC r.2.2.2.1) && (b3S q (parseC r.2.2.2.1) && (b4S r && ((namesO r.2.2.2.1).2.1 && (b6S (parseC r.2.2.2.1) r && b7S r now)))))
theorem wg2 {K : Nat} {q : Req} (h : sized q.2.2.2.1) (hK : 1000000 + 100 ≤ K) : wbF K q = some (b1S q) := by
  have hP : wb3 K (q.1, (q.2.1, (q.2.2.1, (q.2.2.2.1, (q.2.2.2.2.1, ()))))) = some (passO q.2.2.2.1) := wd4 (q := q) h hK
  simp only [wbF, hP, za', zb', zc', zd', ze', zf', zg', zh', zi', zj', zk', zl', zm', zn', zo', zp', zq', zr', zs', zt', b1S, mGET]
  cases (q.1 == [71, 69, 84]) <;> rfl
theorem wg1 (K : Nat) (a c : Ctl) : wbx K a c = some (b2S a c) := by
  simp only [wbx, b2S]
  cases a.1 <;> cases c.1 <;> rfl
theorem wgO {K : Nat} {q : Req} (c : Ctl) (h : sized q.2.2.2.1) (hK : 1000000 + 100 ≤ K) : wbw K q c = some (b3S q c) := by
  have hP : wbd K q.2.2.2.1 [[65, 117, 116, 104, 111, 114, 105, 122, 97, 116, 105, 111, 110]] = some (hasO q.2.2.2.1 nAuth || false) := wdx (ns := [nAuth]) h (by decide) (by decide) hK
  rw [Bool.or_false] at hP
  simp only [wbw, hP, za', zb', zc', zd', ze', zf', zg', zh', zi', zj', zk', zl', zm', zn', zo', zp', zq', zr', zs', zt', b3S]
  cases hasO q.2.2.2.1 nAuth <;> cases c.2.2.2.1 <;> cases c.2.2.2.2.1 <;> rfl
theorem wgZ (K : Nat) (r : Rep) : wbH K r = some (b4S r) := by
  simp only [wbH, b4S]
  cases decide (r.1 = 206) <;> rfl
theorem wgK {K : Nat} {r : Rep} (h : sized r.2.2.2.1) (hK : 1000000 + 100 ≤ K) : wbG K r = some (namesO r.2.2.2.1).2.1 := by
  simp only [wbG, wex h hK, za', zb', zc', zd', ze', zf', zg', zh', zi', zj', zk', zl', zm', zn', zo', zp', zq', zr', zs', zt']
theorem wgV {K : Nat} {r : Rep} (c : Ctl) (h : sized r.2.2.2.1) (hK : 1000000 + 100 ≤ K) : wbz K c r = some (b6S c r) := by
  have hP : wbd K r.2.2.2.1 [[69, 120, 112, 105, 114, 101, 115]] = some (hasO r.2.2.2.1 nExp || false) := wdx (ns := [nExp]) h (by decide) (by decide) hK
  rw [Bool.or_false] at hP
  simp only [wbz, b6S]
  cases decide (c.2.2.2.2.2.2.2.1 ≥ 0)
  · cases decide (c.2.2.2.2.2.2.1 ≥ 0)
    · cases d3 : c.2.2.2.1
      · simp only [za', zb', zc', zd', ze', zf', zg', zh', zi', zj', zk', zl', zm', zn', zo', zp', zq', zr', zs', zt', hP, d3, wdC, Bool.false_or]
        cases hasO r.2.2.2.1 nExp <;> simp only [za', zb', zc', zd', ze', zf', zg', zh', zi', zj', zk', zl', zm', zn', zo', zp', zq', zr', zs', zt', Bool.true_or, Bool.false_or]
      · simp only [za', zb', zc', zd', ze', zf', zg', zh', zi', zj', zk', zl', zm', zn', zo', zp', zq', zr', zs', zt', d3, Bool.true_or, Bool.false_or]
    · simp only [za', zb', zc', zd', ze', zf', zg', zh', zi', zj', zk', zl', zm', zn', zo', zp', zq', zr', zs', zt', Bool.true_or, Bool.or_true]
  · simp only [za', zb', zc', zd', ze', zf', zg', zh', zi', zj', zk', zl', zm', zn', zo', zp', zq', zr', zs', zt', Bool.true_or]
theorem wg9 {K : Nat} {r : Rep} (now : Int) (h : sized r.2.2.2.1) (hK : 1000000 + 100 ≤ K) : wbE K r now = some (b7S r now) := by
  have hV : w7_ K (r.1, (r.2.1, (r.2.2.1, (r.2.2.2.1, (r.2.2.2.2.1, ()))))) = some (valO r.2.2.2.1) := wdn (r := r) h hK
  have hF : wcl K (((r.1, (r.2.1, (r.2.2.1, (r.2.2.2.1, (r.2.2.2.2.1, ()))))), (now, ([], ())))) now = some (freshO (r, now, [], ()) now) := wdK (s := (r, now, [], ())) h hK
  simp only [wbE, hV, hF, za', zb', zc', zd', ze', zf', zg', zh', zi', zj', zk', zl', zm', zn', zo', zp', zq', zr', zs', zt', b7S]
  cases valO r.2.2.2.1 <;> rfl
theorem wgh : ∀ b1 b2 b3 b4 b5 b6 b7 : Bool, (bif (!b1) then some false else (bif (!b2) then some false else (bif (!b3) then some false else (bif (!b4) then some false else (bif (!b5) then some false else (bif (!b6) then some false else (bif (!b7) then some false else some true))))))) = some (b1 && (b2 && (b3 && (b4 && (b5 && (b6 && b7)))))) := by decide
theorem wc6 {K : Nat} {q : Req} {r : Rep} (now : Int) (hq : sized q.2.2.2.1) (hr : sized r.2.2.2.1) (hK : 1000000 + 100 ≤ K) : w4_ K q r now = some (storO q r now) := by
  have e2 : wbx K (ctlEta (askedC q.2.2.2.1)) (ctlEta (parseC r.2.2.2.1)) = some (b2S (askedC q.2.2.2.1) (parseC r.2.2.2.1)) := wg1 K _ _
  have e3 : wbw K q (ctlEta (parseC r.2.2.2.1)) = some (b3S q (parseC r.2.2.2.1)) := wgO _ hq hK
  have e6 : wbz K (ctlEta (parseC r.2.2.2.1)) r = some (b6S (parseC r.2.2.2.1) r) := wgV _ hr hK
  unfold ctlEta at e2 e3 e6
  simp only [w4_, wdZ hq hK, wc8 hr hK, za', zb', zc', zd', ze', zf', zg', zh', zi', zj', zk', zl', zm', zn', zo', zp', zq', zr', zs', zt', wa_, wg2 hq hK, e2, e3, wgZ, wgK hr hK, e6, wg9 now hr hK]
  rw [wgh]
  rfl
end Go.Proofs.X
