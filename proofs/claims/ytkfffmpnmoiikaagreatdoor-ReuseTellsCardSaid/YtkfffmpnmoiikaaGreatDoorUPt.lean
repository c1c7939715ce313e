/-
  A part of the proof. No condition.
-/
import Derived.Test.YtkfffmpnmoiikaaGreatDoorUPm
import Derived.Test.YtkfffmpnmoiikaaGreatDoorUPr
import Derived.Test.YtkfffmpnmoiikaaGreatDoorUPs
/- Chapter 18 (reuse): tags, validators, what may be kept, what is to be done. No condition but on sizes. -/
set_option linter.unusedSimpArgs false
set_option linter.unusedVariables false
namespace Go.Proofs.X
open Go Go.Dp
abbrev Req := List UInt8 × List UInt8 × Int × List Fld × List UInt8 × Unit
def nTag : List UInt8 := [69, 84, 97, 103]
def tagO (l : List Fld) : Tg × Bool × Unit := if (allOf l nTag).length = 1 then parT ((allOf l nTag).getD 0 []) else ((false, [], ()), false, ())
theorem weo {K : Nat} {r : Rep} (h : sized r.2.2.2.1) (hK : 1000000 + 100 ≤ K) : wcG K r = some (tagO r.2.2.2.1) := by
  have hA : wV_ K r.2.2.2.1 [69, 84, 97, 103] = some (allOf r.2.2.2.1 nTag) := wc9 h.1 (fun f hf => by have := (h.2 f hf).1; omega) (name := nTag) (by decide) (by omega)
  have hb : ∀ v ∈ allOf r.2.2.2.1 nTag, v.length ≤ 99999 := wc8 fun f hf => by have := (h.2 f hf).2; omega
  simp only [wcG, hA, za', zb', zc', zd', ze', zf', zg', zh', zi', zj', zk', zl', zm', zn', zo', zp', zq', zr', zs', zt']
  unfold tagO
  by_cases c : (allOf r.2.2.2.1 nTag).length = 1
  · have hm := hb _ (wcW (allOf r.2.2.2.1 nTag) [] (i := 0) (by omega))
    have hP := wfr (K := K) (s := (allOf r.2.2.2.1 nTag).getD 0 []) (by omega) (by omega)
    have c1 : ((allOf r.2.2.2.1 nTag).length : Int) = 1 := by omega
    have c2 : (0 : Int) < ((allOf r.2.2.2.1 nTag).length : Int) := by omega
    rw [if_pos c]
    simp only [c1, za', zb', zc', zd', ze', zf', zg', zh', zi', zj', zk', zl', zm', zn', zo', zp', zq', zr', zs', zt', Nat.zero_le, Nat.le_refl, Int.le_refl, show (0 : Int) < 1 by decide, hP]
  · have c1 : ¬ ((allOf r.2.2.2.1 nTag).length : Int) = 1 := by omega
    rw [if_neg c]
    simp only [c1, za', zb', zc', zd', ze', zf', zg', zh', zi', zj', zk', zl', zm', zn', zo', zp', zq', zr', zs', zt']
theorem wem {K : Nat} {r : Rep} (h : sized r.2.2.2.1) (hK : 1000000 + 100 ≤ K) : wbS K r = some (tagO r.2.2.2.1) := by
  have hA : wo_ K r.2.2.2.1 [69, 84, 97, 103] = some (allOf r.2.2.2.1 nTag) := wc6 h.1 (fun f hf => by have := (h.2 f hf).1; omega) (name := nTag) (by decide) (by omega)
  have hb : ∀ v ∈ allOf r.2.2.2.1 nTag, v.length ≤ 99999 := wc8 fun f hf => by have := (h.2 f hf).2; omega
  simp only [wbS, hA, za', zb', zc', zd', ze', zf', zg', zh', zi', zj', zk', zl', zm', zn', zo', zp', zq', zr', zs', zt']
  unfold tagO
  by_cases c : (allOf r.2.2.2.1 nTag).length = 1
  · have hm := hb _ (wcW (allOf r.2.2.2.1 nTag) [] (i := 0) (by omega))
    have hP := we3 (K := K) (s := (allOf r.2.2.2.1 nTag).getD 0 []) (by omega) (by omega)
    have c1 : ((allOf r.2.2.2.1 nTag).length : Int) = 1 := by omega
    have c2 : (0 : Int) < ((allOf r.2.2.2.1 nTag).length : Int) := by omega
    rw [if_pos c]
    simp only [c1, za', zb', zc', zd', ze', zf', zg', zh', zi', zj', zk', zl', zm', zn', zo', zp', zq', zr', zs', zt', Nat.zero_le, Nat.le_refl, Int.le_refl, show (0 : Int) < 1 by decide, hP]
  · have c1 : ¬ ((allOf r.2.2.2.1 nTag).length : Int) = 1 := by omega
    rw [if_neg c]
    simp only [c1, za', zb', zc', zd', ze', zf', zg', zh', zi', zj', zk', zl', zm', zn', zo', zp', zq', zr', zs', zt']
def hasO (l : List Fld) (n : List UInt8) : Bool := decide ((allOf l n).length > 0)
theorem wdK {K : Nat} {l : List Fld} {ns : List (List UInt8)} (h : sized l) (hn : ∀ n ∈ ns, n.length < 1000000) (hl : ns.length < 1000) (hK : 1000000 + 100 ≤ K) : wbi K l ns = some (ns.any (hasO l)) := by
  have H := idx_rule (l := wbi.l0 K) (wbi.t0 K) (fun _ _ => rfl) ns.length
    (fun i => ((l, (ns, ((ns.length : Int), ((i : Int), ())))), ())) (fun i => if (ns.drop i).any (hasO l) then .inr ((true, ()), ()) else .inl ((), ())) ?_ K 0 (by omega) (by omega)
  · simp only [List.drop_zero, Int.natCast_zero] at H
    simp only [wbi, wbi.tr]
    rw [H]
    cases ns.any (hasO l) <;> simp only [za', zb', zc', zd', ze', zf', zg', zh', zi', zj', zk', zl', zm', zn', zo', zp', zq', zr', zs', zt']
  · intro i rec hi ih
    by_cases h1 : i < ns.length
    · have hh : (i : Int) < (ns.length : Int) := by omega
      have w1 := wrapSucc (show i < 9223372036854775807 by omega)
      have hm := hn _ (wcW ns [] h1)
      have hG := wdG (K := K) (name := ns.getD i []) h hm (by omega)
      have e : (getOf l (ns.getD i [])).2.1 = hasO l (ns.getD i []) := rfl
      have ih' := ih h1
      rw [drop_get ns [] h1, List.any_cons]
      cases d : hasO l (ns.getD i []) with
      | true => simp only [wbi.t0, za', zb', zc', zd', ze', zf', zg', zh', zi', zj', zk', zl', zm', zn', zo', zp', zq', zr', zs', zt', hh, hG, e, d, Bool.true_or]
      | false =>
        simp only [wbi.t0, za', zb', zc', zd', ze', zf', zg', zh', zi', zj', zk', zl', zm', zn', zo', zp', zq', zr', zs', zt', hh, hG, e, d, w1, Bool.false_or]
        exact ih'
    · have h2 : i = ns.length := by omega
      subst h2
      simp only [wbi.t0, za', zb', zc', zd', ze', zf', zg', zh', zi', zj', zk', zl', zm', zn', zo', zp', zq', zr', zs', zt', Int.lt_irrefl, drop_len, List.any_nil]
theorem wdb {K : Nat} {l : List Fld} {n : List UInt8} (h : sized l) (hn : n.length < 1000000) (hK : 1000000 + 100 ≤ K) : wbe K l n = some (hasO l n) := by
  have hA := wc6 (K := K) h.1 (fun f hf => by have := (h.2 f hf).1; omega) hn (by omega)
  simp only [wbe, hA, za', zb', zc', zd', ze', zf', zg', zh', zi', zj', zk', zl', zm', zn', zo', zp', zq', zr', zs', zt', hasO]
  congr 1
  rw [decide_eq_decide]
  omega
def nRange : List UInt8 := [82, 97, 110, 103, 101]
def nIfRange : List UInt8 := [73, 102, 45, 82, 97, 110, 103, 101]
def nIfMatch : List UInt8 := [73, 102, 45, 77, 97, 116, 99, 104]
def nIfUn : List UInt8 := [73, 102, 45, 85, 110, 109, 111, 100, 105, 102, 105, 101, 100, 45, 83, 105, 110, 99, 101]
def nAuth : List UInt8 := [65, 117, 116, 104, 111, 114, 105, 122, 97, 116, 105, 111, 110]
def passO (l : List Fld) : Bool := [nRange, nIfRange, nIfMatch, nIfUn].any (hasO l)
theorem wdL {K : Nat} {q : Req} (h : sized q.2.2.2.1) (hK : 1000000 + 100 ≤ K) : wb8 K q = some (passO q.2.2.2.1) := by
  have hP : wbi K q.2.2.2.1 [[82, 97, 110, 103, 101], [73, 102, 45, 82, 97, 110, 103, 101], [73, 102, 45, 77, 97, 116, 99, 104], [73, 102, 45, 85, 110, 109, 111, 100, 105, 102, 105, 101, 100, 45, 83, 105, 110, 99, 101]] = some (passO q.2.2.2.1) :=
    wdK (ns := [nRange, nIfRange, nIfMatch, nIfUn]) h (by decide) (by decide) hK
  simp only [wb8, hP, za', zb', zc', zd', ze', zf', zg', zh', zi', zj', zk', zl', zm', zn', zo', zp', zq', zr', zs', zt']
theorem wdQ {K : Nat} {q : Req} (h : sized q.2.2.2.1) (hK : 1000000 + 100 ≤ K) : wbm K q = some (passO q.2.2.2.1) := by
  have e1 : wbe K q.2.2.2.1 [82, 97, 110, 103, 101] = some (hasO q.2.2.2.1 nRange) := wdb (n := nRange) h (by decide) hK
  have e2 : wbe K q.2.2.2.1 [73, 102, 45, 82, 97, 110, 103, 101] = some (hasO q.2.2.2.1 nIfRange) := wdb (n := nIfRange) h (by decide) hK
  have e3 : wbe K q.2.2.2.1 [73, 102, 45, 77, 97, 116, 99, 104] = some (hasO q.2.2.2.1 nIfMatch) := wdb (n := nIfMatch) h (by decide) hK
  have e4 : wbe K q.2.2.2.1 [73, 102, 45, 85, 110, 109, 111, 100, 105, 102, 105, 101, 100, 45, 83, 105, 110, 99, 101] = some (hasO q.2.2.2.1 nIfUn) := wdb (n := nIfUn) h (by decide) hK
  simp only [wbm, e1, e2, e3, e4, za', zb', zc', zd', ze', zf', zg', zh', zi', zj', zk', zl', zm', zn', zo', zp', zq', zr', zs', zt', passO, List.any_cons, List.any_nil]
  cases hasO q.2.2.2.1 nRange <;> cases hasO q.2.2.2.1 nIfRange <;> cases hasO q.2.2.2.1 nIfMatch <;> cases hasO q.2.2.2.1 nIfUn <;> rfl
noncomputable def valO (l : List Fld) : Bool := (tagO l).2.1 || (whenO l nMod).2.1
theorem wdu {K : Nat} {r : Rep} (h : sized r.2.2.2.1) (hK : 1000000 + 100 ≤ K) : wbp K r = some (valO r.2.2.2.1) := by
  have hT : wcG K (r.1, (r.2.1, (r.2.2.1, (r.2.2.2.1, (r.2.2.2.2.1, ()))))) = some (tagO r.2.2.2.1) := weo (r := r) h hK
  have hW : wcy K r.2.2.2.1 [76, 97, 115, 116, 45, 77, 111, 100, 105, 102, 105, 101, 100] = some (whenO r.2.2.2.1 nMod) := wdt (n := nMod) h (by decide) hK
  simp only [wbp, hT, hW, za', zb', zc', zd', ze', zf', zg', zh', zi', zj', zk', zl', zm', zn', zo', zp', zq', zr', zs', zt', valO]
  cases (tagO r.2.2.2.1).2.1 <;> rfl
theorem wdv {K : Nat} {r : Rep} (h : sized r.2.2.2.1) (hK : 10000000 + 100 ≤ K) : w2_ K r = some (valO r.2.2.2.1) := by
  have hT : wbS K (r.1, (r.2.1, (r.2.2.1, (r.2.2.2.1, (r.2.2.2.2.1, ()))))) = some (tagO r.2.2.2.1) := wem (r := r) h (by omega)
  have hW : wba K r.2.2.2.1 [76, 97, 115, 116, 45, 77, 111, 100, 105, 102, 105, 101, 100] = some (whenO r.2.2.2.1 nMod) := wdo (n := nMod) h (by decide) hK
  simp only [w2_, hT, hW, za', zb', zc', zd', ze', zf', zg', zh', zi', zj', zk', zl', zm', zn', zo', zp', zq', zr', zs', zt', valO]
  cases (tagO r.2.2.2.1).2.1 <;> rfl
def mGET : List UInt8 := [71, 69, 84]
def safeO (m : List UInt8) : Bool := (m == mGET) || (m == [72, 69, 65, 68]) || (m == [79, 80, 84, 73, 79, 78, 83]) || (m == [84, 82, 65, 67, 69])
theorem wfX (K : Nat) (m : List UInt8) : wc1 K m = some (safeO m) := by
  simp only [wc1, safeO, mGET]
  cases (m == [71, 69, 84]) <;> cases (m == [72, 69, 65, 68]) <;> cases (m == [79, 80, 84, 73, 79, 78, 83]) <;> cases (m == [84, 82, 65, 67, 69]) <;> rfl
theorem wfl (K : Nat) (m : List UInt8) : wcd K m = some (safeO m) := by
  simp only [wcd, safeO, mGET]
  cases (m == [71, 69, 84]) <;> cases (m == [72, 69, 65, 68]) <;> cases (m == [79, 80, 84, 73, 79, 78, 83]) <;> cases (m == [84, 82, 65, 67, 69]) <;> rfl
def invO (m : List UInt8) (c : Int) : Bool := !safeO m && (decide (c ≥ 200) && decide (c ≤ 399))
theorem wdV (K : Nat) (q : Req) (r : Rep) : wbl K q r = some (invO q.1 r.1) := by
  simp only [wbl, wfX, za', zb', zc', zd', ze', zf', zg', zh', zi', zj', zk', zl', zm', zn', zo', zp', zq', zr', zs', zt', invO]
  cases safeO q.1 <;> cases decide (r.1 ≥ 200) <;> rfl
theorem wdW (K : Nat) (q : Req) (r : Rep) : w3_ K q r = some (invO q.1 r.1) := by
  simp only [w3_, wfl, za', zb', zc', zd', ze', zf', zg', zh', zi', zj', zk', zl', zm', zn', zo', zp', zq', zr', zs', zt', invO]
  cases safeO q.1 <;> cases decide (r.1 ≥ 200) <;> rfl
/-! What may be kept. -/
def ctlEta (c : Ctl) : Ctl := (c.1, (c.2.1, (c.2.2.1, (c.2.2.2.1, (c.2.2.2.2.1, (c.2.2.2.2.2.1, (c.2.2.2.2.2.2.1, (c.2.2.2.2.2.2.2.1, (c.2.2.2.2.2.2.2.2.1, ())))))))))
noncomputable def b1S (q : Req) : Bool := (q.1 == mGET) && !passO q.2.2.2.1
def b2S (a c : Ctl) : Bool := !a.1 && (!c.1 && !c.2.2.1)
def b3S (q : Req) (c : Ctl) : Bool := !hasO q.2.2.2.1 nAuth || (c.2.2.2.1 || (c.2.2.2.2.1 || decide (c.2.2.2.2.2.2.2.1 ≥ 0)))
def b4S (r : Rep) : Bool := !decide (r.1 = 206) && !decide (r.1 = 304)
def b6S (c : Ctl) (r : Rep) : Bool := (decide (c.2.2.2.2.2.2.2.1 ≥ 0) || decide (c.2.2.2.2.2.2.1 ≥ 0)) || (c.2.2.2.1 || (hasO r.2.2.2.1 nExp || usual r.1))
noncomputable def b7S (r : Rep) (now : Int) : Bool := valO r.2.2.2.1 || freshO (r, now, [], ()) now
noncomputable def storO (q : Req) (r : Rep) (now : Int) : Bool :=
  b1S q && (b2S (askedC q.2.2.2.1) (parseC r.2.2.2.1) && (b3S q (parseC r.2.2.2.1) && (b4S r && ((namesO r.2.2.2.1).2.1 && (b6S (parseC r.2.2.2.1) r && b7S r now)))))
theorem wii {K : Nat} {q : Req} (h : sized q.2.2.2.1) (hK : 1000000 + 100 ≤ K) : wbN K q = some (b1S q) := by
  have hP : wb8 K (q.1, (q.2.1, (q.2.2.1, (q.2.2.2.1, (q.2.2.2.2.1, ()))))) = some (passO q.2.2.2.1) := wdL (q := q) h hK
  simp only [wbN, hP, za', zb', zc', zd', ze', zf', zg', zh', zi', zj', zk', zl', zm', zn', zo', zp', zq', zr', zs', zt', b1S, mGET]
  cases (q.1 == [71, 69, 84]) <;> rfl
theorem wiD (K : Nat) (a c : Ctl) : wbD K a c = some (b2S a c) := by
  simp only [wbD, b2S]
  cases a.1 <;> cases c.1 <;> rfl
theorem wiu {K : Nat} {q : Req} (c : Ctl) (h : sized q.2.2.2.1) (hK : 1000000 + 100 ≤ K) : wbC K q c = some (b3S q c) := by
  have hP : wbi K q.2.2.2.1 [[65, 117, 116, 104, 111, 114, 105, 122, 97, 116, 105, 111, 110]] = some (hasO q.2.2.2.1 nAuth || false) := wdK (ns := [nAuth]) h (by decide) (by decide) hK
  rw [Bool.or_false] at hP
  simp only [wbC, hP, za', zb', zc', zd', ze', zf', zg', zh', zi', zj', zk', zl', zm', zn', zo', zp', zq', zr', zs', zt', b3S]
  cases hasO q.2.2.2.1 nAuth <;> cases c.2.2.2.1 <;> cases c.2.2.2.2.1 <;> rfl
theorem wiA (K : Nat) (r : Rep) : wbO K r = some (b4S r) := by
  simp only [wbO, b4S]
  cases decide (r.1 = 206) <;> rfl
theorem wig {K : Nat} {r : Rep} (h : sized r.2.2.2.1) (hK : 1000000 + 100 ≤ K) : wbK K r = some (namesO r.2.2.2.1).2.1 := by
  simp only [wbK, wfh h hK, za', zb', zc', zd', ze', zf', zg', zh', zi', zj', zk', zl', zm', zn', zo', zp', zq', zr', zs', zt']
theorem wit {K : Nat} {r : Rep} (c : Ctl) (h : sized r.2.2.2.1) (hK : 1000000 + 100 ≤ K) : wbA K c r = some (b6S c r) := by
  have hP : wbi K r.2.2.2.1 [[69, 120, 112, 105, 114, 101, 115]] = some (hasO r.2.2.2.1 nExp || false) := wdK (ns := [nExp]) h (by decide) (by decide) hK
  rw [Bool.or_false] at hP
  simp only [wbA, b6S]
  cases decide (c.2.2.2.2.2.2.2.1 ≥ 0)
  · cases decide (c.2.2.2.2.2.2.1 ≥ 0)
    · cases d3 : c.2.2.2.1
      · simp only [za', zb', zc', zd', ze', zf', zg', zh', zi', zj', zk', zl', zm', zn', zo', zp', zq', zr', zs', zt', hP, d3, wed, Bool.false_or]
        cases hasO r.2.2.2.1 nExp <;> simp only [za', zb', zc', zd', ze', zf', zg', zh', zi', zj', zk', zl', zm', zn', zo', zp', zq', zr', zs', zt', Bool.true_or, Bool.false_or]
      · simp only [za', zb', zc', zd', ze', zf', zg', zh', zi', zj', zk', zl', zm', zn', zo', zp', zq', zr', zs', zt', d3, Bool.true_or, Bool.false_or]
    · simp only [za', zb', zc', zd', ze', zf', zg', zh', zi', zj', zk', zl', zm', zn', zo', zp', zq', zr', zs', zt', Bool.true_or, Bool.or_true]
  · simp only [za', zb', zc', zd', ze', zf', zg', zh', zi', zj', zk', zl', zm', zn', zo', zp', zq', zr', zs', zt', Bool.true_or]
theorem wiw {K : Nat} {r : Rep} (now : Int) (h : sized r.2.2.2.1) (hK : 1000000 + 100 ≤ K) : wbL K r now = some (b7S r now) := by
  have hV : wbp K (r.1, (r.2.1, (r.2.2.1, (r.2.2.2.1, (r.2.2.2.2.1, ()))))) = some (valO r.2.2.2.1) := wdu (r := r) h hK
  have hF : wcv K (((r.1, (r.2.1, (r.2.2.1, (r.2.2.2.1, (r.2.2.2.2.1, ()))))), (now, ([], ())))) now = some (freshO (r, now, [], ()) now) := wfj (s := (r, now, [], ())) h hK
  simp only [wbL, hV, hF, za', zb', zc', zd', ze', zf', zg', zh', zi', zj', zk', zl', zm', zn', zo', zp', zq', zr', zs', zt', b7S]
  cases valO r.2.2.2.1 <;> rfl
theorem whE : ∀ b1 b2 b3 b4 b5 b6 b7 : Bool, (bif (!b1) then some false else (bif (!b2) then some false else (bif (!b3) then some false else (bif (!b4) then some false else (bif (!b5) then some false else (bif (!b6) then some false else (bif (!b7) then some false else some true))))))) = some (b1 && (b2 && (b3 && (b4 && (b5 && (b6 && b7)))))) := by decide
theorem weg {K : Nat} {q : Req} {r : Rep} (now : Int) (hq : sized q.2.2.2.1) (hr : sized r.2.2.2.1) (hK : 1000000 + 100 ≤ K) : wbI K q r now = some (storO q r now) := by
  have e2 : wbD K (ctlEta (askedC q.2.2.2.1)) (ctlEta (parseC r.2.2.2.1)) = some (b2S (askedC q.2.2.2.1) (parseC r.2.2.2.1)) := wiD K _ _
  have e3 : wbC K q (ctlEta (parseC r.2.2.2.1)) = some (b3S q (parseC r.2.2.2.1)) := wiu _ hq hK
  have e6 : wbA K (ctlEta (parseC r.2.2.2.1)) r = some (b6S (parseC r.2.2.2.1) r) := wit _ hr hK
  unfold ctlEta at e2 e3 e6
  simp only [wbI, wer hq hK, wdl hr hK, za', zb', zc', zd', ze', zf', zg', zh', zi', zj', zk', zl', zm', zn', zo', zp', zq', zr', zs', zt', wa_, wii hq hK, e2, e3, wiA, wig hr hK, e6, wiw now hr hK]
  rw [whE]
  rfl
end Go.Proofs.X
