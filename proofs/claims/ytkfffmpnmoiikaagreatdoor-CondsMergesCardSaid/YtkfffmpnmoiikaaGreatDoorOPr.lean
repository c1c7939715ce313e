/-
  A part of the proof. No condition.
-/
import Derived.Test.YtkfffmpnmoiikaaGreatDoorOPq
/- Chapter 19 (conds): asking, merging, selecting, being satisfied. No condition but on sizes. -/
set_option linter.unusedSimpArgs false
set_option linter.unusedVariables false
namespace Go.Proofs.X
open Go Go.Dp
theorem wcU {K : Nat} {r : Rep} (h : sized r.2.2.2.1) (hK : 1000000 + 100 ≤ K) : w5_ K (r, ()) = some (tagO r.2.2.2.1) := by
  have hT : wb3 K (r.1, (r.2.1, (r.2.2.1, (r.2.2.2.1, (r.2.2.2.2.1, ()))))) = some (tagO r.2.2.2.1) := wdQ (r := r) h hK
  simp only [w5_, hT, za', zb', zc', zd', ze', zf', zg', zh', zi', zj', zk', zl', zm', zn', zo', zp', zq', zr', zs', zt']
/-! Merging. -/
def stripO (l : List Fld) : List Fld := dropOf l (nominated l ++ wK_)
def ceN : List (List UInt8) := [[67, 111, 110, 116, 101, 110, 116, 45, 69, 110, 99, 111, 100, 105, 110, 103], [67, 111, 110, 116, 101, 110, 116, 45, 84, 121, 112, 101], [67, 111, 110, 116, 101, 110, 116, 45, 82, 97, 110, 103, 101]]
def comeO (l : List Fld) : List Fld := dropOf (stripO l) ceN
def ageDate : List (List UInt8) := [[65, 103, 101], [68, 97, 116, 101]]
def namesM (come : List Fld) : List (List UInt8) := ageDate ++ come.map (·.1)
def mergeF (s n : List Fld) : List Fld := dropOf s (namesM (comeO n)) ++ comeO n
def mergeO (s : Sto) (n : Rep) (now : Int) : Sto := ((s.1.1, s.1.2.1, s.1.2.2.1, mergeF s.1.2.2.2.1 n.2.2.2.1, s.1.2.2.2.2.1, ()), now, s.2.2.1, ())
theorem wcn {l : List Fld} {ns : List (List UInt8)} {f : Fld} (h : f ∈ dropOf l ns) : f ∈ l := (List.mem_filter.1 h).1
theorem wdY {l : List Fld} {f : Fld} (h : f ∈ comeO l) : f ∈ l := wcn (wcn h)
theorem wcG (l : List Fld) : (comeO l).length ≤ l.length := Nat.le_trans (wch _ _) (wch _ _)
theorem wdP {l : List Fld} {m : Nat} (h : few l m) (hm : m ≤ 1000) : sized l := ⟨by have := h.1; omega, fun f hf => by obtain ⟨h1, h2⟩ := h.2 f hf; exact ⟨by omega, by omega⟩⟩
theorem wdX {n : List Fld} {m : Nat} (h : few n m) (hm : m ≤ 1000) : (namesM (comeO n)).length < 1000000 ∧ ∀ x ∈ namesM (comeO n), x.length ≤ 500 := by
  have h1 := wcG n
  have h2 := h.1
  refine ⟨by simp only [namesM, List.length_append, List.length_map, ageDate, List.length_cons, List.length_nil]; omega, fun x hx => ?_⟩
  rcases List.mem_append.1 hx with hx | hx
  · have : ∀ x ∈ ageDate, x.length ≤ 500 := by decide
    exact this x hx
  · obtain ⟨f, hf, rfl⟩ := List.mem_map.1 hx
    exact (h.2 f (wdY hf)).1
theorem weI {K : Nat} (now : Int) (s : Sto) (come : List Fld) (hl : come.length < 100000) (hK : 1000000 ≤ K) :
    wL_.l0 K K ((now, (0, (0, (come, ((), (come, ((come.length : Int), (0, ())))))))), (s, (((0, ([], (0, ([], ([], ()))))), (0, ([], ()))), ([[65, 103, 101], [68, 97, 116, 101]], ())))) = some ((now, (0, (0, (come, ((), ()))))), (s, (((0, ([], (0, ([], ([], ()))))), (0, ([], ()))), (namesM come, ())))) := by
  have H := idx_rule (l := wL_.l0 K) (wL_.t0 K) (fun _ _ => rfl) come.length
    (fun i => ((now, ((0 : Nat), ((0 : Nat), (come, ((), (come, ((come.length : Int), ((i : Int), ())))))))), (s, (((((0 : Int), (([] : List UInt8), ((0 : Int), (([] : List Fld), (([] : List UInt8), ()))))), ((0 : Int), (([] : List Pk), ()))) : Sto), (namesM (come.take i), ())))))
    (fun _ => ((now, (0, (0, (come, ((), ()))))), (s, (((0, ([], (0, ([], ([], ()))))), (0, ([], ()))), (namesM come, ()))))) ?_ K 0 (by omega) (by omega)
  · have e0 : namesM [] = [[65, 103, 101], [68, 97, 116, 101]] := rfl
    simpa only [List.take_zero, Int.natCast_zero, e0] using H
  · intro i rec hi ih
    by_cases h : i < come.length
    · have hh : (i : Int) < (come.length : Int) := by omega
      have w1 := wrapSucc (show i < 9223372036854775807 by omega)
      have hmax : ((namesM (come.take i)).length + 1) * 16 ≤ maxRoom := by simp only [namesM, List.length_append, List.length_map, ageDate, List.length_cons, List.length_nil, List.length_take, maxRoom]; omega
      have e : namesM (come.take (i + 1)) = namesM (come.take i) ++ [(come.getD i (([], [], ()) : Fld)).1] := by
        simp only [namesM, take_get come (([], [], ()) : Fld) h, List.map_append, List.map_cons, List.map_nil, List.append_assoc]
      have ih' := ih h
      rw [e] at ih'
      simp only [wL_.t0, za', zb', zc', zd', ze', zf', zg', zh', zi', zj', zk', zl', zm', zn', zo', zp', zq', zr', zs', zt', hh, hmax, w1]
      exact ih'
    · have h2 : i = come.length := by omega
      subst h2
      simp only [wL_.t0, za', zb', zc', zd', ze', zf', zg', zh', zi', zj', zk', zl', zm', zn', zo', zp', zq', zr', zs', zt', Int.lt_irrefl, List.take_length]
theorem wde {K m : Nat} {s : Sto} {n : Rep} (now : Int) (hs : sized s.1.2.2.2.1) (hn : few n.2.2.2.1 m) (hm : m ≤ 1000) (hp : s.2.2.1.length ≤ 1000000) (hK : 1000000 + 100 ≤ K) : wL_ K s n now = some (mergeO s n now) := by
  obtain ⟨g1, g2⟩ := wcp hn hm
  have hS := wdt (K := K) hn hm (by omega)
  have hSl := wch n.2.2.2.1 (nominated n.2.2.2.1 ++ wK_)
  have hD : wW_ K (dropOf n.2.2.2.1 (nominated n.2.2.2.1 ++ wK_)) [[67, 111, 110, 116, 101, 110, 116, 45, 69, 110, 99, 111, 100, 105, 110, 103], [67, 111, 110, 116, 101, 110, 116, 45, 84, 121, 112, 101], [67, 111, 110, 116, 101, 110, 116, 45, 82, 97, 110, 103, 101]] = some (comeO n.2.2.2.1) :=
    wcl (names := ceN) (by omega) (fun f hf => g2 f (wcn hf)) (by decide) (fun x hx => by
      have : ∀ x ∈ ceN, x.length < 100 := by decide
      have := this x hx
      omega) (by omega)
  have hc := wcG n.2.2.2.1
  have hL := weI (K := K) now s (comeO n.2.2.2.1) (by have := hn.1; omega) (by omega)
  obtain ⟨n1, n2⟩ := wdX hn hm
  have hD2 := wcl (K := K) (l := s.1.2.2.2.1) (names := namesM (comeO n.2.2.2.1)) hs.1 (fun f hf => by have := (hs.2 f hf).1; omega) n1 (fun x hx => by have := n2 x hx; omega) (by omega)
  have hdl := wch s.1.2.2.2.1 (namesM (comeO n.2.2.2.1))
  have m1 : (0 + s.2.2.1.length) * 40 ≤ maxRoom := by simp only [maxRoom]; omega
  have m2 : ((dropOf s.1.2.2.2.1 (namesM (comeO n.2.2.2.1))).length + (comeO n.2.2.2.1).length) * 32 ≤ maxRoom := by have := hs.1; simp only [maxRoom]; omega
  simp only [wL_, wL_.tr, hS, hD, hL, hD2, za', zb', zc', zd', ze', zf', zg', zh', zi', zj', zk', zl', zm', zn', zo', zp', zq', zr', zs', zt', m1, m2, List.nil_append]
  rfl
theorem wdH {K : Nat} (now : Int) (s : Sto) (come : List Fld) (hl : come.length < 100000) (hK : 1000000 ≤ K) :
    wr_.l0 K K ((now, (s, (0, (come, ((), (0, ())))))), (((0, ([], (0, ([], ([], ()))))), (0, ([], ()))), ([[65, 103, 101], [68, 97, 116, 101]], ()))) = some ((now, (s, (0, (come, ((), ()))))), (((0, ([], (0, ([], ([], ()))))), (0, ([], ()))), (namesM come, ()))) := by
  have H := idx_rule (l := wr_.l0 K) (wr_.t0 K) (fun _ _ => rfl) come.length
    (fun i => ((now, (s, ((0 : Nat), (come, ((), ((i : Int), ())))))), (((((0 : Int), (([] : List UInt8), ((0 : Int), (([] : List Fld), (([] : List UInt8), ()))))), ((0 : Int), (([] : List Pk), ()))) : Sto), (namesM (come.take i), ()))))
    (fun _ => ((now, (s, (0, (come, ((), ()))))), (((0, ([], (0, ([], ([], ()))))), (0, ([], ()))), (namesM come, ())))) ?_ K 0 (by omega) (by omega)
  · have e0 : namesM [] = [[65, 103, 101], [68, 97, 116, 101]] := rfl
    simpa only [List.take_zero, Int.natCast_zero, e0] using H
  · intro i rec hi ih
    by_cases h : i < come.length
    · have hh : (i : Int) < (come.length : Int) := by omega
      have w1 := wrapSucc (show i < 9223372036854775807 by omega)
      have hmax : ((namesM (come.take i)).length + 1) * 16 ≤ maxRoom := by simp only [namesM, List.length_append, List.length_map, ageDate, List.length_cons, List.length_nil, List.length_take, maxRoom]; omega
      have e : namesM (come.take (i + 1)) = namesM (come.take i) ++ [(come.getD i (([], [], ()) : Fld)).1] := by
        simp only [namesM, take_get come (([], [], ()) : Fld) h, List.map_append, List.map_cons, List.map_nil, List.append_assoc]
      have ih' := ih h
      rw [e] at ih'
      simp only [wr_.t0, za', zb', zc', zd', ze', zf', zg', zh', zi', zj', zk', zl', zm', zn', zo', zp', zq', zr', zs', zt', hh, hmax, w1]
      exact ih'
    · have h2 : i = come.length := by omega
      subst h2
      simp only [wr_.t0, za', zb', zc', zd', ze', zf', zg', zh', zi', zj', zk', zl', zm', zn', zo', zp', zq', zr', zs', zt', Int.lt_irrefl, List.take_length]
theorem wdm {K m : Nat} {s : Sto} {n : Rep} (now : Int) (hs : sized s.1.2.2.2.1) (hn : few n.2.2.2.1 m) (hm : m ≤ 1000) (hK : 1000000 + 100 ≤ K) : wr_ K s n now = some (mergeO s n now) := by
  obtain ⟨g1, g2⟩ := wcp hn hm
  have hS := wdd (K := K) hn hm (by omega)
  rw [← weH] at hS
  have hSl := wch n.2.2.2.1 (nominated n.2.2.2.1 ++ wK_)
  have hD : wb_ K (dropOf n.2.2.2.1 (nominated n.2.2.2.1 ++ wK_)) [[67, 111, 110, 116, 101, 110, 116, 45, 69, 110, 99, 111, 100, 105, 110, 103], [67, 111, 110, 116, 101, 110, 116, 45, 84, 121, 112, 101], [67, 111, 110, 116, 101, 110, 116, 45, 82, 97, 110, 103, 101]] = some (comeO n.2.2.2.1) :=
    wcq (names := ceN) (by omega) (fun f hf => g2 f (wcn hf)) (by decide) (fun x hx => by
      have : ∀ x ∈ ceN, x.length < 100 := by decide
      have := this x hx
      omega) (by omega)
  have hc := wcG n.2.2.2.1
  have hL := wdH (K := K) now s (comeO n.2.2.2.1) (by have := hn.1; omega) (by omega)
  obtain ⟨n1, n2⟩ := wdX hn hm
  have hD2 := wcq (K := K) (l := s.1.2.2.2.1) (names := namesM (comeO n.2.2.2.1)) hs.1 (fun f hf => by have := (hs.2 f hf).1; omega) n1 (fun x hx => by have := n2 x hx; omega) (by omega)
  have hdl := wch s.1.2.2.2.1 (namesM (comeO n.2.2.2.1))
  have m2 : ((dropOf s.1.2.2.2.1 (namesM (comeO n.2.2.2.1))).length + (comeO n.2.2.2.1).length) * 32 ≤ maxRoom := by have := hs.1; simp only [maxRoom]; omega
  simp only [wr_, wr_.tr, hS, hD, hL, hD2, za', zb', zc', zd', ze', zf', zg', zh', zi', zj', zk', zl', zm', zn', zo', zp', zq', zr', zs', zt', m2]
  rfl
/-! Selecting. -/
def selO (r n : List Fld) : Bool :=
  if (getOf n nTag).2.1 then (tagO r).2.1 && ((tagO n).2.1 && weakT (tagO r).1 (tagO n).1) else if (getOf n nMod).2.1 then (getOf r nMod).2.1 && ((getOf n nMod).1 == (getOf r nMod).1) else true
theorem wcX {K : Nat} {r n : Rep} (hr : sized r.2.2.2.1) (hn : sized n.2.2.2.1) (hK : 1000000 + 100 ≤ K) : wbn K r n = some (selO r.2.2.2.1 n.2.2.2.1) := by
  have e1 : wbv K n.2.2.2.1 [69, 84, 97, 103] = some (getOf n.2.2.2.1 nTag) := wcr (name := nTag) hn (by decide) (by omega)
  have e2 : wbv K n.2.2.2.1 [76, 97, 115, 116, 45, 77, 111, 100, 105, 102, 105, 101, 100] = some (getOf n.2.2.2.1 nMod) := wcr (name := nMod) hn (by decide) (by omega)
  have e3 : wbv K r.2.2.2.1 [76, 97, 115, 116, 45, 77, 111, 100, 105, 102, 105, 101, 100] = some (getOf r.2.2.2.1 nMod) := wcr (name := nMod) hr (by decide) (by omega)
  have t1 : w5_ K (((r.1, (r.2.1, (r.2.2.1, (r.2.2.2.1, (r.2.2.2.2.1, ()))))), ())) = some (tagO r.2.2.2.1) := wcU (r := r) hr hK
  have t2 : w5_ K (((n.1, (n.2.1, (n.2.2.1, (n.2.2.2.1, (n.2.2.2.2.1, ()))))), ())) = some (tagO n.2.2.2.1) := wcU (r := n) hn hK
  have w : wb1 K ((tagO r.2.2.2.1).1.1, ((tagO r.2.2.2.1).1.2.1, ())) ((tagO n.2.2.2.1).1.1, ((tagO n.2.2.2.1).1.2.1, ())) = some (weakT (tagO r.2.2.2.1).1 (tagO n.2.2.2.1).1) := wdU K _ _
  unfold selO
  cases c1 : (getOf n.2.2.2.1 nTag).2.1 with
  | true =>
    simp only [wbn, e1, c1, t1, t2, za', zb', zc', zd', ze', zf', zg', zh', zi', zj', zk', zl', zm', zn', zo', zp', zq', zr', zs', zt']
    cases (tagO r.2.2.2.1).2.1 <;> cases (tagO n.2.2.2.1).2.1 <;> simp only [za', zb', zc', zd', ze', zf', zg', zh', zi', zj', zk', zl', zm', zn', zo', zp', zq', zr', zs', zt', w] <;> rfl
  | false =>
    simp only [wbn, e1, c1, e2, za', zb', zc', zd', ze', zf', zg', zh', zi', zj', zk', zl', zm', zn', zo', zp', zq', zr', zs', zt']
    cases (getOf n.2.2.2.1 nMod).2.1 with
    | false => rfl
    | true =>
      simp only [za', zb', zc', zd', ze', zf', zg', zh', zi', zj', zk', zl', zm', zn', zo', zp', zq', zr', zs', zt', e3]
      cases (getOf r.2.2.2.1 nMod).2.1 <;> rfl
theorem wcY {K : Nat} {r n : Rep} (hr : sized r.2.2.2.1) (hn : sized n.2.2.2.1) (hK : 1000000 + 100 ≤ K) : wbb K r n = some (selO r.2.2.2.1 n.2.2.2.1) := by
  have e1 : w7_ K n.2.2.2.1 [69, 84, 97, 103] = some (getOf n.2.2.2.1 nTag) := wct (name := nTag) hn (by decide) (by omega)
  have e2 : w7_ K n.2.2.2.1 [76, 97, 115, 116, 45, 77, 111, 100, 105, 102, 105, 101, 100] = some (getOf n.2.2.2.1 nMod) := wct (name := nMod) hn (by decide) (by omega)
  have e3 : w7_ K r.2.2.2.1 [76, 97, 115, 116, 45, 77, 111, 100, 105, 102, 105, 101, 100] = some (getOf r.2.2.2.1 nMod) := wct (name := nMod) hr (by decide) (by omega)
  have t1 : wbf K (r.1, (r.2.1, (r.2.2.1, (r.2.2.2.1, (r.2.2.2.2.1, ()))))) = some (tagO r.2.2.2.1) := wcR (r := r) hr hK
  have t2 : wbf K (n.1, (n.2.1, (n.2.2.1, (n.2.2.2.1, (n.2.2.2.2.1, ()))))) = some (tagO n.2.2.2.1) := wcR (r := n) hn hK
  have w : wbs K ((tagO r.2.2.2.1).1.1, ((tagO r.2.2.2.1).1.2.1, ())) ((tagO n.2.2.2.1).1.1, ((tagO n.2.2.2.1).1.2.1, ())) = some (weakT (tagO r.2.2.2.1).1 (tagO n.2.2.2.1).1) := wdE K _ _
  unfold selO
  cases c1 : (getOf n.2.2.2.1 nTag).2.1 with
  | true =>
    simp only [wbb, e1, c1, t1, t2, za', zb', zc', zd', ze', zf', zg', zh', zi', zj', zk', zl', zm', zn', zo', zp', zq', zr', zs', zt']
    cases (tagO r.2.2.2.1).2.1 <;> cases (tagO n.2.2.2.1).2.1 <;> simp only [za', zb', zc', zd', ze', zf', zg', zh', zi', zj', zk', zl', zm', zn', zo', zp', zq', zr', zs', zt', w] <;> rfl
  | false =>
    simp only [wbb, e1, c1, e2, e3, za', zb', zc', zd', ze', zf', zg', zh', zi', zj', zk', zl', zm', zn', zo', zp', zq', zr', zs', zt']
    cases (getOf n.2.2.2.1 nMod).2.1 with
    | false => rfl
    | true =>
      simp only [za', zb', zc', zd', ze', zf', zg', zh', zi', zj', zk', zl', zm', zn', zo', zp', zq', zr', zs', zt']
      cases (getOf r.2.2.2.1 nMod).2.1 <;> rfl
/-! Being satisfied. -/
end Go.Proofs.X
