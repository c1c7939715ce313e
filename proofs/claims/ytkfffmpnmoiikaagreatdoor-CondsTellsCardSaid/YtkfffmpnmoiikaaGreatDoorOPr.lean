/-
  A part of the proof. No condition.
-/
import Derived.Test.YtkfffmpnmoiikaaGreatDoorOPq
/- Chapter 19 (conds): asking, merging, selecting, being satisfied. No condition but on sizes. -/
set_option linter.unusedSimpArgs false
set_option linter.unusedVariables false
namespace Go.Proofs.X
open Go Go.Dp
def nINM : List UInt8 := [73, 102, 45, 78, 111, 110, 101, 45, 77, 97, 116, 99, 104]
def nIMS : List UInt8 := [73, 102, 45, 77, 111, 100, 105, 102, 105, 101, 100, 45, 83, 105, 110, 99, 101]
theorem room2 (l : List Fld) (x : Fld) (h : l.length ≤ 1000000) : ((l ++ [x]).length + 1) * 32 ≤ maxRoom := by simp only [List.length_append, List.length_singleton, maxRoom]; omega
theorem wdc {K : Nat} {r : Rep} (h : sized r.2.2.2.1) (hK : 1000000 + 100 ≤ K) : wbc K (r, ()) = some (tagO r.2.2.2.1) := by
  have hT : wb8 K (r.1, (r.2.1, (r.2.2.1, (r.2.2.2.1, (r.2.2.2.2.1, ()))))) = some (tagO r.2.2.2.1) := wed (r := r) h hK
  simp only [wbc, hT, za', zb', zc', zd', ze', zf', zg', zh', zi', zj', zk', zl', zm', zn', zo', zp', zq', zr', zs', zt']
theorem wcS {K : Nat} {r : Rep} (h : sized r.2.2.2.1) (hK : 1000000 + 100 ≤ K) : wbg K (r, ()) = some (whenO r.2.2.2.1 nMod) := by
  have hW : wb2 K r.2.2.2.1 [76, 97, 115, 116, 45, 77, 111, 100, 105, 102, 105, 101, 100] = some (whenO r.2.2.2.1 nMod) := wc9 (n := nMod) h (by decide) hK
  simp only [wbg, hW, za', zb', zc', zd', ze', zf', zg', zh', zi', zj', zk', zl', zm', zn', zo', zp', zq', zr', zs', zt']
noncomputable def askF (q : List Fld) (l : List Fld) : List Fld :=
  (dropOf q [nINM, nIMS] ++ (if (tagO l).2.1 then [(nINM, txtT (tagO l).1, ())] else [])) ++ (if (whenO l nMod).2.1 then [(nIMS, (getOf l nMod).1, ())] else [])
noncomputable def askO (q : Req) (r : Rep) : Req := ([71, 69, 84], q.2.1, 1, askF q.2.2.2.1 r.2.2.2.1, [], ())
theorem wer {K : Nat} {q : Req} {r : Rep} (hq : sized q.2.2.2.1) (hr : sized r.2.2.2.1) (hK : 1000000 + 100 ≤ K) : wbW K q r = some (askO q r) := by
  have hD : w0_ K q.2.2.2.1 [[73, 102, 45, 78, 111, 110, 101, 45, 77, 97, 116, 99, 104], [73, 102, 45, 77, 111, 100, 105, 102, 105, 101, 100, 45, 83, 105, 110, 99, 101]] = some (dropOf q.2.2.2.1 [nINM, nIMS]) :=
    wdy (names := [nINM, nIMS]) hq.1 (fun f hf => by have := (hq.2 f hf).1; omega) (by decide) (fun n hn => by
      have : ∀ n ∈ [nINM, nIMS], n.length < 100 := by decide
      have := this n hn
      omega) (by omega)
  have hT : wbc K (((r.1, (r.2.1, (r.2.2.1, (r.2.2.2.1, (r.2.2.2.2.1, ()))))), ())) = some (tagO r.2.2.2.1) := wdc (r := r) hr hK
  have hW : wbg K (((r.1, (r.2.1, (r.2.2.1, (r.2.2.2.1, (r.2.2.2.2.1, ()))))), ())) = some (whenO r.2.2.2.1 nMod) := wcS (r := r) hr hK
  have hX0 : ∀ t : Tg, t.2.1.length ≤ 1000000 → wb7 K (t.1, (t.2.1, ())) = some (txtT t) := fun t h => wek K h
  have hX := hX0 (tagO r.2.2.2.1).1 (by have := weR hr; omega)
  have hG : wbC K r.2.2.2.1 [76, 97, 115, 116, 45, 77, 111, 100, 105, 102, 105, 101, 100] = some (getOf r.2.2.2.1 nMod) := wcX (name := nMod) hr (by decide) (by omega)
  have hlen : (dropOf q.2.2.2.1 [nINM, nIMS]).length ≤ 1000000 := Nat.le_trans (wc3 _ _) (Nat.le_of_lt hq.1)
  have m1 : ((dropOf q.2.2.2.1 [nINM, nIMS]).length + 1) * 32 ≤ maxRoom := by simp only [maxRoom]; omega
  have m2 : ∀ x : Fld, ((dropOf q.2.2.2.1 [nINM, nIMS] ++ [x]).length + 1) * 32 ≤ maxRoom := fun x => room2 _ x hlen
  simp only [nINM, nIMS] at hD m1 m2
  unfold askO askF
  cases c1 : (tagO r.2.2.2.1).2.1 with
  | false =>
    cases c2 : (whenO r.2.2.2.1 nMod).2.1 with
    | false => simp only [wbW, hD, hT, hW, c1, c2, za', zb', zc', zd', ze', zf', zg', zh', zi', zj', zk', zl', zm', zn', zo', zp', zq', zr', zs', zt', eq_self, if_true, Bool.false_eq_true, if_false, List.append_nil, nINM, nIMS]
    | true =>
      simp only [wbW, hD, hT, hW, c1, c2, za', zb', zc', zd', ze', zf', zg', zh', zi', zj', zk', zl', zm', zn', zo', zp', zq', zr', zs', zt', eq_self, if_true, Bool.false_eq_true, if_false, hG, m1, List.append_nil, nINM, nIMS]
  | true =>
    cases c2 : (whenO r.2.2.2.1 nMod).2.1 with
    | false =>
      simp only [wbW, hD, hT, hW, c1, c2, za', zb', zc', zd', ze', zf', zg', zh', zi', zj', zk', zl', zm', zn', zo', zp', zq', zr', zs', zt', eq_self, if_true, Bool.false_eq_true, if_false, hX, m1, List.append_nil, nINM, nIMS]
    | true =>
      simp only [wbW, hD, hT, hW, c1, c2, za', zb', zc', zd', ze', zf', zg', zh', zi', zj', zk', zl', zm', zn', zo', zp', zq', zr', zs', zt', eq_self, if_true, hX, hG, m1, m2, nINM, nIMS]
theorem wef {K : Nat} {q : Req} {r : Rep} (hq : sized q.2.2.2.1) (hr : sized r.2.2.2.1) (hK : 10000000 + 100 ≤ K) : wbE K q r = some (askO q r) := by
  have hD : wb_ K q.2.2.2.1 [[73, 102, 45, 78, 111, 110, 101, 45, 77, 97, 116, 99, 104], [73, 102, 45, 77, 111, 100, 105, 102, 105, 101, 100, 45, 83, 105, 110, 99, 101]] = some (dropOf q.2.2.2.1 [nINM, nIMS]) :=
    wdZ (names := [nINM, nIMS]) hq.1 (fun f hf => by have := (hq.2 f hf).1; omega) (by decide) (fun n hn => by
      have : ∀ n ∈ [nINM, nIMS], n.length < 100 := by decide
      have := this n hn
      omega) (by omega)
  have hT : wbl K (r.1, (r.2.1, (r.2.2.1, (r.2.2.2.1, (r.2.2.2.2.1, ()))))) = some (tagO r.2.2.2.1) := wc7 (r := r) hr (by omega)
  have hW : wbi K r.2.2.2.1 [76, 97, 115, 116, 45, 77, 111, 100, 105, 102, 105, 101, 100] = some (whenO r.2.2.2.1 nMod) := wct (n := nMod) hr (by decide) hK
  have hX0 : ∀ t : Tg, t.2.1.length ≤ 1000000 → wbH K (t.1, (t.2.1, ())) = some (txtT t) := fun t h => wdR K h
  have hX := hX0 (tagO r.2.2.2.1).1 (by have := weR hr; omega)
  have hG : wbe K r.2.2.2.1 [76, 97, 115, 116, 45, 77, 111, 100, 105, 102, 105, 101, 100] = some (getOf r.2.2.2.1 nMod) := wdb (name := nMod) hr (by decide) (by omega)
  have hlen : (dropOf q.2.2.2.1 [nINM, nIMS]).length ≤ 1000000 := Nat.le_trans (wc3 _ _) (Nat.le_of_lt hq.1)
  have m1 : ((dropOf q.2.2.2.1 [nINM, nIMS]).length + 1) * 32 ≤ maxRoom := by simp only [maxRoom]; omega
  have m2 : ∀ x : Fld, ((dropOf q.2.2.2.1 [nINM, nIMS] ++ [x]).length + 1) * 32 ≤ maxRoom := fun x => room2 _ x hlen
  simp only [nINM, nIMS] at hD m1 m2
  unfold askO askF
  cases c1 : (tagO r.2.2.2.1).2.1 with
  | false =>
    cases c2 : (whenO r.2.2.2.1 nMod).2.1 with
    | false => simp only [wbE, hD, hT, hW, c1, c2, za', zb', zc', zd', ze', zf', zg', zh', zi', zj', zk', zl', zm', zn', zo', zp', zq', zr', zs', zt', eq_self, if_true, Bool.false_eq_true, if_false, List.append_nil, nINM, nIMS]
    | true =>
      simp only [wbE, hD, hT, hW, c1, c2, za', zb', zc', zd', ze', zf', zg', zh', zi', zj', zk', zl', zm', zn', zo', zp', zq', zr', zs', zt', eq_self, if_true, Bool.false_eq_true, if_false, hG, m1, List.append_nil, nINM, nIMS]
  | true =>
    cases c2 : (whenO r.2.2.2.1 nMod).2.1 with
    | false =>
      simp only [wbE, hD, hT, hW, c1, c2, za', zb', zc', zd', ze', zf', zg', zh', zi', zj', zk', zl', zm', zn', zo', zp', zq', zr', zs', zt', eq_self, if_true, Bool.false_eq_true, if_false, hX, m1, List.append_nil, nINM, nIMS]
    | true =>
      simp only [wbE, hD, hT, hW, c1, c2, za', zb', zc', zd', ze', zf', zg', zh', zi', zj', zk', zl', zm', zn', zo', zp', zq', zr', zs', zt', eq_self, if_true, hX, hG, m1, m2, nINM, nIMS]
/-! Merging. -/
theorem wel {l : List Fld} {m : Nat} (h : few l m) (hm : m ≤ 1000) : sized l := ⟨by have := h.1; omega, fun f hf => by obtain ⟨h1, h2⟩ := h.2 f hf; exact ⟨by omega, by omega⟩⟩
/-! Selecting. -/
/-! Being satisfied. -/
noncomputable def satO (q : Req) (r : Rep) : Bool :=
  if ((q.1 == [71, 69, 84]) || (q.1 == [72, 69, 65, 68])) && decide (r.1 = 200) then
    (if (getOf q.2.2.2.1 nINM).2.1 then (lisT (getOf q.2.2.2.1 nINM).1).2.1 || ((tagO r.2.2.2.1).2.1 && matT (getOf q.2.2.2.1 nINM).1 (tagO r.2.2.2.1).1)
     else (whenO q.2.2.2.1 nIMS).2.1 && ((whenO r.2.2.2.1 nMod).2.1 && decide ((whenO r.2.2.2.1 nMod).1 ≤ (whenO q.2.2.2.1 nIMS).1)))
  else false
theorem wf9 {l : List Fld} {n : List UInt8} {m : Nat} (h : few l m) (hm : m ≤ 180) : (getOf l n).1.length < 100000 := by
  obtain ⟨h1, h2⟩ := wgh h n
  have h3 := wdN (allOf l n) sep2 500 h2
  have e : sep2.length = 2 := rfl
  rw [e] at h3
  have h4 : (allOf l n).length * (500 + 2) ≤ 180 * 502 := Nat.mul_le_mul (by omega) (by omega)
  show (Lib.join (allOf l n) sep2).length < 100000
  omega
theorem wcW {K : Nat} {q : Req} {r : Rep} (zq : sized q.2.2.2.1) (hv : (getOf q.2.2.2.1 nINM).1.length < 100000) (hr : sized r.2.2.2.1) (hK : 1000000 + 100 ≤ K) : wZ_ K q r = some (satO q r) := by
  have e1 : wbC K q.2.2.2.1 [73, 102, 45, 78, 111, 110, 101, 45, 77, 97, 116, 99, 104] = some (getOf q.2.2.2.1 nINM) := wcX (name := nINM) zq (by decide) (by omega)
  have e2 : wb2 K q.2.2.2.1 [73, 102, 45, 77, 111, 100, 105, 102, 105, 101, 100, 45, 83, 105, 110, 99, 101] = some (whenO q.2.2.2.1 nIMS) := wc9 (n := nIMS) zq (by decide) hK
  have e3 : wbg K (((r.1, (r.2.1, (r.2.2.1, (r.2.2.2.1, (r.2.2.2.2.1, ()))))), ())) = some (whenO r.2.2.2.1 nMod) := wcS (r := r) hr hK
  have t1 : wbc K (((r.1, (r.2.1, (r.2.2.1, (r.2.2.2.1, (r.2.2.2.2.1, ()))))), ())) = some (tagO r.2.2.2.1) := wdc (r := r) hr hK
  have hL := wdf (K := K) hv (by omega)
  have hM : wba K (getOf q.2.2.2.1 nINM).1 ((tagO r.2.2.2.1).1.1, ((tagO r.2.2.2.1).1.2.1, ())) = some (matT (getOf q.2.2.2.1 nINM).1 (tagO r.2.2.2.1).1) := wdL (tagO r.2.2.2.1).1 hv (by omega)
  have hk : wbk K (((r.1, (r.2.1, (r.2.2.1, (r.2.2.2.1, (r.2.2.2.2.1, ()))))), ())) (getOf q.2.2.2.1 nINM).1 = some ((lisT (getOf q.2.2.2.1 nINM).1).2.1 || ((tagO r.2.2.2.1).2.1 && matT (getOf q.2.2.2.1 nINM).1 (tagO r.2.2.2.1).1)) := by
    simp only [wbk, hL, t1, za', zb', zc', zd', ze', zf', zg', zh', zi', zj', zk', zl', zm', zn', zo', zp', zq', zr', zs', zt']
    cases (lisT (getOf q.2.2.2.1 nINM).1).2.1 <;> cases (tagO r.2.2.2.1).2.1 <;> simp only [za', zb', zc', zd', ze', zf', zg', zh', zi', zj', zk', zl', zm', zn', zo', zp', zq', zr', zs', zt', hM] <;> rfl
  have fin : (bif (getOf q.2.2.2.1 nINM).2.1 then some ((lisT (getOf q.2.2.2.1 nINM).1).2.1 || ((tagO r.2.2.2.1).2.1 && matT (getOf q.2.2.2.1 nINM).1 (tagO r.2.2.2.1).1)) else (bif (whenO q.2.2.2.1 nIMS).2.1 then (bif (whenO r.2.2.2.1 nMod).2.1 then some (decide ((whenO r.2.2.2.1 nMod).1 ≤ (whenO q.2.2.2.1 nIMS).1)) else some false) else some false))
      = some (if (getOf q.2.2.2.1 nINM).2.1 then (lisT (getOf q.2.2.2.1 nINM).1).2.1 || ((tagO r.2.2.2.1).2.1 && matT (getOf q.2.2.2.1 nINM).1 (tagO r.2.2.2.1).1) else (whenO q.2.2.2.1 nIMS).2.1 && ((whenO r.2.2.2.1 nMod).2.1 && decide ((whenO r.2.2.2.1 nMod).1 ≤ (whenO q.2.2.2.1 nIMS).1))) := by
    cases (getOf q.2.2.2.1 nINM).2.1 <;> cases (whenO q.2.2.2.1 nIMS).2.1 <;> cases (whenO r.2.2.2.1 nMod).2.1 <;> rfl
  unfold satO
  cases c3 : decide (r.1 = 200) with
  | true =>
    cases c1 : (q.1 == ([71, 69, 84] : List UInt8)) with
    | true =>
      simp only [wZ_, c1, c3, za', zb', zc', zd', ze', zf', zg', zh', zi', zj', zk', zl', zm', zn', zo', zp', zq', zr', zs', zt', e1, hk, e2, e3, Bool.true_or, eq_self, if_true]
      exact fin
    | false =>
      cases c2 : (q.1 == ([72, 69, 65, 68] : List UInt8)) with
      | true =>
        simp only [wZ_, c1, c2, c3, za', zb', zc', zd', ze', zf', zg', zh', zi', zj', zk', zl', zm', zn', zo', zp', zq', zr', zs', zt', e1, hk, e2, e3, Bool.or_true, eq_self, if_true]
        exact fin
      | false => simp only [wZ_, c1, c2, c3, za', zb', zc', zd', ze', zf', zg', zh', zi', zj', zk', zl', zm', zn', zo', zp', zq', zr', zs', zt', Bool.or_false, Bool.false_eq_true, if_false]
  | false =>
    cases c1 : (q.1 == ([71, 69, 84] : List UInt8)) with
    | true => simp only [wZ_, c1, c3, za', zb', zc', zd', ze', zf', zg', zh', zi', zj', zk', zl', zm', zn', zo', zp', zq', zr', zs', zt', Bool.true_or, Bool.false_eq_true, if_false]
    | false =>
      cases c2 : (q.1 == ([72, 69, 65, 68] : List UInt8)) with
      | true => simp only [wZ_, c1, c2, c3, za', zb', zc', zd', ze', zf', zg', zh', zi', zj', zk', zl', zm', zn', zo', zp', zq', zr', zs', zt', Bool.or_true, Bool.false_eq_true, if_false]
      | false => simp only [wZ_, c1, c2, c3, za', zb', zc', zd', ze', zf', zg', zh', zi', zj', zk', zl', zm', zn', zo', zp', zq', zr', zs', zt', Bool.or_false, Bool.false_eq_true, if_false]
theorem wcZ {K : Nat} {q : Req} {r : Rep} (zq : sized q.2.2.2.1) (hv : (getOf q.2.2.2.1 nINM).1.length < 100000) (hr : sized r.2.2.2.1) (hK : 10000000 + 100 ≤ K) : wT_ K q r = some (satO q r) := by
  have e1 : wbe K q.2.2.2.1 [73, 102, 45, 78, 111, 110, 101, 45, 77, 97, 116, 99, 104] = some (getOf q.2.2.2.1 nINM) := wdb (name := nINM) zq (by decide) (by omega)
  have e2 : wbi K q.2.2.2.1 [73, 102, 45, 77, 111, 100, 105, 102, 105, 101, 100, 45, 83, 105, 110, 99, 101] = some (whenO q.2.2.2.1 nIMS) := wct (n := nIMS) zq (by decide) hK
  have e3 : wbi K r.2.2.2.1 [76, 97, 115, 116, 45, 77, 111, 100, 105, 102, 105, 101, 100] = some (whenO r.2.2.2.1 nMod) := wct (n := nMod) hr (by decide) hK
  have t1 : wbl K (r.1, (r.2.1, (r.2.2.1, (r.2.2.2.1, (r.2.2.2.2.1, ()))))) = some (tagO r.2.2.2.1) := wc7 (r := r) hr (by omega)
  have hL := wc1 (K := K) hv (by omega)
  have hM : wu_ K (getOf q.2.2.2.1 nINM).1 ((tagO r.2.2.2.1).1.1, ((tagO r.2.2.2.1).1.2.1, ())) = some (matT (getOf q.2.2.2.1 nINM).1 (tagO r.2.2.2.1).1) := wdw (tagO r.2.2.2.1).1 hv (by omega)
  have g1 : (getOf q.2.2.2.1 nINM).2.1 = true → satO q r = (((q.1 == [71, 69, 84]) || (q.1 == [72, 69, 65, 68])) && decide (r.1 = 200) && ((lisT (getOf q.2.2.2.1 nINM).1).2.1 || ((tagO r.2.2.2.1).2.1 && matT (getOf q.2.2.2.1 nINM).1 (tagO r.2.2.2.1).1))) := fun h => by
    unfold satO; rw [h]
    cases (((q.1 == [71, 69, 84]) || (q.1 == [72, 69, 65, 68])) && decide (r.1 = 200)) <;> rfl
  have g2 : (getOf q.2.2.2.1 nINM).2.1 = false → satO q r = (((q.1 == [71, 69, 84]) || (q.1 == [72, 69, 65, 68])) && decide (r.1 = 200) && ((whenO q.2.2.2.1 nIMS).2.1 && ((whenO r.2.2.2.1 nMod).2.1 && decide ((whenO r.2.2.2.1 nMod).1 ≤ (whenO q.2.2.2.1 nIMS).1)))) := fun h => by
    unfold satO; rw [h]
    cases (((q.1 == [71, 69, 84]) || (q.1 == [72, 69, 65, 68])) && decide (r.1 = 200)) <;> rfl
  cases c4 : (getOf q.2.2.2.1 nINM).2.1 with
  | true =>
    rw [g1 c4]
    cases c3 : decide (r.1 = 200)
    case true =>
      cases c1 : (q.1 == ([71, 69, 84] : List UInt8)) <;> cases c2 : (q.1 == ([72, 69, 65, 68] : List UInt8)) <;> cases c5 : (lisT (getOf q.2.2.2.1 nINM).1).2.1 <;> cases c6 : (tagO r.2.2.2.1).2.1 <;>
        simp only [wT_, c1, c2, c3, c4, c5, c6, za', zb', zc', zd', ze', zf', zg', zh', zi', zj', zk', zl', zm', zn', zo', zp', zq', zr', zs', zt', e1, hL, t1, hM, Bool.true_or, Bool.or_true, Bool.false_or]
    case false => cases c1 : (q.1 == ([71, 69, 84] : List UInt8)) <;> cases c2 : (q.1 == ([72, 69, 65, 68] : List UInt8)) <;> simp only [wT_, c1, c2, c3, za', zb', zc', zd', ze', zf', zg', zh', zi', zj', zk', zl', zm', zn', zo', zp', zq', zr', zs', zt', Bool.true_or, Bool.or_true, Bool.false_or]
  | false =>
    rw [g2 c4]
    cases c3 : decide (r.1 = 200)
    case true =>
      cases c1 : (q.1 == ([71, 69, 84] : List UInt8)) <;> cases c2 : (q.1 == ([72, 69, 65, 68] : List UInt8)) <;> cases c5 : (whenO q.2.2.2.1 nIMS).2.1 <;> cases c6 : (whenO r.2.2.2.1 nMod).2.1 <;>
        simp only [wT_, c1, c2, c3, c4, c5, c6, za', zb', zc', zd', ze', zf', zg', zh', zi', zj', zk', zl', zm', zn', zo', zp', zq', zr', zs', zt', e1, e2, e3, Bool.true_or, Bool.or_true, Bool.false_or]
    case false => cases c1 : (q.1 == ([71, 69, 84] : List UInt8)) <;> cases c2 : (q.1 == ([72, 69, 65, 68] : List UInt8)) <;> simp only [wT_, c1, c2, c3, za', zb', zc', zd', ze', zf', zg', zh', zi', zj', zk', zl', zm', zn', zo', zp', zq', zr', zs', zt', Bool.true_or, Bool.or_true, Bool.false_or]
end Go.Proofs.X
