/-
  A part of the proof. No condition.
-/
import Derived.Test.YtkfffmpnmoiikaaGreatDoorUPt
/- Chapter 18 (reuse): the document's rules. No condition but on sizes. -/
set_option linter.unusedSimpArgs false
set_option linter.unusedVariables false
namespace Go.Proofs.X
open Go Go.Dp
theorem negI (x : Int) : decide (x < 0) = !decide (x ≥ 0) := by
  by_cases h : x ≥ 0
  · have h2 : ¬ x < 0 := by omega
    simp only [h, h2, decide_true, decide_false, Bool.not_true]
  · have h2 : x < 0 := by omega
    simp only [h, h2, decide_true, decide_false, Bool.not_false]
/-! What is to be done. -/
noncomputable def useO (q : Req) (s : Sto) (now : Int) : Bool :=
  freshO s now && (((!(askedC q.2.2.2.1).2.1) && (!(parseC s.1.2.2.2.1).2.1)) && ((decide ((askedC q.2.2.2.1).2.2.2.2.2.2.1 < 0) || decide (ageO s now ≤ (askedC q.2.2.2.1).2.2.2.2.2.2.1)) && (decide ((askedC q.2.2.2.1).2.2.2.2.2.2.2.2.1 < 0) || decide (leftO s now ≥ (askedC q.2.2.2.1).2.2.2.2.2.2.2.2.1))))
noncomputable def verO (q : Req) (s : Sto) (now : Int) : Int := bif useO q s now then 1 else 2
theorem wh3 {K : Nat} {s : Sto} (now : Int) (h : sized s.1.2.2.2.1) (hK : 1000000 + 100 ≤ K) : wbX K s now = some (freshO s now) := by
  have hF : wcv K (((s.1.1, (s.1.2.1, (s.1.2.2.1, (s.1.2.2.2.1, (s.1.2.2.2.2.1, ()))))), (s.2.1, (s.2.2.1, ())))) now = some (freshO s now) := we5 (s := s) h hK
  simp only [wbX, hF, za', zb', zc', zd', ze', zf', zg', zh', zi', zj', zk', zl', zm', zn', zo', zp', zq', zr', zs', zt']
theorem wh0 {K : Nat} {s : Sto} (a : Ctl) (h : sized s.1.2.2.2.1) (hK : 1000000 + 100 ≤ K) : wbM K a s = some ((!a.2.1) && (!(parseC s.1.2.2.2.1).2.1)) := by
  simp only [wbM, wdg h hK, za', zb', zc', zd', ze', zf', zg', zh', zi', zj', zk', zl', zm', zn', zo', zp', zq', zr', zs', zt']
  cases a.2.1 <;> rfl
theorem whV {K : Nat} {s : Sto} (a : Ctl) (now : Int) (h : sized s.1.2.2.2.1) (hK : 1000000 + 100 ≤ K) : wbN K a s now = some (decide (a.2.2.2.2.2.2.1 < 0) || decide (ageO s now ≤ a.2.2.2.2.2.2.1)) := by
  have hF : wcL K (((s.1.1, (s.1.2.1, (s.1.2.2.1, (s.1.2.2.2.1, (s.1.2.2.2.2.1, ()))))), (s.2.1, (s.2.2.1, ())))) now = some (ageO s now) := wdT (s := s) h hK
  simp only [wbN, hF, za', zb', zc', zd', ze', zf', zg', zh', zi', zj', zk', zl', zm', zn', zo', zp', zq', zr', zs', zt']
  cases decide (a.2.2.2.2.2.2.1 < 0) <;> rfl
theorem wh5 {K : Nat} {s : Sto} (a : Ctl) (now : Int) (h : sized s.1.2.2.2.1) (hK : 1000000 + 100 ≤ K) : wbK K a s now = some (decide (a.2.2.2.2.2.2.2.2.1 < 0) || decide (leftO s now ≥ a.2.2.2.2.2.2.2.2.1)) := by
  have hF : wcN K (((s.1.1, (s.1.2.1, (s.1.2.2.1, (s.1.2.2.2.1, (s.1.2.2.2.2.1, ()))))), (s.2.1, (s.2.2.1, ())))) now = some (leftO s now) := wfp (s := s) h hK
  simp only [wbK, hF, za', zb', zc', zd', ze', zf', zg', zh', zi', zj', zk', zl', zm', zn', zo', zp', zq', zr', zs', zt']
  cases decide (a.2.2.2.2.2.2.2.2.1 < 0) <;> rfl
theorem whB : ∀ b1 b2 b3 b4 : Bool, (bif (!b1) then some false else (bif (!b2) then some false else (bif (!b3) then some false else (bif (!b4) then some false else some true)))) = some (b1 && (b2 && (b3 && b4))) := by decide
theorem weh {K : Nat} {q : Req} {s : Sto} (now : Int) (hq : sized q.2.2.2.1) (hs : sized s.1.2.2.2.1) (hK : 1000000 + 100 ≤ K) : wbt K q s now = some (verO q s now) := by
  have e2 : wbM K (ctlEta (askedC q.2.2.2.1)) s = some ((!(askedC q.2.2.2.1).2.1) && (!(parseC s.1.2.2.2.1).2.1)) := wh0 _ hs hK
  have e3 : wbN K (ctlEta (askedC q.2.2.2.1)) s now = some (decide ((askedC q.2.2.2.1).2.2.2.2.2.2.1 < 0) || decide (ageO s now ≤ (askedC q.2.2.2.1).2.2.2.2.2.2.1)) := whV _ now hs hK
  have e4 : wbK K (ctlEta (askedC q.2.2.2.1)) s now = some (decide ((askedC q.2.2.2.1).2.2.2.2.2.2.2.2.1 < 0) || decide (leftO s now ≥ (askedC q.2.2.2.1).2.2.2.2.2.2.2.2.1)) := wh5 _ now hs hK
  unfold ctlEta at e2 e3 e4
  simp only [wbt, wej hq hK, za', zb', zc', zd', ze', zf', zg', zh', zi', zj', zk', zl', zm', zn', zo', zp', zq', zr', zs', zt', wf_, wh3 now hs hK, e2, e3, e4]
  rw [whB]
  change (bif useO q s now then some 1 else some 2) = some (bif useO q s now then 1 else 2)
  cases useO q s now <;> rfl
theorem wfI (l : List Fld) : (parseC l).2.2.2.2.2.2.2.1 ≤ 2147483648 ∧ (parseC l).2.2.2.2.2.2.1 ≤ 2147483648 := by
  have H : ∀ (es : List El) (nm : List UInt8) (n : Int), n ≤ 2147483648 → leastE es nm n ≤ 2147483648 := by
    intro es nm
    induction es with
    | nil => intro n h; exact h
    | cons p es ih =>
      intro n h
      have h1 := wgC p.2 0 (by omega) (by omega)
      refine ih _ ?_
      show (if (p.1 == nm) = true then leastI n (secV p.2 0) else n) ≤ _
      split
      · unfold leastI; (repeat' split) <;> omega
      · exact h
  rw [parseC, wey]
  exact ⟨H _ _ _ (by omega), H _ _ _ (by omega)⟩
theorem wfN (s : Sto) : 0 ≤ lifeO s ∧ lifeO s ≤ 2147483648 := by
  have h1 := wfI s.1.2.2.2.1
  have h2 := wdY (whenO s.1.2.2.2.1 nExp).1 (dateO s)
  have h3 := wdY (dateO s) (whenO s.1.2.2.2.1 nMod).1
  unfold lifeO
  (repeat' split) <;> omega
theorem wgn (s : Sto) (now : Int) : 0 ≤ ageO s now ∧ ageO s now ≤ 2147483648 := by
  unfold ageO addS; exact wc7 _
theorem wgv (s : Sto) (now : Int) : decide (leftO s now = 0) = !freshO s now := by
  have h1 := wfN s
  have h2 := wgn s now
  unfold leftO freshO
  by_cases c : lifeO s > ageO s now
  · have : ¬ lessS (lifeO s) (ageO s now) = 0 := by unfold lessS hold; omega
    simp only [c, this, za', zb', zc', zd', ze', zf', zg', zh', zi', zj', zk', zl', zm', zn', zo', zp', zq', zr', zs', zt']
  · have : lessS (lifeO s) (ageO s now) = 0 := by unfold lessS hold; omega
    simp only [c, this, za', zb', zc', zd', ze', zf', zg', zh', zi', zj', zk', zl', zm', zn', zo', zp', zq', zr', zs', zt']
theorem gtI (a b : Int) : decide (a > b) = !decide (a ≤ b) := by
  by_cases h : a ≤ b
  · have h2 : ¬ a > b := by omega
    simp only [h, h2, decide_true, decide_false, Bool.not_true]
  · have h2 : a > b := by omega
    simp only [h, h2, decide_true, decide_false, Bool.not_false]
theorem ltI (a b : Int) : decide (a < b) = !decide (a ≥ b) := by
  by_cases h : a ≥ b
  · have h2 : ¬ a < b := by omega
    simp only [h, h2, decide_true, decide_false, Bool.not_true]
  · have h2 : a < b := by omega
    simp only [h, h2, decide_true, decide_false, Bool.not_false]
theorem whF : ∀ f n1 n2 a x m y : Bool,
    (bif (!(!f)) then (bif (!n1) then (bif (!n2) then (bif a then (bif (!(!x)) then (bif m then (bif (!y) then some 2 else some 1) else some (1 : Int)) else some 2) else (bif m then (bif (!y) then some 2 else some 1) else some 1)) else some 2) else some 2) else some 2) = some (bif (f && ((!n1 && !n2) && ((!a || x) && (!m || y)))) then 1 else 2) := by
  intro f n1 n2 a x m y
  cases f <;> cases n1 <;> cases n2 <;> cases a <;> cases x <;> cases m <;> cases y <;> rfl
theorem wei {K : Nat} {q : Req} {s : Sto} (now : Int) (hq : sized q.2.2.2.1) (hs : sized s.1.2.2.2.1) (hK : 1000000000000 + 100 ≤ K) : wbn K q s now = some (verO q s now) := by
  have hA := weO (K := K) hq (by omega)
  have hC := wds (K := K) hs (by omega)
  have hG : wbs K (((s.1.1, (s.1.2.1, (s.1.2.2.1, (s.1.2.2.2.1, (s.1.2.2.2.2.1, ()))))), (s.2.1, (s.2.2.1, ())))) now = some (ageO s now) := wee (s := s) hs (by omega)
  have hL : wb0 K (((s.1.1, (s.1.2.1, (s.1.2.2.1, (s.1.2.2.2.1, (s.1.2.2.2.2.1, ()))))), (s.2.1, (s.2.2.1, ())))) now = some (leftO s now) := we6 (s := s) hs hK
  simp only [wbn, hA, hC, hG, hL, za', zb', zc', zd', ze', zf', zg', zh', zi', zj', zk', zl', zm', zn', zo', zp', zq', zr', zs', zt', wgv, gtI, ltI (leftO s now)]
  rw [whF]
  unfold verO useO
  rw [negI, negI]
end Go.Proofs.X
