/-
  A part of the proof. No condition.
-/
import Derived.Test.YtkfffmpnmoiikaaGreatDoorUPt
/- Chapter 18 (reuse): the document's rules. No condition but on sizes. -/
set_option linter.unusedSimpArgs false
set_option linter.unusedVariables false
namespace Go.Proofs.X
open Go Go.Dp
/-! What is to be done. -/
noncomputable def useO (q : Req) (s : Sto) (now : Int) : Bool :=
  freshO s now && (((!(askedC q.2.2.2.1).2.1) && (!(parseC s.1.2.2.2.1).2.1)) && ((decide ((askedC q.2.2.2.1).2.2.2.2.2.2.1 < 0) || decide (ageO s now ≤ (askedC q.2.2.2.1).2.2.2.2.2.2.1)) && (decide ((askedC q.2.2.2.1).2.2.2.2.2.2.2.2.1 < 0) || decide (leftO s now ≥ (askedC q.2.2.2.1).2.2.2.2.2.2.2.2.1))))
noncomputable def verO (q : Req) (s : Sto) (now : Int) : Int := bif useO q s now then 1 else 2
theorem wgH {K : Nat} {s : Sto} (now : Int) (h : sized s.1.2.2.2.1) (hK : 1000000 + 100 ≤ K) : wbP K s now = some (freshO s now) := by
  have hF : wct K (((s.1.1, (s.1.2.1, (s.1.2.2.1, (s.1.2.2.2.1, (s.1.2.2.2.2.1, ()))))), (s.2.1, (s.2.2.1, ())))) now = some (freshO s now) := wdH (s := s) h hK
  simp only [wbP, hF, za', zb', zc', zd', ze', zf', zg', zh', zi', zj', zk', zl', zm', zn', zo', zp', zq', zr', zs', zt']
theorem wgO {K : Nat} {s : Sto} (a : Ctl) (h : sized s.1.2.2.2.1) (hK : 1000000 + 100 ≤ K) : wbH K a s = some ((!a.2.1) && (!(parseC s.1.2.2.2.1).2.1)) := by
  simp only [wbH, wc5 h hK, za', zb', zc', zd', ze', zf', zg', zh', zi', zj', zk', zl', zm', zn', zo', zp', zq', zr', zs', zt']
  cases a.2.1 <;> rfl
theorem wgP {K : Nat} {s : Sto} (a : Ctl) (now : Int) (h : sized s.1.2.2.2.1) (hK : 1000000 + 100 ≤ K) : wbF K a s now = some (decide (a.2.2.2.2.2.2.1 < 0) || decide (ageO s now ≤ a.2.2.2.2.2.2.1)) := by
  have hF : wcH K (((s.1.1, (s.1.2.1, (s.1.2.2.1, (s.1.2.2.2.1, (s.1.2.2.2.2.1, ()))))), (s.2.1, (s.2.2.1, ())))) now = some (ageO s now) := wdk (s := s) h hK
  simp only [wbF, hF, za', zb', zc', zd', ze', zf', zg', zh', zi', zj', zk', zl', zm', zn', zo', zp', zq', zr', zs', zt']
  cases decide (a.2.2.2.2.2.2.1 < 0) <;> rfl
theorem wgF {K : Nat} {s : Sto} (a : Ctl) (now : Int) (h : sized s.1.2.2.2.1) (hK : 1000000 + 100 ≤ K) : wbG K a s now = some (decide (a.2.2.2.2.2.2.2.2.1 < 0) || decide (leftO s now ≥ a.2.2.2.2.2.2.2.2.1)) := by
  have hF : wcM K (((s.1.1, (s.1.2.1, (s.1.2.2.1, (s.1.2.2.2.1, (s.1.2.2.2.2.1, ()))))), (s.2.1, (s.2.2.1, ())))) now = some (leftO s now) := wdT (s := s) h hK
  simp only [wbG, hF, za', zb', zc', zd', ze', zf', zg', zh', zi', zj', zk', zl', zm', zn', zo', zp', zq', zr', zs', zt']
  cases decide (a.2.2.2.2.2.2.2.2.1 < 0) <;> rfl
theorem wgs : ∀ b1 b2 b3 b4 : Bool, (bif (!b1) then some false else (bif (!b2) then some false else (bif (!b3) then some false else (bif (!b4) then some false else some true)))) = some (b1 && (b2 && (b3 && b4))) := by decide
theorem wdo {K : Nat} {q : Req} {s : Sto} (now : Int) (hq : sized q.2.2.2.1) (hs : sized s.1.2.2.2.1) (hK : 1000000 + 100 ≤ K) : wbl K q s now = some (verO q s now) := by
  have e2 : wbH K (ctlEta (askedC q.2.2.2.1)) s = some ((!(askedC q.2.2.2.1).2.1) && (!(parseC s.1.2.2.2.1).2.1)) := wgO _ hs hK
  have e3 : wbF K (ctlEta (askedC q.2.2.2.1)) s now = some (decide ((askedC q.2.2.2.1).2.2.2.2.2.2.1 < 0) || decide (ageO s now ≤ (askedC q.2.2.2.1).2.2.2.2.2.2.1)) := wgP _ now hs hK
  have e4 : wbG K (ctlEta (askedC q.2.2.2.1)) s now = some (decide ((askedC q.2.2.2.1).2.2.2.2.2.2.2.2.1 < 0) || decide (leftO s now ≥ (askedC q.2.2.2.1).2.2.2.2.2.2.2.2.1)) := wgF _ now hs hK
  unfold ctlEta at e2 e3 e4
  simp only [wbl, wdp hq hK, za', zb', zc', zd', ze', zf', zg', zh', zi', zj', zk', zl', zm', zn', zo', zp', zq', zr', zs', zt', wf_, wgH now hs hK, e2, e3, e4]
  rw [wgs]
  change (bif useO q s now then some 1 else some 2) = some (bif useO q s now then 1 else 2)
  cases useO q s now <;> rfl
theorem wez (l : List Fld) : (parseC l).2.2.2.2.2.2.2.1 ≤ 2147483648 ∧ (parseC l).2.2.2.2.2.2.1 ≤ 2147483648 := by
  have H : ∀ (es : List El) (nm : List UInt8) (n : Int), n ≤ 2147483648 → leastE es nm n ≤ 2147483648 := by
    intro es nm
    induction es with
    | nil => intro n h; exact h
    | cons p es ih =>
      intro n h
      have h1 := wfk p.2 0 (by omega) (by omega)
      refine ih _ ?_
      show (if (p.1 == nm) = true then leastI n (secV p.2 0) else n) ≤ _
      split
      · unfold leastI; (repeat' split) <;> omega
      · exact h
  rw [parseC, we2]
  exact ⟨H _ _ _ (by omega), H _ _ _ (by omega)⟩
theorem weZ (s : Sto) : 0 ≤ lifeO s ∧ lifeO s ≤ 2147483648 := by
  have h1 := wez s.1.2.2.2.1
  have h2 := wdN (whenO s.1.2.2.2.1 nExp).1 (dateO s)
  have h3 := wdN (dateO s) (whenO s.1.2.2.2.1 nMod).1
  unfold lifeO
  (repeat' split) <;> omega
theorem wfv {s : Sto} {now d : Int} (h0 : 0 ≤ s.2.1) (h1 : s.2.1 ≤ now) (h2 : 0 ≤ d) (h3 : now + d ≤ 253402300799) : ageO s (now + d) = min (ageO s now + d) 2147483648 ∧ 0 ≤ ageO s now ∧ ageO s now ≤ 2147483648 := by
  have h4 := wdN s.2.1 (dateO s)
  have h5 := wd6 s.1.2.2.2.1
  unfold ageO
  generalize max (apt s.2.1 (dateO s)) (toldO s.1.2.2.2.1) = m
  unfold addS hold apt clk
  omega
end Go.Proofs.X
