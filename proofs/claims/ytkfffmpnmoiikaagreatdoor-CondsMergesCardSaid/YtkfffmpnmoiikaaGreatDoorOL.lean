/-
  A part of the proof. No condition.
-/
import Derived.Test.YtkfffmpnmoiikaaGreatDoorOPs
/- Chapter 19: the laws CondsTells, CondsMerges, CondsAgain and CondsTold, as plain Lean. -/
set_option linter.unusedSimpArgs false
set_option linter.unusedVariables false
namespace Go.Proofs.X
open Go Go.Dp
abbrev KK : Nat := 2000000000000
abbrev repEta (r : Rep) : Rep := (r.1, (r.2.1, (r.2.2.1, (r.2.2.2.1, (r.2.2.2.2.1, ())))))
abbrev stoEta (s : Sto) : Sto := (((s.1.1, (s.1.2.1, (s.1.2.2.1, (s.1.2.2.2.1, (s.1.2.2.2.2.1, ()))))), (s.2.1, (s.2.2.1, ()))))
theorem wei (s n : List Fld) : (mergeF s n).length ≤ s.length + n.length := by
  have h1 := wch s (namesM (comeO n))
  have h2 := wcG n
  unfold mergeF
  rw [List.length_append]; omega
theorem weu {s n : List Fld} (hs : few s 70) (hn : few n 70) : few (mergeF s n) 140 := by
  refine ⟨by have := wei s n; have := hs.1; have := hn.1; omega, fun f hf => ?_⟩
  unfold mergeF at hf
  rcases List.mem_append.1 hf with hf | hf
  · exact hs.2 f (wcn hf)
  · exact hn.2 f (wdY hf)
theorem wcW (a0 : Sto) (a1 : Rep) (a2 : Int) : ∃ k, wS_ k a0 a1 a2 = some true := by
  refine ⟨KK, ?_⟩
  have hs := we4 (K := KK) (by decide)
  obtain ⟨b, h1, h2⟩ := wdW KK a0.1 (by decide)
  have h1 : wA_ KK (repEta a0.1) 500 = some b := h1
  obtain ⟨c, h3, h4⟩ := wdW KK a1 (by decide)
  have h3 : wA_ KK (repEta a1) 500 = some c := h3
  obtain ⟨d, h5, h6⟩ := wdO KK a0.2.2.1 30 500 (by decide) (by decide)
  have h5 : ww_ KK a0.2.2.1 30 500 = some d := h5
  simp only [repEta] at h1 h3
  cases b with
  | false => simp only [wS_, h1, hs, za', zb', zc', zd', ze', zf', zg', zh', zi', zj', zk', zl', zm', zn', zo', zp', zq', zr', zs', zt']
  | true =>
  cases c with
  | false => simp only [wS_, h1, h3, hs, za', zb', zc', zd', ze', zf', zg', zh', zi', zj', zk', zl', zm', zn', zo', zp', zq', zr', zs', zt']
  | true =>
  cases d with
  | false => simp only [wS_, h1, h3, h5, hs, za', zb', zc', zd', ze', zf', zg', zh', zi', zj', zk', zl', zm', zn', zo', zp', zq', zr', zs', zt']
  | true =>
    have zs := wdP (h2 rfl) (by decide)
    have zn := wdP (h4 rfl) (by decide)
    have hp := (h6 rfl).1
    have hm := (weu (h2 rfl) (h4 rfl)).1
    have e1 : wL_ KK (stoEta a0) (repEta a1) a2 = some (mergeO a0 a1 a2) := wde (s := a0) (n := a1) a2 zs (h4 rfl) (by decide) (by omega) (by decide)
    have e2 : wr_ KK (stoEta a0) (repEta a1) a2 = some (mergeO a0 a1 a2) := wdm (s := a0) (n := a1) a2 zs (h4 rfl) (by decide) (by decide)
    have e3 : wbn KK (repEta a0.1) (repEta a1) = some (selO a0.1.2.2.2.1 a1.2.2.2.1) := wcX (r := a0.1) (n := a1) zs zn (by decide)
    have e4 : wbb KK (repEta a0.1) (repEta a1) = some (selO a0.1.2.2.2.1 a1.2.2.2.1) := wcY (r := a0.1) (n := a1) zs zn (by decide)
    have g1 : ∀ r : Rep, r.2.2.2.1.length < 1000000 → wN_ KK (repEta r) (repEta r) = some true := fun r h => wdo r h (by decide)
    have k1 := g1 (mergeO a0 a1 a2).1 (by show (mergeF a0.1.2.2.2.1 a1.2.2.2.1).length < 1000000; omega)
    have k2 := wc9 (K := KK) (mergeO a0 a1 a2).2.2.1 (by show a0.2.2.1.length < 1000000; omega) (by decide)
    generalize mergeO a0 a1 a2 = M at e1 e2 k1 k2
    simp only [repEta, stoEta] at e1 e2 e3 e4 k1
    simp only [wS_, h1, h3, h5, hs, za', zb', zc', zd', ze', zf', zg', zh', zi', zj', zk', zl', zm', zn', zo', zp', zq', zr', zs', zt', e1, e2, e3, e4, k1, k2, beq_self_eq_true, eq_self]
end Go.Proofs.X
