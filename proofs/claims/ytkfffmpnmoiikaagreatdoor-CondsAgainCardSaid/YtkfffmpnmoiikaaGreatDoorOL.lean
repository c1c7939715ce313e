/-
  A part of the proof. No condition.
-/
import Derived.Test.YtkfffmpnmoiikaaGreatDoorOPs
/- Chapter 19: the laws CondsTells, CondsMerges, CondsAgain and CondsTold, as plain Lean. -/
set_option linter.unusedSimpArgs false
set_option linter.unusedVariables false
namespace Go.Proofs.X
open Go Go.Dp
abbrev KK : Nat := 2000000000000
abbrev repEta (r : Rep) : Rep := (r.1, (r.2.1, (r.2.2.1, (r.2.2.2.1, (r.2.2.2.2.1, ())))))
abbrev stoEta (s : Sto) : Sto := (((s.1.1, (s.1.2.1, (s.1.2.2.1, (s.1.2.2.2.1, (s.1.2.2.2.2.1, ()))))), (s.2.1, (s.2.2.1, ()))))
theorem wdF (s n : List Fld) : (mergeF s n).length ≤ s.length + n.length := by
  have h1 := wcl s (namesM (comeO n))
  have h2 := wcW n
  unfold mergeF
  rw [List.length_append]; omega
theorem wd0 {s n : List Fld} (hs : few s 70) (hn : few n 70) : few (mergeF s n) 140 := by
  refine ⟨by have := wdF s n; have := hs.1; have := hn.1; omega, fun f hf => ?_⟩
  unfold mergeF at hf
  rcases List.mem_append.1 hf with hf | hf
  · exact hs.2 f (wco hf)
  · exact hn.2 f (wcw hf)
theorem wew (name : List UInt8) : dropOf [(name, [], ())] ageDate = if anySame name ageDate then [] else [(name, [], ())] := by
  simp only [dropOf, List.filter_cons, List.filter_nil]
  cases anySame name ageDate <;> rfl
theorem wcR (a0 : Sto) (a1 : Rep) (a2 : Int) (a3 : List UInt8) : ∃ k, wN_ k a0 a1 a2 a3 = some true := by
  refine ⟨KK, ?_⟩
  have hs := wer (K := KK) (by decide)
  obtain ⟨b, h1, h2⟩ := wdi KK a0.1 (by decide)
  have h1 : wv_ KK (repEta a0.1) 500 = some b := h1
  obtain ⟨c, h3, h4⟩ := wdi KK a1 (by decide)
  have h3 : wv_ KK (repEta a1) 500 = some c := h3
  obtain ⟨d, h5, h6⟩ := wde KK a0.2.2.1 30 500 (by decide) (by decide)
  have h5 : wq_ KK a0.2.2.1 30 500 = some d := h5
  simp only [repEta] at h1 h3
  cases b with
  | false => simp only [wN_, h1, hs, za', zb', zc', zd', ze', zf', zg', zh', zi', zj', zk', zl', zm', zn', zo', zp', zq', zr', zs', zt']
  | true =>
  cases c with
  | false => simp only [wN_, h1, h3, hs, za', zb', zc', zd', ze', zf', zg', zh', zi', zj', zk', zl', zm', zn', zo', zp', zq', zr', zs', zt']
  | true =>
  cases d with
  | false => simp only [wN_, h1, h3, h5, hs, za', zb', zc', zd', ze', zf', zg', zh', zi', zj', zk', zl', zm', zn', zo', zp', zq', zr', zs', zt']
  | true =>
  by_cases cl : (a3.length : Int) > 500
  · simp only [wN_, h1, h3, h5, hs, cl, za', zb', zc', zd', ze', zf', zg', zh', zi', zj', zk', zl', zm', zn', zo', zp', zq', zr', zs', zt']
  have zs := wcO (h2 rfl) (by decide)
  have zn := wcO (h4 rfl) (by decide)
  have hp := (h6 rfl).1
  have fm := wd0 (h2 rfl) (h4 rfl)
  have zm := wcO fm (by decide)
  have hm := fm.1
  have e1 : wJ_ KK (stoEta a0) (repEta a1) a2 = some (mergeO a0 a1 a2) := wcq (s := a0) (n := a1) a2 zs (h4 rfl) (by decide) (by omega) (by decide)
  have e2 : wJ_ KK (stoEta (mergeO a0 a1 a2)) (repEta a1) a2 = some (mergeO a0 a1 a2) := by
    have : wJ_ KK (stoEta (mergeO a0 a1 a2)) (repEta a1) a2 = some (mergeO (mergeO a0 a1 a2) a1 a2) := wcq (s := mergeO a0 a1 a2) (n := a1) a2 zm (h4 rfl) (by decide) (by show a0.2.2.1.length ≤ 1000000; omega) (by decide)
    rw [this]
    show some (mergeO (mergeO a0 a1 a2) a1 a2) = some (mergeO a0 a1 a2)
    unfold mergeO
    rw [wdq]
  have g1 : ∀ r : Rep, r.2.2.2.1.length < 1000000 → wM_ KK (repEta r) (repEta r) = some true := fun r h => wcX r h (by decide)
  have k1 := g1 (mergeO a0 a1 a2).1 (by show (mergeF a0.1.2.2.2.1 a1.2.2.2.1).length < 1000000; omega)
  have k2 := wcJ (K := KK) a0.2.2.1 (by omega) (by decide)
  have k3 : wU_ KK [(a3, ([], ()))] [[65, 103, 101], [68, 97, 116, 101]] = some (dropOf [(a3, [], ())] ageDate) :=
    wch (l := [(a3, ([], ()))]) (names := ageDate) (by simp) (fun f hf => by
      rw [List.mem_singleton.1 hf]; show a3.length < 1000000; omega) (by decide) (fun n hn => by
      have : ∀ n ∈ ageDate, n.length < 100 := by decide
      have := this n hn
      show n.length < 2000000000000 ∧ n.length < 9223372036854775808
      omega) (by decide)
  have k4 := wcm (K := KK) (name := a3) zs (by omega) (by decide)
  have k5 := wcm (K := KK) (name := a3) zm (by omega) (by decide)
  have k6 := wcm (K := KK) (name := a3) zn (by omega) (by decide)
  rw [wew] at k3
  simp only [repEta, stoEta, mergeO] at e1 e2 k1
  cases c7 : anySame a3 ageDate with
  | true =>
    rw [c7, if_pos rfl] at k3
    simp only [wN_, h1, h3, h5, hs, cl, za', zb', zc', zd', ze', zf', zg', zh', zi', zj', zk', zl', zm', zn', zo', zp', zq', zr', zs', zt', e1, e2, k1, k2, k3, beq_self_eq_true, eq_self, List.length_nil, Int.natCast_zero]
  | false =>
    rw [c7, if_neg (by decide)] at k3
    have k7 : ¬ (([(a3, (([] : List UInt8), ()))] : List Fld).length : Int) = 0 := by simp
    have hg : ∀ l : List Fld, (getOf l a3).2.1 = decide ((allOf l a3).length > 0) := fun _ => rfl
    by_cases c8 : (allOf a1.2.2.2.1 a3).length > 0
    · simp only [wN_, h1, h3, h5, hs, cl, za', zb', zc', zd', ze', zf', zg', zh', zi', zj', zk', zl', zm', zn', zo', zp', zq', zr', zs', zt', e1, e2, k1, k2, k3, k4, k5, k6, k7, beq_self_eq_true, eq_self, hg, c8]
    · have hk := wdu (s := a0.1.2.2.2.1) (n := a1.2.2.2.1) c7 (List.eq_nil_of_length_eq_zero (by omega))
      have hj : ((getOf (mergeF a0.1.2.2.2.1 a1.2.2.2.1) a3).1 == (getOf a0.1.2.2.2.1 a3).1) = true := by
        unfold getOf
        rw [hk]
        exact beq_self_eq_true _
      simp only [wN_, h1, h3, h5, hs, cl, za', zb', zc', zd', ze', zf', zg', zh', zi', zj', zk', zl', zm', zn', zo', zp', zq', zr', zs', zt', e1, e2, k1, k2, k3, k4, k5, k6, k7, beq_self_eq_true, eq_self, hg, c8, hj]
end Go.Proofs.X
