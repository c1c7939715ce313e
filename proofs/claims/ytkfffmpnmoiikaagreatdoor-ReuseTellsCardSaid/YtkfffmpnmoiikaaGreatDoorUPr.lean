/-
  A part of the proof. No condition.
-/
import Derived.Test.YtkfffmpnmoiikaaGreatDoorUPq
/- Chapter 15 (vary): the reference's names and picks. No condition but on sizes. -/
set_option linter.unusedSimpArgs false
set_option linter.unusedVariables false
namespace Go.Proofs.X
open Go Go.Dp
theorem whg (s k : List UInt8) : ∀ l : List (List UInt8), k ∈ ins s l ↔ k = s ∨ k ∈ l := by
  intro l
  induction l with
  | nil => simp [ins]
  | cons x r ih =>
    by_cases c : x < s
    · rw [ins, if_pos c, List.mem_cons, ih, List.mem_cons]
      constructor
      · rintro (h | h | h)
        · exact .inr (.inl h)
        · exact .inl h
        · exact .inr (.inr h)
      · rintro (h | h | h)
        · exact .inr (.inl h)
        · exact .inl h
        · exact .inr (.inr h)
    · by_cases c2 : x = s
      · rw [ins, if_neg c, if_pos c2, List.mem_cons]
        constructor
        · intro h; exact .inr h
        · rintro (h | h)
          · exact .inl (h.trans c2.symm)
          · exact h
      · rw [ins, if_neg c, if_neg c2, List.mem_cons]
theorem wh3 (s : List UInt8) : ∀ l : List (List UInt8), l.Pairwise (· < ·) → (ins s l).Pairwise (· < ·) := by
  intro l
  induction l with
  | nil => intro _; simp [ins]
  | cons x r ih =>
    intro h
    have h' := List.pairwise_cons.1 h
    by_cases c : x < s
    · rw [ins, if_pos c, List.pairwise_cons]
      refine ⟨fun y hy => ?_, ih h'.2⟩
      rcases (whg s y r).1 hy with rfl | hy
      · exact c
      · exact h'.1 y hy
    · by_cases c2 : x = s
      · rw [ins, if_neg c, if_pos c2]; exact h
      · rw [ins, if_neg c, if_neg c2, List.pairwise_cons]
        have hsx : s < x := by
          have h1 : s ≤ x := List.not_lt.1 c
          rcases List.le_iff_lt_or_eq.1 h1 with h2 | h2
          · exact h2
          · exact absurd h2.symm c2
        refine ⟨fun y hy => ?_, h⟩
        rcases List.mem_cons.1 hy with rfl | hy
        · exact hsx
        · exact List.lt_trans hsx (h'.1 y hy)
theorem wiF (s : List UInt8) (P : List (List UInt8)) : ins s (ord P) = ord (P ++ [s]) := by
  refine wgs _ _ (wh3 s _ (wgE P)) (wgE _) fun k => ?_
  rw [whg, wf9, wf9, List.mem_append, List.mem_singleton]
  exact or_comm
theorem wid : ord [] = [] := by simp [ord, dd, srt]
theorem wiC {K : Nat} (vs : List (List UInt8)) (ix : Int) (P : List (List UInt8)) (hP : ∀ x ∈ P, x.length < 1000000) (hPl : P.length < 900000000000) (xs : List (List UInt8)) (hx : ∀ x ∈ xs, x.length < 1000000) (hl : xs.length < 1000000) (hK : 1000000000000 + 100 ≤ K) :
    we_.l0 K K ((ord P, (vs, (ix, (xs, (0, ()))))), ()) = some (if xs.all okT then .inl ((ord (P ++ xs.map lower), (vs, (ix, ()))), ()) else .inr (([], (false, ())), ())) := by
  have H := idx_rule (l := we_.l0 K) (we_.t0 K) (fun _ _ => rfl) xs.length
    (fun i => ((ord (P ++ (xs.take i).map lower), (vs, (ix, (xs, ((i : Int), ()))))), ())) (fun i => if (xs.drop i).all okT then .inl ((ord (P ++ xs.map lower), (vs, (ix, ()))), ()) else .inr (([], (false, ())), ())) ?_ K 0 (by omega) (by omega)
  · rw [List.drop_zero, List.take_zero, List.map_nil, List.append_nil] at H
    exact H
  · intro i rec hi ih
    by_cases h : i < xs.length
    · have hh : (i : Int) < (xs.length : Int) := by omega
      have w1 := wrapSucc (show i < 9223372036854775807 by omega)
      have hm := hx _ (wcW xs [] h)
      have ih' := ih h
      have hl1 := wdh (K := K) (s := xs.getD i []) (by omega) (by omega)
      have ht := wdn (K := K) (s := xs.getD i []) (by omega) (by omega)
      have hlow : (lower (xs.getD i [])).length < 1000000 := by simpa [lower] using hm
      have hol := wim (P ++ (xs.take i).map lower)
      rw [List.length_append, List.length_map, List.length_take] at hol
      have hmin : min i xs.length ≤ i := Nat.min_le_left _ _
      have hp := wiS (K := K) (l := ord (P ++ (xs.take i).map lower)) (s := lower (xs.getD i [])) (by omega) (fun x hx' => by
        rw [wf9, List.mem_append] at hx'
        rcases hx' with hx' | hx'
        · exact hP x hx'
        · obtain ⟨y, hy, rfl⟩ := List.mem_map.1 hx'
          have := hx y (List.mem_of_mem_take hy)
          simpa [lower] using this) hlow hK
      rw [wiF] at hp
      rw [take_get xs [] h, List.map_append, List.map_cons, List.map_nil, ← List.append_assoc] at ih'
      rw [drop_get xs [] h, List.all_cons]
      by_cases c1 : (xs.getD i [] == [42]) = true
      · have ho : okT (xs.getD i []) = false := by simp only [okT, c1, Bool.not_true, Bool.false_and]
        simp only [we_.t0, za', zb', zc', zd', ze', zf', zg', zh', zi', zj', zk', zl', zm', zn', zo', zp', zq', zr', zs', zt', hh, c1, ho]
      · have c1 : (xs.getD i [] == [42]) = false := by simpa using c1
        cases c2 : isTok (xs.getD i []) with
        | false =>
          have ho : okT (xs.getD i []) = false := by simp only [okT, c2, Bool.and_false]
          simp only [we_.t0, za', zb', zc', zd', ze', zf', zg', zh', zi', zj', zk', zl', zm', zn', zo', zp', zq', zr', zs', zt', hh, c1, ht, c2, ho]
        | true =>
          have ho : okT (xs.getD i []) = true := by simp only [okT, c1, c2, Bool.not_false, Bool.and_self]
          simp only [we_.t0, za', zb', zc', zd', ze', zf', zg', zh', zi', zj', zk', zl', zm', zn', zo', zp', zq', zr', zs', zt', hh, c1, ht, c2, ho, hl1, hp, w1]
          exact ih'
    · have h2 : i = xs.length := by omega
      subst h2
      simp only [we_.t0, za', zb', zc', zd', ze', zf', zg', zh', zi', zj', zk', zl', zm', zn', zo', zp', zq', zr', zs', zt', Int.lt_irrefl, List.take_length, List.drop_length, List.all_nil]
theorem wh1 {m : Nat} {vs : List (List UInt8)} (hv : ∀ v ∈ vs, v.length ≤ m) : ∀ k ∈ toks vs, k.length ≤ m := by
  intro k hk
  obtain ⟨v, hvm, hk⟩ := List.mem_flatMap.1 hk
  obtain ⟨x, hx, rfl⟩ := List.mem_map.1 hk
  have h3 := wc5 v x hx
  have h4 := hv v hvm
  simp only [lower, List.length_map]
  omega
theorem weX {K : Nat} {l : List Fld} (h : sized l) (hK : 1000000000000 + 100 ≤ K) : we_ K l = some (namesO l) := by
  have hlen := h.1
  have h3 := wdc l hV
  have hb : ∀ v ∈ allOf l hV, v.length ≤ 99999 := wc8 fun f hf => by have := (h.2 f hf).2; omega
  have hA : wo_ K l [86, 97, 114, 121] = some (allOf l hV) := wc6 h.1 (fun f hf => by have := (h.2 f hf).1; omega) (name := hV) (by decide) (by omega)
  have H := idx_rule (l := we_.l1 K) (we_.t1 (we_.l0 K) K) (fun _ _ => rfl) (allOf l hV).length
    (fun i => ((ord (toks ((allOf l hV).take i)), (allOf l hV, ((i : Int), ()))), ())) (fun i => if ((allOf l hV).drop i).all goodV then .inl ((ord (toks (allOf l hV)), ()), ()) else .inr (([], (false, ())), ())) ?_ K 0 (by omega) (by omega)
  · rw [List.drop_zero, List.take_zero, show toks [] = [] from rfl, wid] at H
    simp only [we_, we_.tr, hA, za', zb', zc', zd', ze', zf', zg', zh', zi', zj', zk', zl', zm', zn', zo', zp', zq', zr', zs', zt']
    change Option.bind (we_.l1 K K (([], (allOf l hV, (((0 : Nat) : Int), ()))), ())) _ = _
    rw [H, namesO, namesV]
    cases (allOf l hV).all goodV <;> rfl
  · generalize allOf l hV = vs at hb h3
    intro i rec hi ih
    by_cases h : i < vs.length
    · have hh : (i : Int) < (vs.length : Int) := by omega
      have w1 := wrapSucc (show i < 9223372036854775807 by omega)
      have hm := hb _ (wcW vs [] h)
      have ih' := ih h
      have hsc := wc4 (vs.getD i [])
      have hsi := wc5 (vs.getD i [])
      have hs := wdj (K := K) (s := vs.getD i []) (by omega) (by omega)
      have et : toks (vs.take (i + 1)) = toks (vs.take i) ++ (splitS (vs.getD i [])).1.map lower := by rw [take_get vs [] h]; simp [toks]
      have htl := wgB (m := 99999) (vs.take i) fun v hv => hb v (List.mem_of_mem_take hv)
      have hti : (vs.take i).length ≤ i := by simp; omega
      have hmul : (vs.take i).length * (99999 + 1) ≤ 1000000 * 100000 := Nat.mul_le_mul (by omega) (by omega)
      have h0 := wiC (K := K) vs (i : Int) (toks (vs.take i)) (fun x hx => by have := wh1 (fun v hv => hb v (List.mem_of_mem_take hv)) x hx; omega) (by omega) (splitS (vs.getD i [])).1 (fun x hx => by have := hsi x hx; omega) (by omega) hK
      rw [← et] at h0
      rw [drop_get vs [] h, List.all_cons]
      by_cases c1 : (splitS (vs.getD i [])).2.1 = 0
      · cases c2 : (splitS (vs.getD i [])).1.all okT with
        | false =>
          have ho : goodV (vs.getD i []) = false := by simp only [goodV, c2, Bool.and_false]
          rw [c2] at h0
          simp only [we_.t1, za', zb', zc', zd', ze', zf', zg', zh', zi', zj', zk', zl', zm', zn', zo', zp', zq', zr', zs', zt', hh, hs, c1, h0, ho]
        | true =>
          have ho : goodV (vs.getD i []) = true := by simp only [goodV, c1, c2, decide_true, Bool.and_self]
          rw [c2] at h0
          simp only [we_.t1, za', zb', zc', zd', ze', zf', zg', zh', zi', zj', zk', zl', zm', zn', zo', zp', zq', zr', zs', zt', hh, hs, c1, h0, ho, w1]
          exact ih'
      · have ho : goodV (vs.getD i []) = false := by simp only [goodV, c1, decide_false, Bool.false_and]
        simp only [we_.t1, za', zb', zc', zd', ze', zf', zg', zh', zi', zj', zk', zl', zm', zn', zo', zp', zq', zr', zs', zt', hh, hs, c1, ho]
    · have h2 : i = vs.length := by omega
      subst h2
      simp only [we_.t1, za', zb', zc', zd', ze', zf', zg', zh', zi', zj', zk', zl', zm', zn', zo', zp', zq', zr', zs', zt', Int.lt_irrefl, List.take_length, List.drop_length, List.all_nil]
/-! Blanks. -/
end Go.Proofs.X
