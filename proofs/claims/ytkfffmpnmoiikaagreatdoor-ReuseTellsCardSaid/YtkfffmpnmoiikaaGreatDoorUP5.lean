/-
  A part of the proof. No condition.
-/
import Derived.Test.YtkfffmpnmoiikaaGreatDoorUP4
/- Chapter 06: Quote, Unquote and Param, the program's and the document's; what is split and joined. No condition but on sizes. -/
set_option linter.unusedSimpArgs false
set_option linter.unusedVariables false
namespace Go.Proofs.X
open Go Go.Dp
theorem wdN {K : Nat} {s : List UInt8} (hs : s.length ≤ 1000000000) : items_Unquote K s = some (unquoteL s) := by
  simp only [items_Unquote, unquoteF, hs, za', zb', zc', zd', ze', zf', zg', zh', zi', zj', zk', zl', zm', zn', zo', zp', zq', zr', zs', zt']
def gU (s t : List UInt8) (i : Nat) : List UInt8 × Int × Unit :=
  if s.getD (s.length - 1) 0 = 34 then (match unq (insideD s i) with | none => ([], 5, ()) | some u => (t ++ u, 0, ())) else ([], 5, ())
theorem wgw (s : List UInt8) (h : ¬ s.length < 2) (h0 : s.getD 0 0 = 34) : unquoteL s = gU s [] 1 := by
  unfold unquoteL gU insideD
  by_cases c : s.getD (s.length - 1) 0 = 34
  · rw [if_neg (by rintro (h1 | h1 | h1); exact h h1; exact h1 h0; exact h1 c), if_pos c]
    cases unq (List.drop 1 (List.take (s.length - 1) s)) <;> simp
  · rw [if_pos (.inr (.inr c)), if_neg c]
theorem gU_34 (s t : List UInt8) {i : Nat} (hi : i < s.length) (hb : s.getD i 0 = 34) (hne : i ≠ s.length - 1) : gU s t i = ([], 5, ()) := by
  unfold gU
  split
  · rw [insideD_cons s (by omega), hb, unq_34]
  · rfl
theorem wiL (s t : List UInt8) {i : Nat} (hi : i < s.length) (hb : s.getD i 0 = 92) (hne : s.length - 1 ≤ i + 1) : gU s t i = ([], 5, ()) := by
  unfold gU
  split
  · rename_i c
    have : i ≠ s.length - 1 := fun e => by rw [← e, hb] at c; cases c
    rw [insideD_cons s (by omega), hb, insideD_end s (by omega), unq_92n]
  · rfl
theorem gU_92 (s t : List UInt8) {i : Nat} (hi : i + 1 < s.length - 1) (hb : s.getD i 0 = 92) : gU s (t ++ [s.getD (i + 1) 0]) (i + 1 + 1) = gU s t i := by
  unfold gU
  split
  · rw [insideD_cons s (k := i) (by omega), hb, insideD_cons s (k := i + 1) (by omega), unq_92]
    cases unq (insideD s (i + 1 + 1)) <;> simp
  · rfl
theorem whS (s t : List UInt8) {i : Nat} (hi : i < s.length) (hb : s.getD i 0 ≠ 34) (hb2 : s.getD i 0 ≠ 92) : gU s (t ++ [s.getD i 0]) (i + 1) = gU s t i := by
  unfold gU
  split
  · rename_i c
    have : i ≠ s.length - 1 := fun e => by rw [← e] at c; exact hb c
    rw [insideD_cons s (k := i) (by omega), unq_other _ _ hb hb2]
    cases unq (insideD s (i + 1)) <;> simp
  · rfl
theorem wdJ {K : Nat} {s : List UInt8} (hs : s.length < 1000000) (hK : s.length + 1 < K) : ws_ K s = some (unquoteL s) := by
  by_cases h2 : s.length < 2
  · have h2' : (s.length : Int) < 2 := by omega
    simp only [ws_, ws_.tr, h2', za', zb', zc', zd', ze', zf', zg', zh', zi', zj', zk', zl', zm', zn', zo', zp', zq', zr', zs', zt', unquoteL, h2, true_or]
  have h2' : ¬ (s.length : Int) < 2 := by omega
  have h0 : (0 : Int) < s.length := by omega
  by_cases h34 : s.getD 0 0 = 34
  · have H := loop_ex (l := ws_.l0 K) (ws_.t0 K) (fun _ _ => rfl)
      (fun x => ∃ (i : Nat) (t : List UInt8), x = ((s, (t, ((i : Int), ()))), ()) ∧ 1 ≤ i ∧ i ≤ s.length ∧ t.length ≤ i ∧ (s.getD (s.length - 1) 0 = 34 → i ≤ s.length - 1) ∧ gU s t i = gU s [] 1)
      (fun x => s.length - x.1.2.2.1.toNat) (fun r => (match r with | .inl _ => (([], 5, ()) : List UInt8 × Int × Unit) | .inr z => (z.1.1, z.1.2.1, ())) = gU s [] 1) ?_ K ((s, ([], (1, ()))), ()) ⟨1, [], rfl, by omega, by omega, by simp, fun _ => by omega, rfl⟩ (by simp; omega)
    · obtain ⟨r, h1, h3⟩ := H
      rw [wgw s h2 h34, ← h3]
      simp only [ws_, ws_.tr, h2', h0, h34, byte34, za', zb', zc', zd', ze', zf', zg', zh', zi', zj', zk', zl', zm', zn', zo', zp', zq', zr', zs', zt', Int.le_refl, Nat.le_refl, h1]
      cases r <;> rfl
    · rintro x rec ⟨i, t, rfl, h1, hi, ht, hL, hg⟩ ih
      by_cases h : i < s.length
      · have hh : (i : Int) < (s.length : Int) := by omega
        have w1 := wrapSucc (show i < 9223372036854775807 by omega)
        have w2 := wrapSucc (show i + 1 < 9223372036854775807 by omega)
        have wl := wrapPred (show s.length < 9223372036854775807 by omega) (by omega)
        have go : ∀ (i' : Nat) (t' : List UInt8), i < i' → i' ≤ s.length → t'.length ≤ i' → (s.getD (s.length - 1) 0 = 34 → i' ≤ s.length - 1) → gU s t' i' = gU s [] 1 →
            ∃ r, rec ((s, (t', ((i' : Int), ()))), ()) = some r ∧ (match r with | .inl _ => (([], 5, ()) : List UInt8 × Int × Unit) | .inr z => (z.1.1, z.1.2.1, ())) = gU s [] 1 :=
          fun i' t' a1 a2 a3 a4 a5 => ih _ ⟨i', t', rfl, by omega, a2, a3, a4, a5⟩ (by simp; omega)
        have hm1 : t.length + 1 ≤ maxRoom := by simp only [maxRoom]; omega
        have hh1 : ((i + 1 : Nat) : Int) ≤ (s.length : Int) := by omega
        have hh3 : (i : Int) ≤ ((i + 1 : Nat) : Int) := by omega
        have hc1 : cut s i (i + 1) = [s.getD i 0] := by rw [cut_succ s 0 (by omega) h, cut_self]; rfl
        simp only [ws_.t0, za', zb', zc', zd', ze', zf', zg', zh', zi', zj', zk', zl', zm', zn', zo', zp', zq', zr', zs', zt', hh, byte34, byte92, wl, w1]
        by_cases c1 : s.getD i 0 = 34
        · by_cases c3 : i = s.length - 1
          · have e : (i : Int) = ((s.length - 1 : Nat) : Int) := by omega
            simp only [c1, e, za', zb', zc', zd', ze', zf', zg', zh', zi', zj', zk', zl', zm', zn', zo', zp', zq', zr', zs', zt']
            refine ⟨_, rfl, ?_⟩
            rw [← hg]
            simp only [gU, ← c3, c1, if_true, insideD_end s (show s.length - 1 ≤ i by omega), unq, List.append_nil]
          · have e : ¬ (i : Int) = ((s.length - 1 : Nat) : Int) := by omega
            simp only [c1, e, za', zb', zc', zd', ze', zf', zg', zh', zi', zj', zk', zl', zm', zn', zo', zp', zq', zr', zs', zt']
            exact ⟨_, rfl, by rw [← hg, gU_34 s t h c1 c3]⟩
        · by_cases c2 : s.getD i 0 = 92
          · by_cases c3 : s.length - 1 ≤ i + 1
            · have e : ((i + 1 : Nat) : Int) ≥ ((s.length - 1 : Nat) : Int) := by omega
              simp only [c2, e, za', zb', zc', zd', ze', zf', zg', zh', zi', zj', zk', zl', zm', zn', zo', zp', zq', zr', zs', zt', show ¬ (92 : UInt8) = 34 by decide]
              exact ⟨_, rfl, by rw [← hg, wiL s t h c2 c3]⟩
            · have e : ¬ ((i + 1 : Nat) : Int) ≥ ((s.length - 1 : Nat) : Int) := by omega
              have hh4 : ((i + 1 + 1 : Nat) : Int) ≤ (s.length : Int) := by omega
              have hh5 : ((i + 1 : Nat) : Int) ≤ ((i + 1 + 1 : Nat) : Int) := by omega
              have hc2 : cut s (i + 1) (i + 1 + 1) = [s.getD (i + 1) 0] := by rw [cut_succ s 0 (by omega) (by omega), cut_self]; rfl
              simp only [c2, e, za', zb', zc', zd', ze', zf', zg', zh', zi', zj', zk', zl', zm', zn', zo', zp', zq', zr', zs', zt', show ¬ (92 : UInt8) = 34 by decide, w1, w2, hh4, hh5, hc2, hm1, List.length_cons, List.length_nil, Nat.zero_add]
              exact go (i + 1 + 1) _ (by omega) (by omega) (by simp; omega) (fun _ => by omega) (by rw [gU_92 s t (by omega) c2, hg])
          · simp only [c1, c2, za', zb', zc', zd', ze', zf', zg', zh', zi', zj', zk', zl', zm', zn', zo', zp', zq', zr', zs', zt', w1, hh1, hh3, hc1, hm1, List.length_cons, List.length_nil, Nat.zero_add]
            exact go (i + 1) _ (by omega) (by omega) (by simp; omega) (fun c => by
              have : i ≠ s.length - 1 := fun e => by rw [← e] at c; exact c1 c
              omega) (by rw [whS s t h c1 c2, hg])
      · have h3 : i = s.length := by omega
        have hh : ¬ (i : Int) < (s.length : Int) := by omega
        simp only [ws_.t0, hh, za', zb', zc', zd', ze', zf', zg', zh', zi', zj', zk', zl', zm', zn', zo', zp', zq', zr', zs', zt']
        refine ⟨_, rfl, ?_⟩
        rw [← hg]
        unfold gU
        rw [if_neg (fun c => by have := hL c; omega)]
  · simp only [ws_, ws_.tr, h2', h0, h34, byte34, za', zb', zc', zd', ze', zf', zg', zh', zi', zj', zk', zl', zm', zn', zo', zp', zq', zr', zs', zt', Int.le_refl, Nat.le_refl, unquoteL]
    rw [if_pos (.inr (.inl h34))]
def paramS (s : List UInt8) : List UInt8 × List UInt8 × Bool × Int × Unit :=
  if isTok (cutAt s 61).1 = false then ([], [], false, 5, ())
  else if (cutAt s 61).2.2.1 = true ∧ isTok (cutAt s 61).2.1 = false then
    (if (unquoteL (cutAt s 61).2.1).2.1 = 0 then (lower (cutAt s 61).1, (unquoteL (cutAt s 61).2.1).1, true, 0, ()) else ([], [], false, (unquoteL (cutAt s 61).2.1).2.1, ()))
  else (lower (cutAt s 61).1, (cutAt s 61).2.1, (cutAt s 61).2.2.1, 0, ())
theorem weS {K : Nat} {s : List UInt8} (hs : s.length < 1000000) (hK : 1000000 + 100 ≤ K) : wcK K s = some (paramS s) := by
  obtain ⟨h1, h2⟩ := wei s 61
  have hc : wc0 K s 61 = some (cutAt s 61) := wfT (K := K) (s := s) 61 (by omega)
  simp only [wcK, hc, za', zb', zc', zd', ze', zf', zg', zh', zi', zj', zk', zl', zm', zn', zo', zp', zq', zr', zs', zt', wdm (K := K) (s := (cutAt s 61).1) (by omega) (by omega), wdm (K := K) (s := (cutAt s 61).2.1) (by omega) (by omega), wc7 (K := K) (s := (cutAt s 61).1) (by omega) (by omega), wdN (K := K) (s := (cutAt s 61).2.1) (by omega), paramS]
  cases c1 : isTok (cutAt s 61).1
  · simp only [za', zb', zc', zd', ze', zf', zg', zh', zi', zj', zk', zl', zm', zn', zo', zp', zq', zr', zs', zt']
  · cases c2 : (cutAt s 61).2.2.1
    · simp only [za', zb', zc', zd', ze', zf', zg', zh', zi', zj', zk', zl', zm', zn', zo', zp', zq', zr', zs', zt', wc7 (K := K) (s := (cutAt s 61).1) (by omega) (by omega), false_and, Bool.true_eq_false]
    · cases c3 : isTok (cutAt s 61).2.1
      · by_cases c4 : (unquoteL (cutAt s 61).2.1).2.1 = 0 <;> simp only [za', zb', zc', zd', ze', zf', zg', zh', zi', zj', zk', zl', zm', zn', zo', zp', zq', zr', zs', zt', c4, and_self, Bool.true_eq_false, wc7 (K := K) (s := (cutAt s 61).1) (by omega) (by omega), wdN (K := K) (s := (cutAt s 61).2.1) (by omega)]
      · simp only [za', zb', zc', zd', ze', zf', zg', zh', zi', zj', zk', zl', zm', zn', zo', zp', zq', zr', zs', zt', wc7 (K := K) (s := (cutAt s 61).1) (by omega) (by omega), Bool.true_eq_false, and_false]
theorem weY {K : Nat} {s : List UInt8} (hs : s.length < 1000000) (hK : 1000000 + 100 ≤ K) : wb1 K s = some (paramS s) := by
  obtain ⟨h1, h2⟩ := wei s 61
  have hc : wP_ K s 61 = some (cutAt s 61) := wfJ (K := K) (s := s) 61 (by omega) (by omega)
  simp only [wb1, hc, za', zb', zc', zd', ze', zf', zg', zh', zi', zj', zk', zl', zm', zn', zo', zp', zq', zr', zs', zt', wdn (K := K) (s := (cutAt s 61).1) (by omega) (by omega), wdn (K := K) (s := (cutAt s 61).2.1) (by omega) (by omega), wdh (K := K) (s := (cutAt s 61).1) (by omega) (by omega), wdJ (K := K) (s := (cutAt s 61).2.1) (by omega) (by omega), paramS]
  cases c1 : isTok (cutAt s 61).1
  · simp only [za', zb', zc', zd', ze', zf', zg', zh', zi', zj', zk', zl', zm', zn', zo', zp', zq', zr', zs', zt']
  · cases c2 : (cutAt s 61).2.2.1
    · simp only [za', zb', zc', zd', ze', zf', zg', zh', zi', zj', zk', zl', zm', zn', zo', zp', zq', zr', zs', zt', false_and, Bool.true_eq_false]
    · cases c3 : isTok (cutAt s 61).2.1
      · by_cases c4 : (unquoteL (cutAt s 61).2.1).2.1 = 0 <;> simp only [za', zb', zc', zd', ze', zf', zg', zh', zi', zj', zk', zl', zm', zn', zo', zp', zq', zr', zs', zt', c4, and_self, Bool.true_eq_false, wdJ (K := K) (s := (cutAt s 61).2.1) (by omega) (by omega)]
      · simp only [za', zb', zc', zd', ze', zf', zg', zh', zi', zj', zk', zl', zm', zn', zo', zp', zq', zr', zs', zt', Bool.true_eq_false, and_false]
theorem wfc (s : List UInt8) : (paramS s).1.length ≤ s.length ∧ (paramS s).2.1.length ≤ s.length := by
  obtain ⟨h1, h2⟩ := wei s 61
  have h3 : (unquoteL (cutAt s 61).2.1).1.length ≤ (cutAt s 61).2.1.length := by
    have hu : ∀ (n : Nat) (l t : List UInt8), l.length ≤ n → unq l = some t → t.length ≤ l.length := by
      intro n
      induction n with
      | zero => intro l t hl h; obtain rfl : l = [] := List.length_eq_zero_iff.1 (by omega); simp only [unq, Option.some.injEq] at h; subst h; simp
      | succ n ih =>
        intro l t hl h
        match l, h with
        | [], h => simp only [unq, Option.some.injEq] at h; subst h; simp
        | [a], h => simp only [unq] at h; split at h <;> simp at h; subst h; simp
        | a :: b :: r, h =>
          simp only [List.length_cons] at hl
          simp only [unq] at h
          split at h
          · cases h
          · split at h
            · obtain ⟨u, h4, rfl⟩ := Option.map_eq_some_iff.1 h
              have := ih r u (by omega) h4
              simp; omega
            · obtain ⟨u, h4, rfl⟩ := Option.map_eq_some_iff.1 h
              have := ih (b :: r) u (by simp; omega) h4
              simp at this ⊢; omega
    generalize (cutAt s 61).2.1 = v
    unfold unquoteL
    split
    · simp
    · split
      · simp
      · rename_i t h
        have := hu _ _ _ (Nat.le_refl _) h
        simp at this ⊢
        omega
  unfold paramS
  split
  · simp
  · split
    · split
      · simp; omega
      · simp
    · simp; omega
/-! What is quoted. -/
end Go.Proofs.X
