/-
  A part of the proof. No condition.
-/
import Derived.Test.YtikiloknlchppaaGreatDoorLP4
/- Chapter 06: Quote, Unquote and Param, the program's and the document's; what is split and joined. No condition but on sizes. -/
set_option linter.unusedSimpArgs false
set_option linter.unusedVariables false
namespace Go.Proofs.X
open Go Go.Dp

theorem itemsUnquote_eq {K : Nat} {s : List UInt8} (hs : s.length ≤ 1000000000) : items_Unquote K s = some (unquoteL s) := by
  simp only [items_Unquote, unquoteF, hs, za', zb', zc', zd', ze', zf', zg', zh', zi', zj', zk', zl', zm', zn', zo', zp', zq', zr', zs', zt']
def gU (s t : List UInt8) (i : Nat) : List UInt8 × Int × Unit :=
  if s.getD (s.length - 1) 0 = 34 then (match unq (insideD s i) with | none => ([], 5, ()) | some u => (t ++ u, 0, ())) else ([], 5, ())
theorem unquoteL_gU (s : List UInt8) (h : ¬ s.length < 2) (h0 : s.getD 0 0 = 34) : unquoteL s = gU s [] 1 := by
  unfold unquoteL gU insideD
  by_cases c : s.getD (s.length - 1) 0 = 34
  · rw [if_neg (by rintro (h1 | h1 | h1); exact h h1; exact h1 h0; exact h1 c), if_pos c]
    cases unq (List.drop 1 (List.take (s.length - 1) s)) <;> simp
  · rw [if_pos (.inr (.inr c)), if_neg c]
theorem gU_34 (s t : List UInt8) {i : Nat} (hi : i < s.length) (hb : s.getD i 0 = 34) (hne : i ≠ s.length - 1) : gU s t i = ([], 5, ()) := by
  unfold gU
  split
  · rw [insideD_cons s (by omega), hb, unq_34]
  · rfl
theorem gU_92e (s t : List UInt8) {i : Nat} (hi : i < s.length) (hb : s.getD i 0 = 92) (hne : s.length - 1 ≤ i + 1) : gU s t i = ([], 5, ()) := by
  unfold gU
  split
  · rename_i c
    have : i ≠ s.length - 1 := fun e => by rw [← e, hb] at c; cases c
    rw [insideD_cons s (by omega), hb, insideD_end s (by omega), unq_92n]
  · rfl
theorem gU_92 (s t : List UInt8) {i : Nat} (hi : i + 1 < s.length - 1) (hb : s.getD i 0 = 92) : gU s (t ++ [s.getD (i + 1) 0]) (i + 1 + 1) = gU s t i := by
  unfold gU
  split
  · rw [insideD_cons s (k := i) (by omega), hb, insideD_cons s (k := i + 1) (by omega), unq_92]
    cases unq (insideD s (i + 1 + 1)) <;> simp
  · rfl
theorem gU_other (s t : List UInt8) {i : Nat} (hi : i < s.length) (hb : s.getD i 0 ≠ 34) (hb2 : s.getD i 0 ≠ 92) : gU s (t ++ [s.getD i 0]) (i + 1) = gU s t i := by
  unfold gU
  split
  · rename_i c
    have : i ≠ s.length - 1 := fun e => by rw [← e] at c; exact hb c
    rw [insideD_cons s (k := i) (by omega), unq_other _ _ hb hb2]
    cases unq (insideD s (i + 1)) <;> simp
  · rfl
theorem ref06_Unquote_ok {K : Nat} {s : List UInt8} (hs : s.length < 1000000) (hK : s.length + 1 < K) : depotref06_Unquote K s = some (unquoteL s) := by
  by_cases h2 : s.length < 2
  · have h2' : (s.length : Int) < 2 := by omega
    simp only [depotref06_Unquote, depotref06_Unquote.tr, h2', za', zb', zc', zd', ze', zf', zg', zh', zi', zj', zk', zl', zm', zn', zo', zp', zq', zr', zs', zt', unquoteL, h2, true_or]
  have h2' : ¬ (s.length : Int) < 2 := by omega
  have h0 : (0 : Int) < s.length := by omega
  by_cases h34 : s.getD 0 0 = 34
  · have H := loop_ex (l := depotref06_Unquote.l0 K) (depotref06_Unquote.t0 K) (fun _ _ => rfl)
      (fun x => ∃ (i : Nat) (t : List UInt8), x = ((s, (t, ((i : Int), ()))), ()) ∧ 1 ≤ i ∧ i ≤ s.length ∧ t.length ≤ i ∧ (s.getD (s.length - 1) 0 = 34 → i ≤ s.length - 1) ∧ gU s t i = gU s [] 1)
      (fun x => s.length - x.1.2.2.1.toNat) (fun r => (match r with | .inl _ => (([], 5, ()) : List UInt8 × Int × Unit) | .inr z => (z.1.1, z.1.2.1, ())) = gU s [] 1) ?_ K ((s, ([], (1, ()))), ()) ⟨1, [], rfl, by omega, by omega, by simp, fun _ => by omega, rfl⟩ (by simp; omega)
    · obtain ⟨r, h1, h3⟩ := H
      rw [unquoteL_gU s h2 h34, ← h3]
      simp only [depotref06_Unquote, depotref06_Unquote.tr, h2', h0, h34, byte34, za', zb', zc', zd', ze', zf', zg', zh', zi', zj', zk', zl', zm', zn', zo', zp', zq', zr', zs', zt', Int.le_refl, Nat.le_refl, h1]
      cases r <;> rfl
    · rintro x rec ⟨i, t, rfl, h1, hi, ht, hL, hg⟩ ih
      by_cases h : i < s.length
      · have hh : (i : Int) < (s.length : Int) := by omega
        have w1 := wrapSucc (show i < 9223372036854775807 by omega)
        have w2 := wrapSucc (show i + 1 < 9223372036854775807 by omega)
        have wl := wrapPred (show s.length < 9223372036854775807 by omega) (by omega)
        have go : ∀ (i' : Nat) (t' : List UInt8), i < i' → i' ≤ s.length → t'.length ≤ i' → (s.getD (s.length - 1) 0 = 34 → i' ≤ s.length - 1) → gU s t' i' = gU s [] 1 →
            ∃ r, rec ((s, (t', ((i' : Int), ()))), ()) = some r ∧ (match r with | .inl _ => (([], 5, ()) : List UInt8 × Int × Unit) | .inr z => (z.1.1, z.1.2.1, ())) = gU s [] 1 :=
          fun i' t' a1 a2 a3 a4 a5 => ih _ ⟨i', t', rfl, by omega, a2, a3, a4, a5⟩ (by simp; omega)
        have hm1 : t.length + 1 ≤ maxRoom := by simp only [maxRoom]; omega
        have hh1 : ((i + 1 : Nat) : Int) ≤ (s.length : Int) := by omega
        have hh3 : (i : Int) ≤ ((i + 1 : Nat) : Int) := by omega
        have hc1 : cut s i (i + 1) = [s.getD i 0] := by rw [cut_succ s 0 (by omega) h, cut_self]; rfl
        simp only [depotref06_Unquote.t0, za', zb', zc', zd', ze', zf', zg', zh', zi', zj', zk', zl', zm', zn', zo', zp', zq', zr', zs', zt', hh, byte34, byte92, wl, w1]
        by_cases c1 : s.getD i 0 = 34
        · by_cases c3 : i = s.length - 1
          · have e : (i : Int) = ((s.length - 1 : Nat) : Int) := by omega
            simp only [c1, e, za', zb', zc', zd', ze', zf', zg', zh', zi', zj', zk', zl', zm', zn', zo', zp', zq', zr', zs', zt']
            refine ⟨_, rfl, ?_⟩
            rw [← hg]
            simp only [gU, ← c3, c1, if_true, insideD_end s (show s.length - 1 ≤ i by omega), unq, List.append_nil]
          · have e : ¬ (i : Int) = ((s.length - 1 : Nat) : Int) := by omega
            simp only [c1, e, za', zb', zc', zd', ze', zf', zg', zh', zi', zj', zk', zl', zm', zn', zo', zp', zq', zr', zs', zt']
            exact ⟨_, rfl, by rw [← hg, gU_34 s t h c1 c3]⟩
        · by_cases c2 : s.getD i 0 = 92
          · by_cases c3 : s.length - 1 ≤ i + 1
            · have e : ((i + 1 : Nat) : Int) ≥ ((s.length - 1 : Nat) : Int) := by omega
              simp only [c2, e, za', zb', zc', zd', ze', zf', zg', zh', zi', zj', zk', zl', zm', zn', zo', zp', zq', zr', zs', zt', show ¬ (92 : UInt8) = 34 by decide]
              exact ⟨_, rfl, by rw [← hg, gU_92e s t h c2 c3]⟩
            · have e : ¬ ((i + 1 : Nat) : Int) ≥ ((s.length - 1 : Nat) : Int) := by omega
              have hh4 : ((i + 1 + 1 : Nat) : Int) ≤ (s.length : Int) := by omega
              have hh5 : ((i + 1 : Nat) : Int) ≤ ((i + 1 + 1 : Nat) : Int) := by omega
              have hc2 : cut s (i + 1) (i + 1 + 1) = [s.getD (i + 1) 0] := by rw [cut_succ s 0 (by omega) (by omega), cut_self]; rfl
              simp only [c2, e, za', zb', zc', zd', ze', zf', zg', zh', zi', zj', zk', zl', zm', zn', zo', zp', zq', zr', zs', zt', show ¬ (92 : UInt8) = 34 by decide, w1, w2, hh4, hh5, hc2, hm1, List.length_cons, List.length_nil, Nat.zero_add]
              exact go (i + 1 + 1) _ (by omega) (by omega) (by simp; omega) (fun _ => by omega) (by rw [gU_92 s t (by omega) c2, hg])
          · simp only [c1, c2, za', zb', zc', zd', ze', zf', zg', zh', zi', zj', zk', zl', zm', zn', zo', zp', zq', zr', zs', zt', w1, hh1, hh3, hc1, hm1, List.length_cons, List.length_nil, Nat.zero_add]
            exact go (i + 1) _ (by omega) (by omega) (by simp; omega) (fun c => by
              have : i ≠ s.length - 1 := fun e => by rw [← e] at c; exact c1 c
              omega) (by rw [gU_other s t h c1 c2, hg])
      · have h3 : i = s.length := by omega
        have hh : ¬ (i : Int) < (s.length : Int) := by omega
        simp only [depotref06_Unquote.t0, hh, za', zb', zc', zd', ze', zf', zg', zh', zi', zj', zk', zl', zm', zn', zo', zp', zq', zr', zs', zt']
        refine ⟨_, rfl, ?_⟩
        rw [← hg]
        unfold gU
        rw [if_neg (fun c => by have := hL c; omega)]
  · simp only [depotref06_Unquote, depotref06_Unquote.tr, h2', h0, h34, byte34, za', zb', zc', zd', ze', zf', zg', zh', zi', zj', zk', zl', zm', zn', zo', zp', zq', zr', zs', zt', Int.le_refl, Nat.le_refl, unquoteL]
    rw [if_pos (.inr (.inl h34))]

theorem unquoteL_err (s : List UInt8) : (unquoteL s).2.1 = 0 ∨ unquoteL s = ([], 5, ()) := by
  unfold unquoteL
  split
  · exact .inr rfl
  · split
    · exact .inr rfl
    · exact .inl rfl
/-- An element's name and value. -/
def paramS (s : List UInt8) : List UInt8 × List UInt8 × Bool × Int × Unit :=
  if isTok (cutAt s 61).1 = false then ([], [], false, 5, ())
  else if (cutAt s 61).2.2.1 = true ∧ isTok (cutAt s 61).2.1 = false then
    (if (unquoteL (cutAt s 61).2.1).2.1 = 0 then (lower (cutAt s 61).1, (unquoteL (cutAt s 61).2.1).1, true, 0, ()) else ([], [], false, (unquoteL (cutAt s 61).2.1).2.1, ()))
  else (lower (cutAt s 61).1, (cutAt s 61).2.1, (cutAt s 61).2.2.1, 0, ())
theorem items_Param_ok {K : Nat} {s : List UInt8} (hs : s.length < 1000000) (hK : 1000000 + 100 ≤ K) : items_Param K s = some (paramS s) := by
  obtain ⟨h1, h2⟩ := cutAt_lens s 61
  have hc : octet_Cut K s 61 = some (cutAt s 61) := octet_Cut_ok (K := K) (s := s) 61 (by omega)
  simp only [items_Param, hc, za', zb', zc', zd', ze', zf', zg', zh', zi', zj', zk', zl', zm', zn', zo', zp', zq', zr', zs', zt', octet_IsToken_ok (K := K) (s := (cutAt s 61).1) (by omega) (by omega), octet_IsToken_ok (K := K) (s := (cutAt s 61).2.1) (by omega) (by omega), octet_Lower_ok (K := K) (s := (cutAt s 61).1) (by omega) (by omega), itemsUnquote_eq (K := K) (s := (cutAt s 61).2.1) (by omega), paramS]
  cases c1 : isTok (cutAt s 61).1
  · simp only [za', zb', zc', zd', ze', zf', zg', zh', zi', zj', zk', zl', zm', zn', zo', zp', zq', zr', zs', zt']
  · cases c2 : (cutAt s 61).2.2.1
    · simp only [za', zb', zc', zd', ze', zf', zg', zh', zi', zj', zk', zl', zm', zn', zo', zp', zq', zr', zs', zt', octet_Lower_ok (K := K) (s := (cutAt s 61).1) (by omega) (by omega), false_and, Bool.true_eq_false]
    · cases c3 : isTok (cutAt s 61).2.1
      · by_cases c4 : (unquoteL (cutAt s 61).2.1).2.1 = 0 <;> simp only [za', zb', zc', zd', ze', zf', zg', zh', zi', zj', zk', zl', zm', zn', zo', zp', zq', zr', zs', zt', c4, and_self, Bool.true_eq_false, octet_Lower_ok (K := K) (s := (cutAt s 61).1) (by omega) (by omega), itemsUnquote_eq (K := K) (s := (cutAt s 61).2.1) (by omega)]
      · simp only [za', zb', zc', zd', ze', zf', zg', zh', zi', zj', zk', zl', zm', zn', zo', zp', zq', zr', zs', zt', octet_Lower_ok (K := K) (s := (cutAt s 61).1) (by omega) (by omega), Bool.true_eq_false, and_false]
theorem ref06_Param_ok {K : Nat} {s : List UInt8} (hs : s.length < 1000000) (hK : 1000000 + 100 ≤ K) : depotref06_Param K s = some (paramS s) := by
  obtain ⟨h1, h2⟩ := cutAt_lens s 61
  have hc : depotref01_Cut K s 61 = some (cutAt s 61) := ref01_Cut_ok (K := K) (s := s) 61 (by omega) (by omega)
  simp only [depotref06_Param, hc, za', zb', zc', zd', ze', zf', zg', zh', zi', zj', zk', zl', zm', zn', zo', zp', zq', zr', zs', zt', ref01_IsToken_ok (K := K) (s := (cutAt s 61).1) (by omega) (by omega), ref01_IsToken_ok (K := K) (s := (cutAt s 61).2.1) (by omega) (by omega), ref01_Lower_ok (K := K) (s := (cutAt s 61).1) (by omega) (by omega), ref06_Unquote_ok (K := K) (s := (cutAt s 61).2.1) (by omega) (by omega), paramS]
  cases c1 : isTok (cutAt s 61).1
  · simp only [za', zb', zc', zd', ze', zf', zg', zh', zi', zj', zk', zl', zm', zn', zo', zp', zq', zr', zs', zt']
  · cases c2 : (cutAt s 61).2.2.1
    · simp only [za', zb', zc', zd', ze', zf', zg', zh', zi', zj', zk', zl', zm', zn', zo', zp', zq', zr', zs', zt', false_and, Bool.true_eq_false]
    · cases c3 : isTok (cutAt s 61).2.1
      · by_cases c4 : (unquoteL (cutAt s 61).2.1).2.1 = 0 <;> simp only [za', zb', zc', zd', ze', zf', zg', zh', zi', zj', zk', zl', zm', zn', zo', zp', zq', zr', zs', zt', c4, and_self, Bool.true_eq_false, ref06_Unquote_ok (K := K) (s := (cutAt s 61).2.1) (by omega) (by omega)]
      · simp only [za', zb', zc', zd', ze', zf', zg', zh', zi', zj', zk', zl', zm', zn', zo', zp', zq', zr', zs', zt', Bool.true_eq_false, and_false]
theorem paramS_len (s : List UInt8) : (paramS s).1.length ≤ s.length ∧ (paramS s).2.1.length ≤ s.length := by
  obtain ⟨h1, h2⟩ := cutAt_lens s 61
  have h3 : (unquoteL (cutAt s 61).2.1).1.length ≤ (cutAt s 61).2.1.length := by
    have hu : ∀ (n : Nat) (l t : List UInt8), l.length ≤ n → unq l = some t → t.length ≤ l.length := by
      intro n
      induction n with
      | zero => intro l t hl h; obtain rfl : l = [] := List.length_eq_zero_iff.1 (by omega); simp only [unq, Option.some.injEq] at h; subst h; simp
      | succ n ih =>
        intro l t hl h
        match l, h with
        | [], h => simp only [unq, Option.some.injEq] at h; subst h; simp
        | [a], h => simp only [unq] at h; split at h <;> simp at h; subst h; simp
        | a :: b :: r, h =>
          simp only [List.length_cons] at hl
          simp only [unq] at h
          split at h
          · cases h
          · split at h
            · obtain ⟨u, h4, rfl⟩ := Option.map_eq_some_iff.1 h
              have := ih r u (by omega) h4
              simp; omega
            · obtain ⟨u, h4, rfl⟩ := Option.map_eq_some_iff.1 h
              have := ih (b :: r) u (by simp; omega) h4
              simp at this ⊢; omega
    generalize (cutAt s 61).2.1 = v
    unfold unquoteL
    split
    · simp
    · split
      · simp
      · rename_i t h
        have := hu _ _ _ (Nat.le_refl _) h
        simp at this ⊢
        omega
  unfold paramS
  split
  · simp
  · split
    · split
      · simp; omega
      · simp
    · simp; omega

/-! What is quoted. -/
theorem unq_quoteIn (s : List UInt8) : unq (quoteIn s) = some s := by
  induction s with
  | nil => rfl
  | cons a s ih =>
    simp only [quoteIn]
    split
    · simp only [List.cons_append, List.nil_append, unq_92, ih]; rfl
    · rename_i h
      rw [List.singleton_append, unq_other _ _ (fun e => h (.inl e)) (fun e => h (.inr e)), ih]; rfl
theorem quoteL_len (s : List UInt8) : (quoteL s).length = (quoteIn s).length + 2 := by simp [quoteL]
theorem unquote_quote (s : List UInt8) : unquoteL (quoteL s) = (s, 0, ()) := by
  have h1 : (quoteL s).getD ((quoteL s).length - 1) 0 = 34 := by
    rw [quoteL_len, show (quoteIn s).length + 2 - 1 = (quoteIn s).length + 1 by omega]
    simp [quoteL, List.getD_eq_getElem?_getD]
  have h2 : ((quoteL s).take ((quoteL s).length - 1)).drop 1 = quoteIn s := by
    rw [quoteL_len, show (quoteIn s).length + 2 - 1 = (quoteIn s).length + 1 by omega]
    simp [quoteL]
  unfold unquoteL
  rw [if_neg (by rw [h1, quoteL_len]; rintro (h | h | h); omega; exact h rfl; exact h rfl), h2, unq_quoteIn]
/-- Through quoted texts: 0 outside, 1 inside, 2 behind a backslash; no comma outside. -/
def autS (st : Nat) (c : UInt8) : Option Nat :=
  if st = 0 then (if c = 34 then some 1 else if c = 44 then none else some 0) else if st = 1 then (if c = 34 then some 0 else if c = 92 then some 2 else some 1) else some 1
def aut : Nat → List UInt8 → Option Nat
  | st, [] => some st
  | st, c :: l => (autS st c).bind fun st => aut st l
theorem aut_append (a b : List UInt8) : ∀ st, aut st (a ++ b) = (aut st a).bind fun st => aut st b := by
  induction a with
  | nil => intro st; rfl
  | cons c a ih => intro st; simp only [List.cons_append, aut]; cases autS st c <;> simp [ih]
theorem spl_pass : ∀ (n : Nat) (x rest cur : List UInt8) (out : List (List UInt8)) (q : Bool), x.length ≤ n → aut (if q then 1 else 0) x = some 0 → spl q cur out (x ++ rest) = spl false (cur ++ x) out rest := by
  intro n
  induction n with
  | zero =>
    intro x rest cur out q hx h
    obtain rfl : x = [] := List.length_eq_zero_iff.1 (by omega)
    cases q
    · simp
    · simp [aut] at h
  | succ n ih =>
    intro x rest cur out q hx h
    cases x with
    | nil => cases q <;> simp [aut] at h ⊢
    | cons c x =>
      simp only [List.length_cons] at hx
      rw [List.cons_append, spl_cons]
      by_cases c1 : c = 34
      · subst c1
        rw [if_pos rfl, ih x rest _ _ _ (by omega) (by cases q <;> simpa [aut, autS] using h)]
        simp
      · rw [if_neg c1]
        by_cases c2 : c = 92 ∧ q = true
        · obtain ⟨rfl, rfl⟩ := c2
          simp only [and_self, if_true]
          cases x with
          | nil => simp [aut, autS] at h
          | cons d x =>
            simp only [List.length_cons] at hx
            rw [List.cons_append]
            simp only
            rw [ih x rest _ _ true (by omega) (by simpa [aut, autS] using h)]
            simp
        · rw [if_neg c2]
          by_cases c3 : c = 44 ∧ q = false
          · obtain ⟨rfl, rfl⟩ := c3
            simp [aut, autS] at h
          · rw [if_neg c3, ih x rest _ _ q (by omega) ?_]
            · simp
            · cases q
              · have : ¬ c = 44 := fun e => c3 ⟨e, rfl⟩
                simpa [aut, autS, c1, this] using h
              · have : ¬ c = 92 := fun e => c2 ⟨e, rfl⟩
                simpa [aut, autS, c1, this] using h
def goodI (x : List UInt8) : Prop := aut 0 x = some 0 ∧ trim x = x ∧ x ≠ []
theorem aut_rdw (p : List UInt8) : ∀ st, aut st p = some 0 → aut st (rdw blank p) = some 0 := by
  induction p with
  | nil => intro st h; exact h
  | cons a l ih =>
    intro st h
    simp only [aut] at h
    cases h1 : autS st a with
    | none => rw [h1] at h; cases h
    | some st' =>
      rw [h1] at h
      have h2 := ih st' h
      rw [rdw_cons]
      split
      · rename_i h3
        have h3 : rdw blank l = [] := List.isEmpty_iff.1 h3
        rw [h3] at h2
        simp only [aut, Option.some.injEq] at h2
        subst h2
        split
        · rename_i hb
          have hb : a = 32 ∨ a = 9 := by simpa [blank] using hb
          simp only [aut, Option.some.injEq]
          unfold autS at h1
          rcases hb with rfl | rfl
          · by_cases h0 : st = 0
            · exact h0
            · by_cases h4 : st = 1 <;> simp [h0, h4] at h1
          · by_cases h0 : st = 0
            · exact h0
            · by_cases h4 : st = 1 <;> simp [h0, h4] at h1
        · simp only [aut, h1]; rfl
      · simp only [aut, h1]; exact h2
theorem aut_dw (p : List UInt8) (h : aut 0 p = some 0) : aut 0 (dw blank p) = some 0 := by
  induction p with
  | nil => exact h
  | cons a l ih =>
    rw [dw_cons]
    split
    · rename_i hb
      have hb : a = 32 ∨ a = 9 := by simpa [blank] using hb
      apply ih
      rcases hb with rfl | rfl <;> simpa [aut, autS] using h
    · exact h
theorem aut_trim (p : List UInt8) (h : aut 0 p = some 0) : aut 0 (trim p) = some 0 := aut_dw _ (aut_rdw p 0 h)
theorem addPart_good {out : List (List UInt8)} {cur : List UInt8} (h : ∀ x ∈ out, goodI x) (hc : aut 0 cur = some 0) : ∀ x ∈ addPart out cur, goodI x := by
  intro x hx
  unfold addPart at hx
  split at hx
  · exact h x hx
  · rcases List.mem_append.1 hx with hx | hx
    · exact h x hx
    · obtain rfl := List.mem_singleton.1 hx
      exact ⟨aut_trim _ hc, trim_trim _, by assumption⟩
theorem spl_good : ∀ (n : Nat) (r cur : List UInt8) (out : List (List UInt8)) (q : Bool), r.length ≤ n → aut 0 cur = some (if q then 1 else 0) → (∀ x ∈ out, goodI x) →
    (∀ x ∈ (spl q cur out r).2.2, goodI x) ∧ ((spl q cur out r).1 = false → aut 0 (spl q cur out r).2.1 = some 0) := by
  intro n
  induction n with
  | zero =>
    intro r cur out q hr h ho
    obtain rfl : r = [] := List.length_eq_zero_iff.1 (by omega)
    exact ⟨by simpa [spl] using ho, fun hq => by cases q <;> simp_all [spl]⟩
  | succ n ih =>
    intro r cur out q hr h ho
    cases r with
    | nil => exact ⟨by simpa [spl] using ho, fun hq => by cases q <;> simp_all [spl]⟩
    | cons c r =>
      simp only [List.length_cons] at hr
      rw [spl_cons]
      by_cases c1 : c = 34
      · subst c1
        rw [if_pos rfl]
        exact ih r _ _ _ (by omega) (by rw [aut_append, h]; cases q <;> rfl) ho
      · rw [if_neg c1]
        by_cases c2 : c = 92 ∧ q = true
        · obtain ⟨rfl, rfl⟩ := c2
          simp only [and_self, if_true]
          cases r with
          | nil => exact ⟨ho, fun hq => by cases hq⟩
          | cons d r =>
            simp only [List.length_cons] at hr
            exact ih r _ _ _ (by omega) (by rw [aut_append, h]; rfl) ho
        · rw [if_neg c2]
          by_cases c3 : c = 44 ∧ q = false
          · obtain ⟨rfl, rfl⟩ := c3
            simp only [and_self, if_true]
            exact ih r _ _ _ (by omega) rfl (addPart_good ho h)
          · rw [if_neg c3]
            refine ih r _ _ _ (by omega) ?_ ho
            rw [aut_append, h]
            cases q
            · have : ¬ c = 44 := fun e => c3 ⟨e, rfl⟩
              simp [aut, autS, c1, this]
            · have : ¬ c = 92 := fun e => c2 ⟨e, rfl⟩
              simp [aut, autS, c1, this]
theorem splitS_good (s : List UInt8) : ∀ x ∈ (splitS s).1, goodI x := by
  obtain ⟨h1, h2⟩ := spl_good s.length s [] [] false (by omega) rfl (by simp)
  unfold splitS
  simp only
  split
  · simp
  · rename_i h3
    exact addPart_good h1 (h2 (by simpa using h3))
theorem spl_joined (r : List (List UInt8)) : ∀ (x b : List UInt8) (out : List (List UInt8)), (b = [] ∨ b = [32]) → goodI x → (∀ y ∈ r, goodI y) →
    (spl false b out (x ++ Lib.joinTail sep2 r)).1 = false ∧ addPart (spl false b out (x ++ Lib.joinTail sep2 r)).2.2 (spl false b out (x ++ Lib.joinTail sep2 r)).2.1 = out ++ x :: r := by
  have ap : ∀ (x b : List UInt8) (out : List (List UInt8)), (b = [] ∨ b = [32]) → goodI x → addPart out (b ++ x) = out ++ [x] := by
    intro x b out hb hx
    have e : trim (b ++ x) = x := by
      rcases hb with rfl | rfl
      · exact hx.2.1
      · rw [List.singleton_append, trim_cons _ _ rfl, hx.2.1]
    simp only [addPart, e, hx.2.2, if_false]
  induction r with
  | nil =>
    intro x b out hb hx _
    have e : Lib.joinTail sep2 [] = [] := by simp [Lib.joinTail]
    rw [e, spl_pass x.length x [] b out false (by omega) hx.1]
    exact ⟨rfl, ap x b out hb hx⟩
  | cons y r ih =>
    intro x b out hb hx hr
    have e : Lib.joinTail sep2 (y :: r) = 44 :: 32 :: (y ++ Lib.joinTail sep2 r) := by simp [Lib.joinTail, sep2]
    have e2 : spl false b out (x ++ Lib.joinTail sep2 (y :: r)) = spl false [32] (out ++ [x]) (y ++ Lib.joinTail sep2 r) := by
      rw [e, spl_pass x.length x _ b out false (by omega) hx.1, spl_cons, if_neg (by decide), if_neg (by simp), if_pos ⟨rfl, rfl⟩, spl_cons, if_neg (by decide), if_neg (by simp), if_neg (by simp), ap x b out hb hx]
      rfl
    rw [e2]
    obtain ⟨h1, h2⟩ := ih y [32] (out ++ [x]) (.inr rfl) (hr y List.mem_cons_self) fun z hz => hr z (List.mem_cons_of_mem _ hz)
    exact ⟨h1, by rw [h2]; simp⟩
theorem split_join (l : List (List UInt8)) (h : ∀ x ∈ l, goodI x) : splitS (Lib.join l sep2) = (l, 0, ()) := by
  cases l with
  | nil => rfl
  | cons x r =>
    rw [Lib.join_cons]
    obtain ⟨h1, h2⟩ := spl_joined r x [] [] (.inl rfl) (h x List.mem_cons_self) fun z hz => h z (List.mem_cons_of_mem _ hz)
    simp only [splitS, h1, h2, Bool.false_eq_true, if_false, List.nil_append]
theorem splitS_one (x : List UInt8) (h : goodI x) : splitS x = ([x], 0, ()) := by
  have := split_join [x] (by simpa using h)
  rwa [Lib.join_one] at this
theorem aut_quoteIn (s : List UInt8) : aut 1 (quoteIn s) = some 1 := by
  induction s with
  | nil => rfl
  | cons a s ih =>
    simp only [quoteIn, aut_append]
    by_cases h : a = 34 ∨ a = 92
    · rw [if_pos h]
      exact ih
    · rw [if_neg h]
      have h1 : ¬ a = 34 := fun e => h (.inl e)
      have h2 : ¬ a = 92 := fun e => h (.inr e)
      simp [aut, autS, h1, h2, ih]
theorem dw_hd (p : UInt8 → Bool) (a : UInt8) (l : List UInt8) (h : p a = false) : dw p (a :: l) = a :: l := by rw [dw_cons, h]; simp
theorem goodI_quoteL (s : List UInt8) : goodI (quoteL s) := by
  refine ⟨?_, ?_, by simp [quoteL]⟩
  · have : aut 0 (quoteL s) = (aut 1 (quoteIn s)).bind fun st => aut st [34] := by rw [← aut_append]; rfl
    rw [this, aut_quoteIn]; rfl
  · have e : rdw blank (quoteL s) = quoteL s := by
      have e1 : quoteL s = (34 :: quoteIn s) ++ [34] := by simp [quoteL]
      rw [e1, rdw_snoc, if_neg (by decide)]
    rw [trim, e, quoteL, dw_hd _ _ _ rfl]
theorem tok_facts : (List.range 256).all (fun n => !tok (UInt8.ofNat n) || (!(UInt8.ofNat n == 34) && !(UInt8.ofNat n == 44) && !(UInt8.ofNat n == 61) && !blank (UInt8.ofNat n))) = true := by kernel_rfl
theorem tok_not {b : UInt8} (h : tok b = true) : b ≠ 34 ∧ b ≠ 44 ∧ b ≠ 61 ∧ blank b = false := by
  have := forall_byte (p := fun b => !tok b || (!(b == 34) && !(b == 44) && !(b == 61) && !blank b)) tok_facts b
  simp only [h, Bool.not_true, Bool.false_or, Bool.and_eq_true, Bool.not_eq_true'] at this
  exact ⟨by simpa using this.1.1.1, by simpa using this.1.1.2, by simpa using this.1.2, this.2⟩
theorem aut_toks (s : List UInt8) (h : s.all tok = true) : aut 0 s = some 0 := by
  induction s with
  | nil => rfl
  | cons a s ih =>
    simp only [List.all_cons, Bool.and_eq_true] at h
    obtain ⟨h1, h2, _⟩ := tok_not h.1
    simp [aut, autS, h1, h2, ih h.2]
theorem trim_toks (s : List UInt8) (h : s.all tok = true) : trim s = s := by
  have hr : ∀ s : List UInt8, s.all tok = true → rdw blank s = s := by
    intro s
    induction s with
    | nil => intro _; rfl
    | cons a s ih =>
      intro h
      simp only [List.all_cons, Bool.and_eq_true] at h
      obtain ⟨_, _, _, h3⟩ := tok_not h.1
      rw [rdw_cons, ih h.2]
      cases s with
      | nil => simp [h3]
      | cons b s => simp
  rw [trim, hr s h]
  cases s with
  | nil => rfl
  | cons a s =>
    simp only [List.all_cons, Bool.and_eq_true] at h
    exact dw_hd _ _ _ (tok_not h.1).2.2.2
theorem goodI_tok {s : List UInt8} (h : isTok s = true) : goodI s := by
  simp only [isTok, Bool.and_eq_true, Bool.not_eq_true'] at h
  exact ⟨aut_toks s h.2, trim_toks s h.2, by intro e; subst e; simp at h⟩
theorem cutAt_append (a b : List UInt8) (c : UInt8) (h : a.contains c = false) : cutAt (a ++ c :: b) c = (a, b, true, ()) := by
  have h1 : (a ++ c :: b).contains c = true := by simp
  have h2 : (a ++ c :: b).takeWhile (· != c) = a := by
    induction a with
    | nil => simp
    | cons x a ih =>
      have h3 : ¬ x = c := fun e => by subst e; simp at h
      have h4 : a.contains c = false := by simp at h ⊢; exact h.2
      simp [h3]; simpa using ih h4 (by simp)
  have h3 : (a ++ c :: b).dropWhile (· != c) = c :: b := by
    have := List.takeWhile_append_dropWhile (p := (· != c)) (l := a ++ c :: b)
    rw [h2] at this
    exact List.append_cancel_left this
  unfold cutAt
  rw [if_pos h1, h2, h3]; rfl
theorem not_contains_tok {s : List UInt8} (h : s.all tok = true) : s.contains 61 = false := by
  induction s with
  | nil => rfl
  | cons a s ih =>
    simp only [List.all_cons, Bool.and_eq_true] at h
    have h1 := (tok_not h.1).2.2.1
    have h2 : ¬ (61 : UInt8) = a := fun e => h1 e.symm
    have := ih h.2
    simp at this ⊢
    exact ⟨h2, this⟩
end Go.Proofs.X

