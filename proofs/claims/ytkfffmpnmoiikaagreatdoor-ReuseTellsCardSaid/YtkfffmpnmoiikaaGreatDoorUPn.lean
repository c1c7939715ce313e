/-
  A part of the proof. No condition.
-/
import Derived.Test.YtkfffmpnmoiikaaGreatDoorUP4
import Derived.Test.YtkfffmpnmoiikaaGreatDoorUL1
/- Chapter 15 (vary): blanks side by side, counts in a map, each name once, in order. No program in sight. -/
set_option linter.unusedSimpArgs false
set_option linter.unusedVariables false
namespace Go.Proofs.X
open Go Go.Dp
/-! What ReplaceAll does, byte by byte. -/
/-! Blanks side by side. -/
/-! Counts in a map. -/
theorem wfb {ν : Type} (k j : List UInt8) (v : ν) : ∀ l : List (List UInt8 × ν), mfind (eqv .str) (mput (eqv .str) l k v) j = if j = k then some v else mfind (eqv .str) l j := by
  intro l
  induction l with
  | nil =>
    by_cases h : j = k
    · subst h; simp [mput, mfind, eqv]
    · have h' : (j == k) = false := by simpa using h
      simp [mput, mfind, eqv, h, h']
  | cons p l ih =>
    obtain ⟨a, b⟩ := p
    by_cases h1 : k = a
    · subst h1
      have e : eqv Ty.str k k = true := by simp [eqv]
      simp only [mput, e, cond_true, mfind]
      by_cases h : j = k
      · subst h; simp [e]
      · have e2 : eqv Ty.str j k = false := by simp [eqv, h]
        simp [e2, h]
    · have e : eqv Ty.str k a = false := by simp [eqv, h1]
      simp only [mput, e, cond_false, mfind, ih]
      by_cases h : j = a
      · subst h
        have e2 : eqv Ty.str j j = true := by simp [eqv]
        simp [e2, Ne.symm h1]
      · have e2 : eqv Ty.str j a = false := by simp [eqv, h]
        simp [e2]
def cntP (m : List (List UInt8 × Int)) (k : List UInt8) : Int := Option.getD (mfind (eqv .str) m k) 0
def mstep (m : List (List UInt8 × Int)) (s : List UInt8) : List (List UInt8 × Int) := mput (eqv .str) m s (IntKind.wrap .i64 (cntP m s + 1))
def mp (P : List (List UInt8)) : List (List UInt8 × Int) := P.foldl mstep []
theorem wg6 (P : List (List UInt8)) (s : List UInt8) : mp (P ++ [s]) = mstep (mp P) s := by simp [mp]
theorem wiN : ∀ (n : Nat) (P : List (List UInt8)) (k : List UInt8), P.length = n → n < 9223372036854775807 → cntP (mp P) k = (P.count k : Int) := by
  intro n
  induction n with
  | zero => intro P k h _; obtain rfl := List.eq_nil_of_length_eq_zero h; rfl
  | succ n ih =>
    intro P k h hb
    have hne : P ≠ [] := by intro e; subst e; simp at h
    obtain ⟨Q, s, rfl⟩ : ∃ Q s, P = Q ++ [s] := ⟨P.dropLast, P.getLast hne, (List.dropLast_concat_getLast hne).symm⟩
    have hQ : Q.length = n := by simpa using h
    have h1 := ih Q k hQ (by omega)
    have h2 := ih Q s hQ (by omega)
    rw [wg6, cntP, mstep, wfb]
    by_cases hk : k = s
    · subst hk
      have hc := List.count_le_length (a := k) (l := Q)
      rw [if_pos rfl, h2, wrapSucc (by omega)]
      simp
    · rw [if_neg hk]
      have : (Q ++ [s]).count k = Q.count k := by simp [Ne.symm hk]
      rw [this]
      exact h1
def addT (out : List (List UInt8)) (s : List UInt8) : List (List UInt8) := if s ∈ out then out else out ++ [s]
def dd (P : List (List UInt8)) : List (List UInt8) := P.foldl addT []
theorem whA (P : List (List UInt8)) (s : List UInt8) : dd (P ++ [s]) = addT (dd P) s := by simp [dd]
theorem wg3 (k : List UInt8) : ∀ (P o : List (List UInt8)), k ∈ P.foldl addT o ↔ k ∈ o ∨ k ∈ P := by
  intro P
  induction P with
  | nil => intro o; simp
  | cons s P ih =>
    intro o
    rw [List.foldl_cons, ih]
    unfold addT
    split <;> rename_i h
    · constructor
      · rintro (h1 | h1)
        · exact .inl h1
        · exact .inr (List.mem_cons_of_mem _ h1)
      · rintro (h1 | h1)
        · exact .inl h1
        · rcases List.mem_cons.1 h1 with rfl | h1
          · exact .inl h
          · exact .inr h1
    · simp only [List.mem_append, List.mem_cons, List.not_mem_nil, or_false]
      constructor
      · rintro ((h1 | h1) | h1)
        · exact .inl h1
        · exact .inr (.inl h1)
        · exact .inr (.inr h1)
      · rintro (h1 | h1 | h1)
        · exact .inl (.inl h1)
        · exact .inl (.inr h1)
        · exact .inr h1
theorem whz (P : List (List UInt8)) (k : List UInt8) : k ∈ dd P ↔ k ∈ P := by
  have := wg3 k P []
  simpa [dd] using this
theorem wfw : ∀ (P o : List (List UInt8)), o.Nodup → (P.foldl addT o).Nodup := by
  intro P
  induction P with
  | nil => intro o h; exact h
  | cons s P ih =>
    intro o h
    rw [List.foldl_cons]
    refine ih _ ?_
    unfold addT
    split
    · exact h
    · rename_i hs
      rw [List.nodup_append]
      refine ⟨h, by simp, fun a ha b hb => ?_⟩
      simp only [List.mem_singleton] at hb
      subst hb
      exact fun e => hs (e ▸ ha)
theorem wh2 (P : List (List UInt8)) : (dd P).Nodup := wfw P [] List.nodup_nil
theorem wgZ : ∀ (P o : List (List UInt8)), (P.foldl addT o).length ≤ o.length + P.length := by
  intro P
  induction P with
  | nil => intro o; simp
  | cons s P ih =>
    intro o
    have := ih (addT o s)
    have h2 : (addT o s).length ≤ o.length + 1 := by unfold addT; split <;> simp
    simp only [List.foldl_cons, List.length_cons]
    omega
theorem whi (P : List (List UInt8)) : (dd P).length ≤ P.length := by
  have := wgZ P []
  simpa [dd] using this
/-! In order. -/
theorem wgH : ∀ (x y : List UInt8), Op.bytesLess x y = decide (x < y)
  | [], [] => by simp [Op.bytesLess]
  | _ :: _, [] => by simp [Op.bytesLess]
  | [], _ :: _ => by simp [Op.bytesLess]
  | a :: x, b :: y => by
    rw [Op.bytesLess, wgH x y]
    simp only [List.cons_lt_cons_iff]
    by_cases h1 : a < b <;> by_cases h2 : a = b <;> by_cases h3 : x < y <;> simp [h1, h2, h3]
def srt (l : List (List UInt8)) : List (List UInt8) := l.mergeSort fun x y => decide (x ≤ y)
theorem wix (l : List (List UInt8)) (k : List UInt8) : k ∈ srt l ↔ k ∈ l := (List.mergeSort_perm l _).mem_iff
theorem wie (l : List (List UInt8)) : (srt l).length = l.length := List.length_mergeSort _
theorem wh4 {l : List (List UInt8)} (h : l.Nodup) : (srt l).Pairwise (· < ·) := by
  have h1 : (srt l).Pairwise (fun x y => decide (x ≤ y) = true) := List.pairwise_mergeSort (fun a b c h1 h2 => by simp only [decide_eq_true_eq] at *; exact List.le_trans h1 h2) (fun a b => by simp only [Bool.or_eq_true, decide_eq_true_eq]; exact List.le_total a b) l
  have h2 : (srt l).Nodup := (List.mergeSort_perm l _).nodup_iff.2 h
  have h3 : (srt l).Pairwise (· ≠ ·) := h2
  refine (h1.and h3).imp ?_
  rintro a b ⟨h4, h5⟩
  have h4 : a ≤ b := by simpa using h4
  rcases List.le_iff_lt_or_eq.1 h4 with h6 | h6
  · exact h6
  · exact absurd h6 h5
theorem wgs : ∀ (a b : List (List UInt8)), a.Pairwise (· < ·) → b.Pairwise (· < ·) → (∀ k, k ∈ a ↔ k ∈ b) → a = b := by
  intro a
  induction a with
  | nil =>
    intro b _ _ h
    cases b with
    | nil => rfl
    | cons y b => exact absurd ((h y).2 (by simp)) (by simp)
  | cons x a ih =>
    intro b ha hb h
    cases b with
    | nil => exact absurd ((h x).1 (by simp)) (by simp)
    | cons y b =>
      rw [List.pairwise_cons] at ha hb
      have hxy : x = y := by
        have h1 := (h x).1 (by simp)
        have h2 := (h y).2 (by simp)
        rcases List.mem_cons.1 h1 with h1 | h1
        · exact h1
        · rcases List.mem_cons.1 h2 with h2 | h2
          · exact h2.symm
          · exact absurd (List.lt_trans (ha.1 _ h2) (hb.1 _ h1)) (List.lt_irrefl _)
      subst hxy
      congr 1
      refine ih b ha.2 hb.2 fun k => ?_
      have hk := h k
      simp only [List.mem_cons] at hk
      constructor
      · intro h1
        rcases hk.1 (.inr h1) with rfl | h2
        · exact absurd (ha.1 _ h1) (List.lt_irrefl _)
        · exact h2
      · intro h1
        rcases hk.2 (.inr h1) with rfl | h2
        · exact absurd (hb.1 _ h1) (List.lt_irrefl _)
        · exact h2
def ord (P : List (List UInt8)) : List (List UInt8) := srt (dd P)
theorem wf9 (P : List (List UInt8)) (k : List UInt8) : k ∈ ord P ↔ k ∈ P := (wix _ _).trans (whz _ _)
theorem wgE (P : List (List UInt8)) : (ord P).Pairwise (· < ·) := wh4 (wh2 P)
theorem wim (P : List (List UInt8)) : (ord P).length ≤ P.length := by rw [ord, wie]; exact whi P
end Go.Proofs.X
