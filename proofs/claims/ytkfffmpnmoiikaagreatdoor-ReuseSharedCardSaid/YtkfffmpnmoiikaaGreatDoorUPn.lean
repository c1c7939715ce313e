/-
  A part of the proof. No condition.
-/
import Derived.Test.YtkfffmpnmoiikaaGreatDoorUP4
import Derived.Test.YtkfffmpnmoiikaaGreatDoorUL1
/- Chapter 15 (vary): blanks side by side, counts in a map, each name once, in order. No program in sight. -/
set_option linter.unusedSimpArgs false
set_option linter.unusedVariables false
namespace Go.Proofs.X
open Go Go.Dp
/-! What ReplaceAll does, byte by byte. -/
/-! Blanks side by side. -/
/-! Counts in a map. -/
theorem wek {ν : Type} (k j : List UInt8) (v : ν) : ∀ l : List (List UInt8 × ν), mfind (eqv .str) (mput (eqv .str) l k v) j = if j = k then some v else mfind (eqv .str) l j := by
  intro l
  induction l with
  | nil =>
    by_cases h : j = k
    · subst h; simp [mput, mfind, eqv]
    · have h' : (j == k) = false := by simpa using h
      simp [mput, mfind, eqv, h, h']
  | cons p l ih =>
    obtain ⟨a, b⟩ := p
    by_cases h1 : k = a
    · subst h1
      have e : eqv Ty.str k k = true := by simp [eqv]
      simp only [mput, e, cond_true, mfind]
      by_cases h : j = k
      · subst h; simp [e]
      · have e2 : eqv Ty.str j k = false := by simp [eqv, h]
        simp [e2, h]
    · have e : eqv Ty.str k a = false := by simp [eqv, h1]
      simp only [mput, e, cond_false, mfind, ih]
      by_cases h : j = a
      · subst h
        have e2 : eqv Ty.str j j = true := by simp [eqv]
        simp [e2, Ne.symm h1]
      · have e2 : eqv Ty.str j a = false := by simp [eqv, h]
        simp [e2]
def cntP (m : List (List UInt8 × Int)) (k : List UInt8) : Int := Option.getD (mfind (eqv .str) m k) 0
def mstep (m : List (List UInt8 × Int)) (s : List UInt8) : List (List UInt8 × Int) := mput (eqv .str) m s (IntKind.wrap .i64 (cntP m s + 1))
def mp (P : List (List UInt8)) : List (List UInt8 × Int) := P.foldl mstep []
theorem wfT (P : List (List UInt8)) (s : List UInt8) : mp (P ++ [s]) = mstep (mp P) s := by simp [mp]
theorem whh : ∀ (n : Nat) (P : List (List UInt8)) (k : List UInt8), P.length = n → n < 9223372036854775807 → cntP (mp P) k = (P.count k : Int) := by
  intro n
  induction n with
  | zero => intro P k h _; obtain rfl := List.eq_nil_of_length_eq_zero h; rfl
  | succ n ih =>
    intro P k h hb
    have hne : P ≠ [] := by intro e; subst e; simp at h
    obtain ⟨Q, s, rfl⟩ : ∃ Q s, P = Q ++ [s] := ⟨P.dropLast, P.getLast hne, (List.dropLast_concat_getLast hne).symm⟩
    have hQ : Q.length = n := by simpa using h
    have h1 := ih Q k hQ (by omega)
    have h2 := ih Q s hQ (by omega)
    rw [wfT, cntP, mstep, wek]
    by_cases hk : k = s
    · subst hk
      have hc := List.count_le_length (a := k) (l := Q)
      rw [if_pos rfl, h2, wrapSucc (by omega)]
      simp
    · rw [if_neg hk]
      have : (Q ++ [s]).count k = Q.count k := by simp [Ne.symm hk]
      rw [this]
      exact h1
def addT (out : List (List UInt8)) (s : List UInt8) : List (List UInt8) := if s ∈ out then out else out ++ [s]
def dd (P : List (List UInt8)) : List (List UInt8) := P.foldl addT []
theorem wf5 (P : List (List UInt8)) (s : List UInt8) : dd (P ++ [s]) = addT (dd P) s := by simp [dd]
theorem wfH (k : List UInt8) : ∀ (P o : List (List UInt8)), k ∈ P.foldl addT o ↔ k ∈ o ∨ k ∈ P := by
  intro P
  induction P with
  | nil => intro o; simp
  | cons s P ih =>
    intro o
    rw [List.foldl_cons, ih]
    unfold addT
    split <;> rename_i h
    · constructor
      · rintro (h1 | h1)
        · exact .inl h1
        · exact .inr (List.mem_cons_of_mem _ h1)
      · rintro (h1 | h1)
        · exact .inl h1
        · rcases List.mem_cons.1 h1 with rfl | h1
          · exact .inl h
          · exact .inr h1
    · simp only [List.mem_append, List.mem_cons, List.not_mem_nil, or_false]
      constructor
      · rintro ((h1 | h1) | h1)
        · exact .inl h1
        · exact .inr (.inl h1)
        · exact .inr (.inr h1)
      · rintro (h1 | h1 | h1)
        · exact .inl (.inl h1)
        · exact .inl (.inr h1)
        · exact .inr h1
theorem wgE (P : List (List UInt8)) (k : List UInt8) : k ∈ dd P ↔ k ∈ P := by
  have := wfH k P []
  simpa [dd] using this
theorem wfF : ∀ (P o : List (List UInt8)), (P.foldl addT o).length ≤ o.length + P.length := by
  intro P
  induction P with
  | nil => intro o; simp
  | cons s P ih =>
    intro o
    have := ih (addT o s)
    have h2 : (addT o s).length ≤ o.length + 1 := by unfold addT; split <;> simp
    simp only [List.foldl_cons, List.length_cons]
    omega
theorem wgC (P : List (List UInt8)) : (dd P).length ≤ P.length := by
  have := wfF P []
  simpa [dd] using this
/-! In order. -/
def srt (l : List (List UInt8)) : List (List UInt8) := l.mergeSort fun x y => decide (x ≤ y)
def ord (P : List (List UInt8)) : List (List UInt8) := srt (dd P)
end Go.Proofs.X
