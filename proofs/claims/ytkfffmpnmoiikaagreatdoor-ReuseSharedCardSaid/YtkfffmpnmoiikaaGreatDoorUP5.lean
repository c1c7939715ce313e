/-
  A part of the proof. No condition.
-/
import Derived.Test.YtkfffmpnmoiikaaGreatDoorUP4
/- Chapter 06: Quote, Unquote and Param, the program's and the document's; what is split and joined. No condition but on sizes. -/
set_option linter.unusedSimpArgs false
set_option linter.unusedVariables false
namespace Go.Proofs.X
open Go Go.Dp
theorem wdv {K : Nat} {s : List UInt8} (hs : s.length ≤ 1000000000) : items_Unquote K s = some (unquoteL s) := by
  simp only [items_Unquote, unquoteF, hs, za', zb', zc', zd', ze', zf', zg', zh', zi', zj', zk', zl', zm', zn', zo', zp', zq', zr', zs', zt']
def paramS (s : List UInt8) : List UInt8 × List UInt8 × Bool × Int × Unit :=
  if isTok (cutAt s 61).1 = false then ([], [], false, 5, ())
  else if (cutAt s 61).2.2.1 = true ∧ isTok (cutAt s 61).2.1 = false then
    (if (unquoteL (cutAt s 61).2.1).2.1 = 0 then (lower (cutAt s 61).1, (unquoteL (cutAt s 61).2.1).1, true, 0, ()) else ([], [], false, (unquoteL (cutAt s 61).2.1).2.1, ()))
  else (lower (cutAt s 61).1, (cutAt s 61).2.1, (cutAt s 61).2.2.1, 0, ())
theorem wej {K : Nat} {s : List UInt8} (hs : s.length < 1000000) (hK : 1000000 + 100 ≤ K) : wcM K s = some (paramS s) := by
  obtain ⟨h1, h2⟩ := wem s 61
  have hc : wc0 K s 61 = some (cutAt s 61) := weU (K := K) (s := s) 61 (by omega)
  simp only [wcM, hc, za', zb', zc', zd', ze', zf', zg', zh', zi', zj', zk', zl', zm', zn', zo', zp', zq', zr', zs', zt', wde (K := K) (s := (cutAt s 61).1) (by omega) (by omega), wde (K := K) (s := (cutAt s 61).2.1) (by omega) (by omega), wc4 (K := K) (s := (cutAt s 61).1) (by omega) (by omega), wdv (K := K) (s := (cutAt s 61).2.1) (by omega), paramS]
  cases c1 : isTok (cutAt s 61).1
  · simp only [za', zb', zc', zd', ze', zf', zg', zh', zi', zj', zk', zl', zm', zn', zo', zp', zq', zr', zs', zt']
  · cases c2 : (cutAt s 61).2.2.1
    · simp only [za', zb', zc', zd', ze', zf', zg', zh', zi', zj', zk', zl', zm', zn', zo', zp', zq', zr', zs', zt', wc4 (K := K) (s := (cutAt s 61).1) (by omega) (by omega), false_and, Bool.true_eq_false]
    · cases c3 : isTok (cutAt s 61).2.1
      · by_cases c4 : (unquoteL (cutAt s 61).2.1).2.1 = 0 <;> simp only [za', zb', zc', zd', ze', zf', zg', zh', zi', zj', zk', zl', zm', zn', zo', zp', zq', zr', zs', zt', c4, and_self, Bool.true_eq_false, wc4 (K := K) (s := (cutAt s 61).1) (by omega) (by omega), wdv (K := K) (s := (cutAt s 61).2.1) (by omega)]
      · simp only [za', zb', zc', zd', ze', zf', zg', zh', zi', zj', zk', zl', zm', zn', zo', zp', zq', zr', zs', zt', wc4 (K := K) (s := (cutAt s 61).1) (by omega) (by omega), Bool.true_eq_false, and_false]
theorem wfC (s : List UInt8) : (paramS s).1.length ≤ s.length ∧ (paramS s).2.1.length ≤ s.length := by
  obtain ⟨h1, h2⟩ := wem s 61
  have h3 : (unquoteL (cutAt s 61).2.1).1.length ≤ (cutAt s 61).2.1.length := by
    have hu : ∀ (n : Nat) (l t : List UInt8), l.length ≤ n → unq l = some t → t.length ≤ l.length := by
      intro n
      induction n with
      | zero => intro l t hl h; obtain rfl : l = [] := List.length_eq_zero_iff.1 (by omega); simp only [unq, Option.some.injEq] at h; subst h; simp
      | succ n ih =>
        intro l t hl h
        match l, h with
        | [], h => simp only [unq, Option.some.injEq] at h; subst h; simp
        | [a], h => simp only [unq] at h; split at h <;> simp at h; subst h; simp
        | a :: b :: r, h =>
          simp only [List.length_cons] at hl
          simp only [unq] at h
          split at h
          · cases h
          · split at h
            · obtain ⟨u, h4, rfl⟩ := Option.map_eq_some_iff.1 h
              have := ih r u (by omega) h4
              simp; omega
            · obtain ⟨u, h4, rfl⟩ := Option.map_eq_some_iff.1 h
              have := ih (b :: r) u (by simp; omega) h4
              simp at this ⊢; omega
    generalize (cutAt s 61).2.1 = v
    unfold unquoteL
    split
    · simp
    · split
      · simp
      · rename_i t h
        have := hu _ _ _ (Nat.le_refl _) h
        simp at this ⊢
        omega
  unfold paramS
  split
  · simp
  · split
    · split
      · simp; omega
      · simp
    · simp; omega
/-! What is quoted. -/
end Go.Proofs.X
