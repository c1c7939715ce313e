/-
  A part of the proof. No condition.
-/
import Derived.Test.YtohbjikggmkkhaaGreatDoorUP4
/- Law 36 (ScriptQuotes): that the printed law holds. No condition. -/
set_option linter.unusedSimpArgs false
set_option linter.unusedVariables false
namespace Go.Proofs.X
open Go Go.Dp

abbrev Rq := List UInt8 × Int × Int × Unit
/-- What both loops come to. -/
theorem unq_loops (s : List UInt8) (hs : s.length ≤ 2000) : ∀ (n i : Nat) (t : List UInt8), i ≤ s.length → s.length - i < n → t.length ≤ i →
    ∃ r : Rq, (script_Unquote.l0 5000 n ((s, ((), ((i : Int), ()))), (intsOf t, ())) = some (.inr (r, (intsOf (r.1), ()))) ∧ depotref36_Unquote.l0 5000 n ((s, (t, ((i : Int), ()))), ()) = some (.inr (r, ()))) ∨
      (∃ xs, script_Unquote.l0 5000 n ((s, ((), ((i : Int), ()))), (intsOf t, ())) = some (.inl ((), (xs, ())))) ∧ (depotref36_Unquote.l0 5000 n ((s, (t, ((i : Int), ()))), ()) = some (.inr (([], (0, (40, ()))), ())) ∨ depotref36_Unquote.l0 5000 n ((s, (t, ((i : Int), ()))), ()) = some (.inl ((), ()))) := by
  intro n
  induction n with
  | zero => intro i t _ h; omega
  | succ n ih =>
    intro i t hi hn ht
    have u1 : ∀ x, script_Unquote.l0 5000 (n + 1) x = script_Unquote.t0 5000 (script_Unquote.l0 5000 n) x := fun _ => rfl
    have u2 : ∀ x, depotref36_Unquote.l0 5000 (n + 1) x = depotref36_Unquote.t0 5000 (depotref36_Unquote.l0 5000 n) x := fun _ => rfl
    rw [u1, u2]
    by_cases h : i < s.length
    · rw [unq_step s t i _ hs (by omega) h, refunq_step s t i _ hs (by omega) h]
      by_cases c : s.getD i 0 = 34
      · rw [if_pos c, if_pos c]
        exact ⟨(t, (((i + 1 : Nat) : Int), (0, ()))), .inl ⟨rfl, rfl⟩⟩
      rw [if_neg c, if_neg c]
      rcases esc_cases s i h with hz | ⟨k, b, he, hk, hle, hk4⟩
      · rw [if_pos hz, if_pos hz]
        exact ⟨([], (0, (0, ()))), .inr ⟨⟨_, rfl⟩, .inl rfl⟩⟩
      · rw [he]
        have hne : ¬ ((k : Int) = 0) := by omega
        have hw : IntKind.wrap .i64 ((i : Int) + (k : Int)) = ((i + k : Nat) : Int) := wrapAdd k (by omega)
        simp only [hne, if_false, hw, ofNat_toNat']
        have := ih (i + k) (t ++ [b]) hle (by omega) (by rw [List.length_append]; simp; omega)
        rw [intsOf_app] at this
        exact this
    · obtain rfl : i = s.length := by omega
      refine ⟨([], (0, (0, ()))), .inr ⟨⟨intsOf t, ?_⟩, .inr ?_⟩⟩
      · simp [script_Unquote.t0]
      · simp [depotref36_Unquote.t0]

theorem unquote_same (s : List UInt8) (hs : s.length ≤ 2000) : ∃ r : Rq, script_Unquote 5000 s = some r ∧ depotref36_Unquote 5000 s = some r := by
  have k0 : Int.toNat 0 = 0 := rfl
  by_cases h0 : s = []
  · subst h0
    exact ⟨([], (0, (40, ()))), rfl, rfl⟩
  have hp : 0 < s.length := List.length_pos_iff.2 h0
  have hpI : (0 : Int) < (s.length : Int) := by omega
  have hbeq : (s == ([] : List UInt8)) = false := by simp [h0]
  have hl0 : ¬ ((s.length : Int) = 0) := by omega
  have hie : s.isEmpty = false := by cases s <;> simp_all
  by_cases c : s.getD 0 0 = 34
  · obtain ⟨r, h | ⟨⟨xs, h1⟩, h2⟩⟩ := unq_loops s hs 5000 1 [] (by omega) (by omega) (by simp)
    · obtain ⟨h1, h2⟩ := h
      have h1 : script_Unquote.l0 5000 5000 ((s, ((), (1, ()))), ([], ())) = some (.inr (r, (intsOf r.1, ()))) := h1
      have h2 : depotref36_Unquote.l0 5000 5000 ((s, ([], (1, ()))), ()) = some (.inr (r, ())) := h2
      refine ⟨r, ?_, ?_⟩
      · simp [-List.getD_eq_getElem?_getD, script_Unquote, script_Unquote.tr, k0, byte34, c, hp, hpI, h0, hie, h1]
      · simp [-List.getD_eq_getElem?_getD, depotref36_Unquote, depotref36_Unquote.tr, k0, byte34, c, hp, hpI, h0, hl0, h2]
    · have h1 : script_Unquote.l0 5000 5000 ((s, ((), (1, ()))), ([], ())) = some (.inl ((), (xs, ()))) := h1
      refine ⟨([], (0, (40, ()))), ?_, ?_⟩
      · simp [-List.getD_eq_getElem?_getD, script_Unquote, script_Unquote.tr, k0, byte34, c, hp, hpI, h0, hie, h1]
      · rcases h2 with h2 | h2
        · have h2 : depotref36_Unquote.l0 5000 5000 ((s, ([], (1, ()))), ()) = some (.inr (([], (0, (40, ()))), ())) := h2
          simp [-List.getD_eq_getElem?_getD, depotref36_Unquote, depotref36_Unquote.tr, k0, byte34, c, hp, hpI, h0, hl0, h2]
        · have h2 : depotref36_Unquote.l0 5000 5000 ((s, ([], (1, ()))), ()) = some (.inl ((), ())) := h2
          simp [-List.getD_eq_getElem?_getD, depotref36_Unquote, depotref36_Unquote.tr, k0, byte34, c, hp, hpI, h0, hl0, h2]
  · refine ⟨([], (0, (40, ()))), ?_, ?_⟩
    · simp [-List.getD_eq_getElem?_getD, script_Unquote, script_Unquote.tr, k0, byte34, c, hp, hpI, h0, hie]
    · simp [-List.getD_eq_getElem?_getD, depotref36_Unquote, depotref36_Unquote.tr, k0, byte34, c, hp, hpI, h0, hl0]

theorem scriptQuotes (a0 : List UInt8) : ∃ k, depotlaw36_ScriptQuotes k a0 = some true := by
  refine ⟨5000, ?_⟩
  unfold depotlaw36_ScriptQuotes
  by_cases h : a0.length ≤ 2000
  · have h' : ¬ ((a0.length : Int) > 2000) := by omega
    obtain ⟨r, h1, h2⟩ := unquote_same a0 h
    simp [h', h1, h2, quote_pure a0 h, refquote_pure a0 h, textsC]
  · have h' : (a0.length : Int) > 2000 := by omega
    simp [h', textsC]
end Go.Proofs.X

