/-
  A part of the proof. No condition.
-/
import Derived.Test.YtkfffmpnmoiikaaGreatDoorOP5
/- Chapter 14 (etag): texts, lists and matches. No condition but on sizes. -/
set_option linter.unusedSimpArgs false
set_option linter.unusedVariables false
namespace Go.Proofs.X
open Go Go.Dp
def txtT (t : Tg) : List UInt8 := if t.1 then [87, 47] ++ ([34] ++ t.2.1 ++ [34]) else [34] ++ t.2.1 ++ [34]
theorem wek (K : Nat) {t : Tg} (h : t.2.1.length ≤ 1000000) : wb7 K t = some (txtT t) := by
  have h1 : 1 + t.2.1.length ≤ maxRoom := by simp only [maxRoom]; omega
  have h2 : ([34] ++ t.2.1).length + 1 ≤ maxRoom := by simp [maxRoom]; omega
  have h3 : 2 + ([34] ++ t.2.1 ++ [34]).length ≤ maxRoom := by simp [maxRoom]; omega
  simp only [wb7, h1, h2, h3, za', zb', zc', zd', ze', zf', zg', zh', zi', zj', zk', zl', zm', zn', zo', zp', zq', zr', zs', zt', txtT]
  cases t.1 <;> rfl
theorem wdR (K : Nat) {t : Tg} (h : t.2.1.length ≤ 1000000) : wbH K t = some (txtT t) := by
  have h1 : 1 + t.2.1.length ≤ maxRoom := by simp only [maxRoom]; omega
  have h2 : ([34] ++ t.2.1).length + 1 ≤ maxRoom := by simp [maxRoom]; omega
  have h3 : 3 + t.2.1.length ≤ maxRoom := by simp only [maxRoom]; omega
  have h4 : ([87, 47, 34] ++ t.2.1).length + 1 ≤ maxRoom := by simp [maxRoom]; omega
  simp only [wbH, h1, h2, h3, h4, za', zb', zc', zd', ze', zf', zg', zh', zi', zj', zk', zl', zm', zn', zo', zp', zq', zr', zs', zt', txtT]
  cases t.1 <;> rfl
def weakT (a b : Tg) : Bool := a.2.1 == b.2.1
theorem wen (K : Nat) (a b : Tg) : wb6 K a b = some (weakT a b) := by
  simp only [wb6, wb1, za', zb', zc', zd', ze', zf', zg', zh', zi', zj', zk', zl', zm', zn', zo', zp', zq', zr', zs', zt', weakT, beq_self_eq_true]
theorem wd1 (K : Nat) (a b : Tg) : wbx K a b = some (weakT a b) := rfl
def addT (out : List Tg) (cur : List UInt8) : Option (List Tg) := if trim cur = [] then some out else if (parT (trim cur)).2.1 = true then some (out ++ [(parT (trim cur)).1]) else none
def qT (q : Bool) (b : UInt8) : Bool := if b = 34 then !q else q
def tlS : List UInt8 → Bool → List UInt8 → List Tg → Option (List Tg)
  | [], _, cur, out => addT out cur
  | b :: r, q, cur, out => if b = 44 ∧ q = false then (match addT out cur with | some o => tlS r q [] o | none => none) else tlS r (qT q b) (cur ++ [b]) out
abbrev LR := List Tg × Bool × Int × Unit
def lisT (s : List UInt8) : LR := if trim s = [42] then ([], true, 0, ()) else match tlS s false [] [] with | some o => if o.length = 0 then ([], false, 5, ()) else (o, false, 0, ()) | none => ([], false, 5, ())
abbrev LX := ((Unit × Unit) × List Tg × List Tg × Unit) ⊕ ((Unit × Bool × Int × Unit) × List Tg × List Tg × Tg × List Tg × Unit)
def resT (F : Option (List Tg)) (r : LX) : Prop := match F with | some o => r = .inl (((), ()), ([], (o, ()))) | none => ∃ o t, r = .inr (((), (false, (5, ()))), ([], (o, (t, ([], ())))))
theorem wdn (s : List UInt8) : (trim s).length ≤ s.length := by
  have h1 := length_dw blank (rdw blank s)
  have h2 := length_rdw blank s
  unfold trim; omega
theorem wd7 (s : List UInt8) {i : Nat} (h : i < s.length) : s.drop i = s.getD i 0 :: s.drop (i + 1) := drop_get s 0 h
theorem wd8 {K : Nat} (s : List UInt8) (hs : s.length < 100000) (hK : 1000000 ≤ K) :
    ∃ r, w4_.l0 K K ((s, ((), (0, (false, (0, ()))))), ([], ([], ()))) = some r ∧ resT (tlS s false [] []) r := by
  generalize hF : tlS s false [] [] = F
  refine loop_ex (l := w4_.l0 K) (w4_.t0 K) (fun _ _ => rfl)
    (fun x => ∃ (i fr : Nat) (q : Bool) (out : List Tg), x = ((s, ((), ((fr : Int), (q, ((i : Int), ()))))), ([], (out, ()))) ∧ out.length ≤ i ∧ ((i ≤ s.length ∧ fr ≤ i ∧ tlS (s.drop i) q (cut s fr i) out = F) ∨ (i = s.length + 1 ∧ F = some out)))
    (fun x => s.length + 1 - x.1.2.2.2.2.1.toNat) (resT F) ?_ K _ ⟨0, 0, false, [], rfl, Nat.zero_le _, .inl ⟨Nat.zero_le _, Nat.le_refl _, by simpa using hF⟩⟩ (by simp; omega)
  rintro x rec ⟨i, fr, q, out, rfl, ho, hc⟩ ih
  have ih' : ∀ (fr' : Nat) (q' : Bool) (out' : List Tg), i ≤ s.length → out'.length ≤ i + 1 → ((i + 1 ≤ s.length ∧ fr' ≤ i + 1 ∧ tlS (s.drop (i + 1)) q' (cut s fr' (i + 1)) out' = F) ∨ (i + 1 = s.length + 1 ∧ F = some out')) →
      ∃ r, rec ((s, ((), ((fr' : Int), (q', (((i + 1 : Nat) : Int), ()))))), ([], (out', ()))) = some r ∧ resT F r := fun fr' q' out' hi h1 h2 =>
    ih _ ⟨i + 1, fr', q', out', rfl, h1, h2⟩ (by show s.length + 1 - (((i + 1 : Nat) : Int)).toNat < s.length + 1 - ((i : Nat) : Int).toNat; omega)
  rcases hc with ⟨hi, hfr, ht⟩ | ⟨hi, hF'⟩
  · have c1 : (i : Int) ≤ (s.length : Int) := by omega
    have w1 := wrapSucc (show i < 9223372036854775807 by omega)
    have hfr' : (fr : Int) ≤ (i : Int) := by omega
    have htr : wbT K (cut s fr i) = some (trim (cut s fr i)) := wcV (by have := length_cut_le s fr i; omega) (by have := length_cut_le s fr i; omega)
    have hpa : wY_ K (trim (cut s fr i)) = some (parT (trim (cut s fr i))) := wc0 (by have := length_cut_le s fr i; have := wdn (cut s fr i); omega) (by omega)
    have hmax : (out.length + 1) * 24 ≤ maxRoom := by simp only [maxRoom]; omega
    by_cases h : i < s.length
    · have c2 : (i : Int) < (s.length : Int) := by omega
      rw [wd7 s h] at ht
      have hcut := cut_succ s 0 hfr h
      by_cases b1 : s.getD i 0 = 34
      · have b1' := (byte34 _).2 b1
        have b2 : ¬ ((s.getD i 0).toNat : Int) = 44 := by rw [b1]; decide
        simp only [tlS, b1, show ¬ (34 : UInt8) = 44 by decide, false_and, if_false, qT, if_true] at ht
        have := ih' fr (!q) out hi (by omega) (.inl ⟨by omega, by omega, by rw [hcut, b1]; exact ht⟩)
        simp only [w4_.t0, za', zb', zc', zd', ze', zf', zg', zh', zi', zj', zk', zl', zm', zn', zo', zp', zq', zr', zs', zt', c1, c2, b1', show ¬ (34 : Int) = 44 by decide, w1]
        exact this
      · have b1' : ¬ ((s.getD i 0).toNat : Int) = 34 := fun h => b1 ((byte34 _).1 h)
        by_cases b2 : s.getD i 0 = 44
        · have b2' := (byte44 _).2 b2
          cases q with
          | true =>
            simp only [tlS, b2, Bool.true_eq_false, and_false, if_false, qT, show ¬ (44 : UInt8) = 34 by decide] at ht
            have := ih' fr true out hi (by omega) (.inl ⟨by omega, by omega, by rw [hcut, b2]; exact ht⟩)
            simp only [w4_.t0, za', zb', zc', zd', ze', zf', zg', zh', zi', zj', zk', zl', zm', zn', zo', zp', zq', zr', zs', zt', c1, c2, b1', b2', show ¬ (44 : Int) = 34 by decide, w1]
            exact this
          | false =>
            simp only [tlS, b2, and_self, if_true] at ht
            by_cases e : trim (cut s fr i) = []
            · have ha : addT out (cut s fr i) = some out := by unfold addT; rw [if_pos e]
              rw [ha] at ht
              have := ih' (i + 1) false out hi (by omega) (.inl ⟨by omega, by omega, by rw [cut_self]; exact ht⟩)
              simp only [w4_.t0, za', zb', zc', zd', ze', zf', zg', zh', zi', zj', zk', zl', zm', zn', zo', zp', zq', zr', zs', zt', c1, c2, b1', b2', show ¬ (44 : Int) = 34 by decide, w1, hfr', htr, e, beq_self_eq_true]
              exact this
            · have e' : (trim (cut s fr i) == ([] : List UInt8)) = false := beq_eq_false_iff_ne.2 e
              cases d : (parT (trim (cut s fr i))).2.1 with
              | false =>
                have ha : addT out (cut s fr i) = none := by unfold addT; rw [if_neg e, d, if_neg (by decide)]
                rw [ha] at ht
                subst ht
                simp only [w4_.t0, za', zb', zc', zd', ze', zf', zg', zh', zi', zj', zk', zl', zm', zn', zo', zp', zq', zr', zs', zt', c1, c2, b1', b2', show ¬ (44 : Int) = 34 by decide, w1, hfr', htr, e', hpa, d]
                exact ⟨_, rfl, _, _, rfl⟩
              | true =>
                have ha : addT out (cut s fr i) = some (out ++ [(parT (trim (cut s fr i))).1]) := by unfold addT; rw [if_neg e, d, if_pos rfl]
                rw [ha] at ht
                have := ih' (i + 1) false (out ++ [(parT (trim (cut s fr i))).1]) hi (by rw [List.length_append, List.length_singleton]; omega) (.inl ⟨by omega, by omega, by rw [cut_self]; exact ht⟩)
                simp only [w4_.t0, za', zb', zc', zd', ze', zf', zg', zh', zi', zj', zk', zl', zm', zn', zo', zp', zq', zr', zs', zt', c1, c2, b1', b2', show ¬ (44 : Int) = 34 by decide, w1, hfr', htr, e', hpa, d, hmax]
                exact this
        · have b2' : ¬ ((s.getD i 0).toNat : Int) = 44 := fun h => b2 ((byte44 _).1 h)
          simp only [tlS, b2, false_and, if_false, qT, b1] at ht
          have := ih' fr q out hi (by omega) (.inl ⟨by omega, by omega, by rw [hcut]; exact ht⟩)
          simp only [w4_.t0, za', zb', zc', zd', ze', zf', zg', zh', zi', zj', zk', zl', zm', zn', zo', zp', zq', zr', zs', zt', c1, c2, b1', b2', w1]
          exact this
    · have h0 : i = s.length := by omega
      have c2 : ¬ (i : Int) < (s.length : Int) := by omega
      have hd : s.drop i = [] := List.drop_eq_nil_of_le (by omega)
      rw [hd] at ht
      simp only [tlS] at ht
      by_cases e : trim (cut s fr i) = []
      · have ha : addT out (cut s fr i) = some out := by unfold addT; rw [if_pos e]
        rw [ha] at ht
        have := ih' (i + 1) q out hi (by omega) (.inr ⟨by omega, ht.symm⟩)
        simp only [w4_.t0, za', zb', zc', zd', ze', zf', zg', zh', zi', zj', zk', zl', zm', zn', zo', zp', zq', zr', zs', zt', c1, c2, w1, hfr', htr, e, beq_self_eq_true]
        exact this
      · have e' : (trim (cut s fr i) == ([] : List UInt8)) = false := beq_eq_false_iff_ne.2 e
        cases d : (parT (trim (cut s fr i))).2.1 with
        | false =>
          have ha : addT out (cut s fr i) = none := by unfold addT; rw [if_neg e, d, if_neg (by decide)]
          rw [ha] at ht
          subst ht
          simp only [w4_.t0, za', zb', zc', zd', ze', zf', zg', zh', zi', zj', zk', zl', zm', zn', zo', zp', zq', zr', zs', zt', c1, c2, w1, hfr', htr, e', hpa, d]
          exact ⟨_, rfl, _, _, rfl⟩
        | true =>
          have ha : addT out (cut s fr i) = some (out ++ [(parT (trim (cut s fr i))).1]) := by unfold addT; rw [if_neg e, d, if_pos rfl]
          rw [ha] at ht
          have := ih' (i + 1) q (out ++ [(parT (trim (cut s fr i))).1]) hi (by rw [List.length_append, List.length_singleton]; omega) (.inr ⟨by omega, ht.symm⟩)
          simp only [w4_.t0, za', zb', zc', zd', ze', zf', zg', zh', zi', zj', zk', zl', zm', zn', zo', zp', zq', zr', zs', zt', c1, c2, w1, hfr', htr, e', hpa, d, hmax]
          exact this
  · have c1 : ¬ (i : Int) ≤ (s.length : Int) := by omega
    simp only [w4_.t0, za', zb', zc', zd', ze', zf', zg', zh', zi', zj', zk', zl', zm', zn', zo', zp', zq', zr', zs', zt', c1]
    exact ⟨_, rfl, by rw [hF']; rfl⟩
theorem wdf {K : Nat} {s : List UInt8} (hs : s.length < 100000) (hK : 1000000 ≤ K) : w4_ K s = some (lisT s) := by
  obtain ⟨r, h1, h2⟩ := wd8 (K := K) s hs hK
  have htr : wbT K s = some (trim s) := wcV (by omega) (by omega)
  simp only [w4_, w4_.tr, htr, za', zb', zc', zd', ze', zf', zg', zh', zi', zj', zk', zl', zm', zn', zo', zp', zq', zr', zs', zt']
  unfold lisT
  by_cases e : trim s = [42]
  · simp only [e, if_true, beq_self_eq_true, za', zb', zc', zd', ze', zf', zg', zh', zi', zj', zk', zl', zm', zn', zo', zp', zq', zr', zs', zt']
  · have e' : (trim s == ([42] : List UInt8)) = false := beq_eq_false_iff_ne.2 e
    rw [if_neg e]
    simp only [e', za', zb', zc', zd', ze', zf', zg', zh', zi', zj', zk', zl', zm', zn', zo', zp', zq', zr', zs', zt', h1]
    cases hF : tlS s false [] [] with
    | some o =>
      rw [hF] at h2
      simp only [resT] at h2
      subst h2
      by_cases c : o.length = 0
      · have c' : (o.length : Int) = 0 := by omega
        simp only [c, c', if_true, za', zb', zc', zd', ze', zf', zg', zh', zi', zj', zk', zl', zm', zn', zo', zp', zq', zr', zs', zt']
      · have c' : ¬ (o.length : Int) = 0 := by omega
        simp only [c, c', if_false, za', zb', zc', zd', ze', zf', zg', zh', zi', zj', zk', zl', zm', zn', zo', zp', zq', zr', zs', zt']
    | none =>
      rw [hF] at h2
      obtain ⟨o, t, rfl⟩ := h2
      rfl
end Go.Proofs.X
