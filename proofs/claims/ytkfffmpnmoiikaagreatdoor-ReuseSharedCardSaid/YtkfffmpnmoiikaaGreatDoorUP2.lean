/-
  A part of the proof. No condition.
-/
import Derived.Test.YtkfffmpnmoiikaaGreatDoorUP1
/- Chapter 06: Split, the program's and the document's: both are one plain function. No condition but on sizes. -/
set_option linter.unusedSimpArgs false
set_option linter.unusedVariables false
namespace Go.Proofs.X
open Go Go.Dp
def addPart (out : List (List UInt8)) (cur : List UInt8) : List (List UInt8) := if trim cur = [] then out else out ++ [trim cur]
def spl (q : Bool) (cur : List UInt8) (out : List (List UInt8)) : List UInt8 → Bool × List UInt8 × List (List UInt8)
  | [] => (q, cur, out)
  | [c] => if c = 34 then (!q, cur ++ [c], out) else if c = 92 ∧ q = true then (q, cur ++ [c], out) else if c = 44 ∧ q = false then (q, [], addPart out cur) else (q, cur ++ [c], out)
  | c :: d :: r => if c = 34 then spl (!q) (cur ++ [c]) out (d :: r)
    else if c = 92 ∧ q = true then spl q (cur ++ [c, d]) out r
    else if c = 44 ∧ q = false then spl q [] (addPart out cur) (d :: r)
    else spl q (cur ++ [c]) out (d :: r)
theorem weD (q : Bool) (cur : List UInt8) (out : List (List UInt8)) (c : UInt8) (r : List UInt8) : spl q cur out (c :: r) =
    if c = 34 then spl (!q) (cur ++ [c]) out r
    else if c = 92 ∧ q = true then (match r with | [] => (q, cur ++ [c], out) | d :: r => spl q (cur ++ [c, d]) out r)
    else if c = 44 ∧ q = false then spl q [] (addPart out cur) r
    else spl q (cur ++ [c]) out r := by
  cases r with
  | nil => simp [spl]
  | cons d r => rw [spl]
def splitS (s : List UInt8) : List (List UInt8) × Int × Unit :=
  let r := spl false [] [] s
  if r.1 = true then ([], 5, ()) else (addPart r.2.2 r.2.1, 0, ())
theorem wd8 (out : List (List UInt8)) (cur : List UInt8) : (addPart out cur).length ≤ out.length + 1 := by
  unfold addPart; split <;> simp
theorem weg (K n : Nat) (s : List UInt8) (hs : s.length < 1000000000) (hK : s.length < K) (hn : s.length + 1 < n) :
    wS_.l0 K n ((s, (0, ((s, (0, (0, ()))), (false, (0, ()))))), ([], ((), (0, ())))) =
      some ((s, (0, ((s, (0, (0, ()))), ((spl false [] [] s).1, ())))), ((spl false [] [] s).2.2, ((), (((s.length - (spl false [] [] s).2.1.length : Nat) : Int), ())))) := by
  have H := loop_rule (l := wS_.l0 K) (wS_.t0 K) (fun _ _ => rfl)
    (fun x => ∃ (i fr : Nat) (q : Bool) (l : List (List UInt8)), x = ((s, (0, ((s, (0, (0, ()))), (q, ((i : Int), ()))))), (l, ((), ((fr : Int), ())))) ∧ i ≤ s.length + 1 ∧ fr ≤ i ∧ fr ≤ s.length ∧ l.length ≤ i)
    (fun x => s.length + 1 - x.1.2.2.2.2.1.toNat)
    (fun x => let r := spl x.1.2.2.2.1 (cut s x.2.2.2.1.toNat x.1.2.2.2.2.1.toNat) x.2.1 (s.drop x.1.2.2.2.2.1.toNat)
      ((s, (0, ((s, (0, (0, ()))), (r.1, ())))), (r.2.2, ((), (((s.length - r.2.1.length : Nat) : Int), ()))))) ?_ n _ ⟨0, 0, false, [], rfl, by omega, by omega, by omega, by simp⟩ (by simp; omega)
  · refine H.trans ?_; simp
  · rintro x rec ⟨i, fr, q, l, rfl, hi, hf1, hf2, hl⟩ ih
    by_cases h : i < s.length
    · have hh : (i : Int) < (s.length : Int) := by omega
      have hh2 : (i : Int) ≤ (s.length : Int) := by omega
      have hff : (fr : Int) ≤ (i : Int) := by omega
      have go : ∀ (i' fr' : Nat) (q' : Bool) (l' : List (List UInt8)), i < i' → i' ≤ s.length + 1 → fr' ≤ i' → fr' ≤ s.length → l'.length ≤ i' →
          rec ((s, (0, ((s, (0, (0, ()))), (q', ((i' : Int), ()))))), (l', ((), ((fr' : Int), ())))) = some (let r := spl q' (cut s fr' i') l' (s.drop i')
            ((s, (0, ((s, (0, (0, ()))), (r.1, ())))), (r.2.2, ((), (((s.length - r.2.1.length : Nat) : Int), ()))))) := by
        intro i' fr' q' l' h1 h2 h3 h4 h5
        exact ih _ ⟨i', fr', q', l', rfl, h2, h3, h4, h5⟩ (by simp; omega)
      have hc1 := cut_succ s 0 hf1 h
      have hmax : (l.length + 1) * 16 ≤ maxRoom := by simp only [maxRoom]; omega
      have htr := wdH (K := K) (s := cut s fr i) (by have := length_cut_le s fr i; omega) (by have := length_cut_le s fr i; omega)
      simp only [wS_.t0, za', zb', zc', zd', ze', zf', zg', zh', zi', zj', zk', zl', zm', zn', zo', zp', zq', zr', zs', zt', hh, byte34, byte92]
      rw [drop_get s 0 h, weD]
      by_cases c1 : s.getD i 0 = 34
      · simp only [c1, za', zb', zc', zd', ze', zf', zg', zh', zi', zj', zk', zl', zm', zn', zo', zp', zq', zr', zs', zt']
        rw [wrapSucc (by omega), go (i + 1) fr (!q) l (by omega) (by omega) (by omega) hf2 (by omega), hc1, c1]
      · by_cases c2 : s.getD i 0 = 92
        · cases q with
          | true =>
            simp only [c2, za', zb', zc', zd', ze', zf', zg', zh', zi', zj', zk', zl', zm', zn', zo', zp', zq', zr', zs', zt', show ¬ (92 : UInt8) = 34 by decide, true_and]
            rw [wrapSucc (n := i) (by omega), wrapSucc (n := i + 1) (by omega), go (i + 1 + 1) fr true l (by omega) (by omega) (by omega) hf2 (by omega)]
            by_cases h2 : i + 1 < s.length
            · rw [drop_get s 0 h2, cut_succ s 0 (by omega) h2, hc1, c2]; simp
            · have h3 : s.drop (i + 1) = [] := List.drop_eq_nil_of_le (by omega)
              have h4 : s.drop (i + 1 + 1) = [] := List.drop_eq_nil_of_le (by omega)
              have h5 : cut s fr (i + 1 + 1) = cut s fr (i + 1) := by rw [cut_over s (by omega), cut_over s (by omega)]
              rw [h3, h4, h5, hc1, c2]; simp [spl]
          | false =>
            simp only [c2, za', zb', zc', zd', ze', zf', zg', zh', zi', zj', zk', zl', zm', zn', zo', zp', zq', zr', zs', zt', show ¬ (92 : UInt8) = 34 by decide, byte44, show ¬ (92 : UInt8) = 44 by decide, false_and, and_false]
            rw [wrapSucc (n := i) (by omega), go (i + 1) fr false l (by omega) (by omega) (by omega) hf2 (by omega), hc1, c2]
        · by_cases c3 : s.getD i 0 = 44
          · cases q with
            | true =>
              simp only [c3, za', zb', zc', zd', ze', zf', zg', zh', zi', zj', zk', zl', zm', zn', zo', zp', zq', zr', zs', zt', show ¬ (44 : UInt8) = 34 by decide, show ¬ (44 : UInt8) = 92 by decide, byte44, false_and, and_false, Bool.true_eq_false]
              rw [wrapSucc (n := i) (by omega), go (i + 1) fr true l (by omega) (by omega) (by omega) hf2 (by omega), hc1, c3]
            | false =>
              simp only [c3, za', zb', zc', zd', ze', zf', zg', zh', zi', zj', zk', zl', zm', zn', zo', zp', zq', zr', zs', zt', show ¬ (44 : UInt8) = 34 by decide, show ¬ (44 : UInt8) = 92 by decide, byte44, false_and, and_false, hh2, hff, htr, and_self]
              by_cases c4 : trim (cut s fr i) = []
              · simp only [c4, beq_self_eq_true, za', zb', zc', zd', ze', zf', zg', zh', zi', zj', zk', zl', zm', zn', zo', zp', zq', zr', zs', zt', addPart]
                rw [wrapSucc (n := i) (by omega), go (i + 1) (i + 1) false l (by omega) (by omega) (by omega) (by omega) (by omega), cut_self]
              · have c5 : (trim (cut s fr i) == []) = false := by simpa using c4
                simp only [c4, c5, hmax, za', zb', zc', zd', ze', zf', zg', zh', zi', zj', zk', zl', zm', zn', zo', zp', zq', zr', zs', zt', addPart]
                rw [wrapSucc (n := i) (by omega), go (i + 1) (i + 1) false (l ++ [trim (cut s fr i)]) (by omega) (by omega) (by omega) (by omega) (by simp; omega), cut_self]
          · simp only [c1, c2, c3, za', zb', zc', zd', ze', zf', zg', zh', zi', zj', zk', zl', zm', zn', zo', zp', zq', zr', zs', zt', byte44, false_and]
            rw [wrapSucc (n := i) (by omega), go (i + 1) fr q l (by omega) (by omega) (by omega) hf2 (by omega), hc1]
    · have hh : ¬ (i : Int) < (s.length : Int) := by omega
      have h3 : s.drop i = [] := List.drop_eq_nil_of_le (by omega)
      simp only [wS_.t0, za', zb', zc', zd', ze', zf', zg', zh', zi', zj', zk', zl', zm', zn', zo', zp', zq', zr', zs', zt', hh, h3, spl, cut_over s (show s.length ≤ i by omega), List.length_drop]
      rw [show s.length - (s.length - fr) = fr by omega]
theorem wdP : ∀ (n : Nat) (q : Bool) (cur : List UInt8) (out : List (List UInt8)) (r : List UInt8), r.length ≤ n →
    (∃ p, cur ++ r = p ++ (spl q cur out r).2.1) ∧ (spl q cur out r).2.2.length ≤ out.length + r.length := by
  intro n
  induction n with
  | zero =>
    intro q cur out r h
    obtain rfl : r = [] := List.length_eq_zero_iff.1 (by omega)
    exact ⟨⟨[], by simp [spl]⟩, by simp [spl]⟩
  | succ n ih =>
    intro q cur out r h
    cases r with
    | nil => exact ⟨⟨[], by simp [spl]⟩, by simp [spl]⟩
    | cons c r =>
      simp only [List.length_cons] at h
      rw [weD]
      split
      · obtain ⟨⟨p, h1⟩, h2⟩ := ih (!q) (cur ++ [c]) out r (by omega)
        exact ⟨⟨p, by rw [← h1]; simp⟩, by simp; omega⟩
      · split
        · cases r with
          | nil => exact ⟨⟨[], by simp⟩, by simp⟩
          | cons d r =>
            simp only [List.length_cons] at h
            obtain ⟨⟨p, h1⟩, h2⟩ := ih q (cur ++ [c, d]) out r (by omega)
            exact ⟨⟨p, by rw [← h1]; simp⟩, by simp; omega⟩
        · split
          · obtain ⟨⟨p, h1⟩, h2⟩ := ih q [] (addPart out cur) r (by omega)
            have h3 := wd8 out cur
            exact ⟨⟨cur ++ [c] ++ p, by rw [List.append_assoc, ← h1]; simp⟩, by simp; omega⟩
          · obtain ⟨⟨p, h1⟩, h2⟩ := ih q (cur ++ [c]) out r (by omega)
            exact ⟨⟨p, by rw [← h1]; simp⟩, by simp; omega⟩
theorem wdc {K : Nat} {s : List UInt8} (hs : s.length < 1000000000) (hK : s.length + 1 < K) : wS_ K s = some (splitS s) := by
  obtain ⟨⟨p, h1⟩, h2⟩ := wdP s.length false [] [] s (by omega)
  simp only [List.nil_append, List.length_nil, Nat.zero_add] at h1 h2
  simp only [wS_, wS_.tr, weg K K s hs (by omega) hK, za', zb', zc', zd', ze', zf', zg', zh', zi', zj', zk', zl', zm', zn', zo', zp', zq', zr', zs', zt', splitS]
  generalize hr : spl false [] [] s = r at h1 h2 ⊢
  obtain ⟨q, cur, out⟩ := r
  simp only at h1 h2 ⊢
  cases q with
  | true => simp only [za', zb', zc', zd', ze', zf', zg', zh', zi', zj', zk', zl', zm', zn', zo', zp', zq', zr', zs', zt']
  | false =>
    have hl : s.length = p.length + cur.length := by rw [h1]; simp
    have e : cut s (s.length - cur.length) s.length = cur := by
      rw [cut_end, show s.length - cur.length = p.length by omega, h1, List.drop_left]
    have h3 : ((s.length - cur.length : Nat) : Int) ≤ (s.length : Int) := by omega
    have hmax : (out.length + 1) * 16 ≤ maxRoom := by simp only [maxRoom]; omega
    simp only [za', zb', zc', zd', ze', zf', zg', zh', zi', zj', zk', zl', zm', zn', zo', zp', zq', zr', zs', zt', Int.le_refl, h3, e, wdH (K := K) (s := cur) (by omega) (by omega), addPart]
    by_cases c4 : trim cur = []
    · simp only [c4, beq_self_eq_true, za', zb', zc', zd', ze', zf', zg', zh', zi', zj', zk', zl', zm', zn', zo', zp', zq', zr', zs', zt']
    · have c5 : (trim cur == []) = false := by simpa using c4
      simp only [c4, c5, hmax, za', zb', zc', zd', ze', zf', zg', zh', zi', zj', zk', zl', zm', zn', zo', zp', zq', zr', zs', zt']
theorem wfN : ∀ (n m : Nat) (q : Bool) (cur : List UInt8) (out : List (List UInt8)) (r : List UInt8), r.length ≤ n → cur.length + r.length ≤ m → (∀ x ∈ out, x.length ≤ m) → ∀ x ∈ (spl q cur out r).2.2, x.length ≤ m := by
  intro n m
  have ap : ∀ (out : List (List UInt8)) (cur : List UInt8), cur.length ≤ m → (∀ x ∈ out, x.length ≤ m) → ∀ x ∈ addPart out cur, x.length ≤ m := by
    intro out cur hc ho x hx
    unfold addPart at hx
    split at hx
    · exact ho x hx
    · rcases List.mem_append.1 hx with hx | hx
      · exact ho x hx
      · obtain rfl := List.mem_singleton.1 hx
        have := wea cur
        omega
  induction n with
  | zero =>
    intro q cur out r h hc ho
    obtain rfl : r = [] := List.length_eq_zero_iff.1 (by omega)
    simpa [spl] using ho
  | succ n ih =>
    intro q cur out r h hc ho
    cases r with
    | nil => simpa [spl] using ho
    | cons c r =>
      simp only [List.length_cons] at h hc
      rw [weD]
      split
      · exact ih _ _ _ _ (by omega) (by simp; omega) ho
      · split
        · cases r with
          | nil => exact ho
          | cons d r => simp only [List.length_cons] at h hc; exact ih _ _ _ _ (by omega) (by simp; omega) ho
        · split
          · exact ih _ _ _ _ (by omega) (by simp; omega) (ap _ _ (by omega) ho)
          · exact ih _ _ _ _ (by omega) (by simp; omega) ho
theorem wdm (v : List UInt8) : ∀ x ∈ (splitS v).1, x.length ≤ v.length := by
  have h1 := wfN v.length v.length false [] [] v (by omega) (by simp) (by simp)
  obtain ⟨⟨p, h2⟩, _⟩ := wdP v.length false [] [] v (by omega)
  unfold splitS
  simp only
  split
  · intro x hx; cases hx
  · intro x hx
    simp only at hx
    unfold addPart at hx
    split at hx
    · exact h1 x hx
    · rcases List.mem_append.1 hx with hx | hx
      · exact h1 x hx
      · obtain rfl := List.mem_singleton.1 hx
        have h3 := wea (spl false [] [] v).2.1
        have h4 := congrArg List.length h2
        simp at h4
        omega
theorem wdd (v : List UInt8) : (splitS v).1.length ≤ v.length + 1 := by
  obtain ⟨_, h2⟩ := wdP v.length false [] [] v (by omega)
  unfold splitS
  simp only
  split
  · simp
  · have := wd8 (spl false [] [] v).2.2 (spl false [] [] v).2.1
    simp at h2 ⊢
    omega
end Go.Proofs.X
