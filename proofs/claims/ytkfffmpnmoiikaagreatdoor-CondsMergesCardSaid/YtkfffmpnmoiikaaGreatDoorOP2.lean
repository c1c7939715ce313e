/-
  A part of the proof. No condition.
-/
import Derived.Test.YtkfffmpnmoiikaaGreatDoorOP1
/- Chapter 06: Split, the program's and the document's: both are one plain function. No condition but on sizes. -/
set_option linter.unusedSimpArgs false
set_option linter.unusedVariables false
namespace Go.Proofs.X
open Go Go.Dp
def addPart (out : List (List UInt8)) (cur : List UInt8) : List (List UInt8) := if trim cur = [] then out else out ++ [trim cur]
def spl (q : Bool) (cur : List UInt8) (out : List (List UInt8)) : List UInt8 → Bool × List UInt8 × List (List UInt8)
  | [] => (q, cur, out)
  | [c] => if c = 34 then (!q, cur ++ [c], out) else if c = 92 ∧ q = true then (q, cur ++ [c], out) else if c = 44 ∧ q = false then (q, [], addPart out cur) else (q, cur ++ [c], out)
  | c :: d :: r => if c = 34 then spl (!q) (cur ++ [c]) out (d :: r)
    else if c = 92 ∧ q = true then spl q (cur ++ [c, d]) out r
    else if c = 44 ∧ q = false then spl q [] (addPart out cur) (d :: r)
    else spl q (cur ++ [c]) out (d :: r)
theorem wc0 (q : Bool) (cur : List UInt8) (out : List (List UInt8)) (c : UInt8) (r : List UInt8) : spl q cur out (c :: r) =
    if c = 34 then spl (!q) (cur ++ [c]) out r
    else if c = 92 ∧ q = true then (match r with | [] => (q, cur ++ [c], out) | d :: r => spl q (cur ++ [c, d]) out r)
    else if c = 44 ∧ q = false then spl q [] (addPart out cur) r
    else spl q (cur ++ [c]) out r := by
  cases r with
  | nil => simp [spl]
  | cons d r => rw [spl]
def splitS (s : List UInt8) : List (List UInt8) × Int × Unit :=
  let r := spl false [] [] s
  if r.1 = true then ([], 5, ()) else (addPart r.2.2 r.2.1, 0, ())
theorem wc7 (out : List (List UInt8)) (cur : List UInt8) : (addPart out cur).length ≤ out.length + 1 := by
  unfold addPart; split <;> simp
theorem wdf (K n : Nat) (s : List UInt8) (hs : s.length < 1000000000) (hK : s.length < K) (hn : s.length + 1 < n) :
    wQ_.l0 K n ((s, (0, ((s, (0, (0, ()))), (false, (0, ()))))), ([], ((), (0, ())))) =
      some ((s, (0, ((s, (0, (0, ()))), ((spl false [] [] s).1, ())))), ((spl false [] [] s).2.2, ((), (((s.length - (spl false [] [] s).2.1.length : Nat) : Int), ())))) := by
  have H := loop_rule (l := wQ_.l0 K) (wQ_.t0 K) (fun _ _ => rfl)
    (fun x => ∃ (i fr : Nat) (q : Bool) (l : List (List UInt8)), x = ((s, (0, ((s, (0, (0, ()))), (q, ((i : Int), ()))))), (l, ((), ((fr : Int), ())))) ∧ i ≤ s.length + 1 ∧ fr ≤ i ∧ fr ≤ s.length ∧ l.length ≤ i)
    (fun x => s.length + 1 - x.1.2.2.2.2.1.toNat)
    (fun x => let r := spl x.1.2.2.2.1 (cut s x.2.2.2.1.toNat x.1.2.2.2.2.1.toNat) x.2.1 (s.drop x.1.2.2.2.2.1.toNat)
      ((s, (0, ((s, (0, (0, ()))), (r.1, ())))), (r.2.2, ((), (((s.length - r.2.1.length : Nat) : Int), ()))))) ?_ n _ ⟨0, 0, false, [], rfl, by omega, by omega, by omega, by simp⟩ (by simp; omega)
  · refine H.trans ?_; simp
  · rintro x rec ⟨i, fr, q, l, rfl, hi, hf1, hf2, hl⟩ ih
    by_cases h : i < s.length
    · have hh : (i : Int) < (s.length : Int) := by omega
      have hh2 : (i : Int) ≤ (s.length : Int) := by omega
      have hff : (fr : Int) ≤ (i : Int) := by omega
      have go : ∀ (i' fr' : Nat) (q' : Bool) (l' : List (List UInt8)), i < i' → i' ≤ s.length + 1 → fr' ≤ i' → fr' ≤ s.length → l'.length ≤ i' →
          rec ((s, (0, ((s, (0, (0, ()))), (q', ((i' : Int), ()))))), (l', ((), ((fr' : Int), ())))) = some (let r := spl q' (cut s fr' i') l' (s.drop i')
            ((s, (0, ((s, (0, (0, ()))), (r.1, ())))), (r.2.2, ((), (((s.length - r.2.1.length : Nat) : Int), ()))))) := by
        intro i' fr' q' l' h1 h2 h3 h4 h5
        exact ih _ ⟨i', fr', q', l', rfl, h2, h3, h4, h5⟩ (by simp; omega)
      have hc1 := cut_succ s 0 hf1 h
      have hmax : (l.length + 1) * 16 ≤ maxRoom := by simp only [maxRoom]; omega
      have htr := wcM (K := K) (s := cut s fr i) (by have := length_cut_le s fr i; omega) (by have := length_cut_le s fr i; omega)
      simp only [wQ_.t0, za', zb', zc', zd', ze', zf', zg', zh', zi', zj', zk', zl', zm', zn', zo', zp', zq', zr', zs', zt', hh, byte34, byte92]
      rw [drop_get s 0 h, wc0]
      by_cases c1 : s.getD i 0 = 34
      · simp only [c1, za', zb', zc', zd', ze', zf', zg', zh', zi', zj', zk', zl', zm', zn', zo', zp', zq', zr', zs', zt']
        rw [wrapSucc (by omega), go (i + 1) fr (!q) l (by omega) (by omega) (by omega) hf2 (by omega), hc1, c1]
      · by_cases c2 : s.getD i 0 = 92
        · cases q with
          | true =>
            simp only [c2, za', zb', zc', zd', ze', zf', zg', zh', zi', zj', zk', zl', zm', zn', zo', zp', zq', zr', zs', zt', show ¬ (92 : UInt8) = 34 by decide, true_and]
            rw [wrapSucc (n := i) (by omega), wrapSucc (n := i + 1) (by omega), go (i + 1 + 1) fr true l (by omega) (by omega) (by omega) hf2 (by omega)]
            by_cases h2 : i + 1 < s.length
            · rw [drop_get s 0 h2, cut_succ s 0 (by omega) h2, hc1, c2]; simp
            · have h3 : s.drop (i + 1) = [] := List.drop_eq_nil_of_le (by omega)
              have h4 : s.drop (i + 1 + 1) = [] := List.drop_eq_nil_of_le (by omega)
              have h5 : cut s fr (i + 1 + 1) = cut s fr (i + 1) := by rw [cut_over s (by omega), cut_over s (by omega)]
              rw [h3, h4, h5, hc1, c2]; simp [spl]
          | false =>
            simp only [c2, za', zb', zc', zd', ze', zf', zg', zh', zi', zj', zk', zl', zm', zn', zo', zp', zq', zr', zs', zt', show ¬ (92 : UInt8) = 34 by decide, byte44, show ¬ (92 : UInt8) = 44 by decide, false_and, and_false]
            rw [wrapSucc (n := i) (by omega), go (i + 1) fr false l (by omega) (by omega) (by omega) hf2 (by omega), hc1, c2]
        · by_cases c3 : s.getD i 0 = 44
          · cases q with
            | true =>
              simp only [c3, za', zb', zc', zd', ze', zf', zg', zh', zi', zj', zk', zl', zm', zn', zo', zp', zq', zr', zs', zt', show ¬ (44 : UInt8) = 34 by decide, show ¬ (44 : UInt8) = 92 by decide, byte44, false_and, and_false, Bool.true_eq_false]
              rw [wrapSucc (n := i) (by omega), go (i + 1) fr true l (by omega) (by omega) (by omega) hf2 (by omega), hc1, c3]
            | false =>
              simp only [c3, za', zb', zc', zd', ze', zf', zg', zh', zi', zj', zk', zl', zm', zn', zo', zp', zq', zr', zs', zt', show ¬ (44 : UInt8) = 34 by decide, show ¬ (44 : UInt8) = 92 by decide, byte44, false_and, and_false, hh2, hff, htr, and_self]
              by_cases c4 : trim (cut s fr i) = []
              · simp only [c4, beq_self_eq_true, za', zb', zc', zd', ze', zf', zg', zh', zi', zj', zk', zl', zm', zn', zo', zp', zq', zr', zs', zt', addPart]
                rw [wrapSucc (n := i) (by omega), go (i + 1) (i + 1) false l (by omega) (by omega) (by omega) (by omega) (by omega), cut_self]
              · have c5 : (trim (cut s fr i) == []) = false := by simpa using c4
                simp only [c4, c5, hmax, za', zb', zc', zd', ze', zf', zg', zh', zi', zj', zk', zl', zm', zn', zo', zp', zq', zr', zs', zt', addPart]
                rw [wrapSucc (n := i) (by omega), go (i + 1) (i + 1) false (l ++ [trim (cut s fr i)]) (by omega) (by omega) (by omega) (by omega) (by simp; omega), cut_self]
          · simp only [c1, c2, c3, za', zb', zc', zd', ze', zf', zg', zh', zi', zj', zk', zl', zm', zn', zo', zp', zq', zr', zs', zt', byte44, false_and]
            rw [wrapSucc (n := i) (by omega), go (i + 1) fr q l (by omega) (by omega) (by omega) hf2 (by omega), hc1]
    · have hh : ¬ (i : Int) < (s.length : Int) := by omega
      have h3 : s.drop i = [] := List.drop_eq_nil_of_le (by omega)
      simp only [wQ_.t0, za', zb', zc', zd', ze', zf', zg', zh', zi', zj', zk', zl', zm', zn', zo', zp', zq', zr', zs', zt', hh, h3, spl, cut_over s (show s.length ≤ i by omega), List.length_drop]
      rw [show s.length - (s.length - fr) = fr by omega]
theorem wcx : ∀ (n : Nat) (q : Bool) (cur : List UInt8) (out : List (List UInt8)) (r : List UInt8), r.length ≤ n →
    (∃ p, cur ++ r = p ++ (spl q cur out r).2.1) ∧ (spl q cur out r).2.2.length ≤ out.length + r.length := by
  intro n
  induction n with
  | zero =>
    intro q cur out r h
    obtain rfl : r = [] := List.length_eq_zero_iff.1 (by omega)
    exact ⟨⟨[], by simp [spl]⟩, by simp [spl]⟩
  | succ n ih =>
    intro q cur out r h
    cases r with
    | nil => exact ⟨⟨[], by simp [spl]⟩, by simp [spl]⟩
    | cons c r =>
      simp only [List.length_cons] at h
      rw [wc0]
      split
      · obtain ⟨⟨p, h1⟩, h2⟩ := ih (!q) (cur ++ [c]) out r (by omega)
        exact ⟨⟨p, by rw [← h1]; simp⟩, by simp; omega⟩
      · split
        · cases r with
          | nil => exact ⟨⟨[], by simp⟩, by simp⟩
          | cons d r =>
            simp only [List.length_cons] at h
            obtain ⟨⟨p, h1⟩, h2⟩ := ih q (cur ++ [c, d]) out r (by omega)
            exact ⟨⟨p, by rw [← h1]; simp⟩, by simp; omega⟩
        · split
          · obtain ⟨⟨p, h1⟩, h2⟩ := ih q [] (addPart out cur) r (by omega)
            have h3 := wc7 out cur
            exact ⟨⟨cur ++ [c] ++ p, by rw [List.append_assoc, ← h1]; simp⟩, by simp; omega⟩
          · obtain ⟨⟨p, h1⟩, h2⟩ := ih q (cur ++ [c]) out r (by omega)
            exact ⟨⟨p, by rw [← h1]; simp⟩, by simp; omega⟩
theorem wdj {K : Nat} {s : List UInt8} (hs : s.length < 1000000000) (hK : s.length + 1 < K) : wQ_ K s = some (splitS s) := by
  obtain ⟨⟨p, h1⟩, h2⟩ := wcx s.length false [] [] s (by omega)
  simp only [List.nil_append, List.length_nil, Nat.zero_add] at h1 h2
  simp only [wQ_, wQ_.tr, wdf K K s hs (by omega) hK, za', zb', zc', zd', ze', zf', zg', zh', zi', zj', zk', zl', zm', zn', zo', zp', zq', zr', zs', zt', splitS]
  generalize hr : spl false [] [] s = r at h1 h2 ⊢
  obtain ⟨q, cur, out⟩ := r
  simp only at h1 h2 ⊢
  cases q with
  | true => simp only [za', zb', zc', zd', ze', zf', zg', zh', zi', zj', zk', zl', zm', zn', zo', zp', zq', zr', zs', zt']
  | false =>
    have hl : s.length = p.length + cur.length := by rw [h1]; simp
    have e : cut s (s.length - cur.length) s.length = cur := by
      rw [cut_end, show s.length - cur.length = p.length by omega, h1, List.drop_left]
    have h3 : ((s.length - cur.length : Nat) : Int) ≤ (s.length : Int) := by omega
    have hmax : (out.length + 1) * 16 ≤ maxRoom := by simp only [maxRoom]; omega
    simp only [za', zb', zc', zd', ze', zf', zg', zh', zi', zj', zk', zl', zm', zn', zo', zp', zq', zr', zs', zt', Int.le_refl, h3, e, wcM (K := K) (s := cur) (by omega) (by omega), addPart]
    by_cases c4 : trim cur = []
    · simp only [c4, beq_self_eq_true, za', zb', zc', zd', ze', zf', zg', zh', zi', zj', zk', zl', zm', zn', zo', zp', zq', zr', zs', zt']
    · have c5 : (trim cur == []) = false := by simpa using c4
      simp only [c4, c5, hmax, za', zb', zc', zd', ze', zf', zg', zh', zi', zj', zk', zl', zm', zn', zo', zp', zq', zr', zs', zt']
theorem wdp (K n : Nat) (s : List UInt8) (hs : s.length < 1000000000) (hK : s.length < K) (hn : s.length < n) :
    wt_.l0 K n ((s, ((), ([], (false, (0, ()))))), ([], ([], ()))) = some (((), ((spl false [] [] s).2.1, ((spl false [] [] s).1, ()))), ([], ((spl false [] [] s).2.2, ()))) := by
  have H := loop_rule (l := wt_.l0 K) (wt_.t0 K) (fun _ _ => rfl)
    (fun x => ∃ (i : Nat) (q : Bool) (cur : List UInt8) (l : List (List UInt8)), x = ((s, ((), (cur, (q, ((i : Int), ()))))), ([], (l, ()))) ∧ i ≤ s.length ∧ cur.length ≤ i ∧ l.length ≤ i)
    (fun x => s.length - x.1.2.2.2.2.1.toNat)
    (fun x => let r := spl x.1.2.2.2.1 x.1.2.2.1 x.2.2.1 (s.drop x.1.2.2.2.2.1.toNat)
      (((), (r.2.1, (r.1, ()))), ([], (r.2.2, ())))) ?_ n _ ⟨0, false, [], [], rfl, by omega, by simp, by simp⟩ (by simp; omega)
  · refine H.trans ?_; simp
  · rintro x rec ⟨i, q, cur, l, rfl, hi, hcur, hl⟩ ih
    by_cases h : i < s.length
    · have hh : (i : Int) < (s.length : Int) := by omega
      have hh1 : ((i + 1 : Nat) : Int) ≤ (s.length : Int) := by omega
      have hh3 : (i : Int) ≤ ((i + 1 : Nat) : Int) := by omega
      have go : ∀ (i' : Nat) (q' : Bool) (cur' : List UInt8) (l' : List (List UInt8)), i < i' → i' ≤ s.length → cur'.length ≤ i' → l'.length ≤ i' →
          rec ((s, ((), (cur', (q', ((i' : Int), ()))))), ([], (l', ()))) = some (let r := spl q' cur' l' (s.drop i')
            (((), (r.2.1, (r.1, ()))), ([], (r.2.2, ())))) := by
        intro i' q' cur' l' h1 h2 h3 h4
        exact ih _ ⟨i', q', cur', l', rfl, h2, h3, h4⟩ (by simp; omega)
      have hc1 : cut s i (i + 1) = [s.getD i 0] := by rw [cut_succ s 0 (by omega) h, cut_self]; rfl
      have hmax : (l.length + 1) * 16 ≤ maxRoom := by simp only [maxRoom]; omega
      have hm1 : cur.length + 1 ≤ maxRoom := by simp only [maxRoom]; omega
      have htr := wcL (K := K) (s := cur) (by omega) (by omega)
      have w1 := wrapSucc (show i < 9223372036854775807 by omega)
      have w2 := wrapTwo (show i < 9223372036854775806 by omega)
      have w3 := wrapSucc (show i + 1 < 9223372036854775807 by omega)
      simp only [wt_.t0, za', zb', zc', zd', ze', zf', zg', zh', zi', zj', zk', zl', zm', zn', zo', zp', zq', zr', zs', zt', hh, byte34, byte92, byte44, w1, w2, w3]
      rw [drop_get s 0 h, wc0]
      by_cases c1 : s.getD i 0 = 34
      · cases q <;>
          (simp only [c1, za', zb', zc', zd', ze', zf', zg', zh', zi', zj', zk', zl', zm', zn', zo', zp', zq', zr', zs', zt', hh, hh1, hh3, show ¬ (34 : UInt8) = 92 by decide, show ¬ (34 : UInt8) = 44 by decide, byte34, byte44, hc1, List.length_cons, List.length_nil, Nat.zero_add, hm1, w1, w2, w3, and_self, and_true]
           rw [go (i + 1) _ (cur ++ [34]) l (by omega) (by omega) (by simp; omega) (by omega)])
      · by_cases c2 : s.getD i 0 = 92
        · cases q with
          | true =>
            by_cases h2 : i + 1 < s.length
            · have hh4 : ((i + 1 : Nat) : Int) < (s.length : Int) := by omega
              have hh5 : ((i + 2 : Nat) : Int) ≤ (s.length : Int) := by omega
              have hh6 : (i : Int) ≤ ((i + 2 : Nat) : Int) := by omega
              have hc2 : cut s i (i + 2) = [s.getD i 0, s.getD (i + 1) 0] := by rw [cut_succ s 0 (by omega) h2, hc1]; rfl
              have hm2 : cur.length + 2 ≤ maxRoom := by simp only [maxRoom]; omega
              simp only [c2, za', zb', zc', zd', ze', zf', zg', zh', zi', zj', zk', zl', zm', zn', zo', zp', zq', zr', zs', zt', hh4, hh5, hh6, show ¬ (92 : UInt8) = 34 by decide, hc2, List.length_cons, List.length_nil, Nat.zero_add, Nat.reduceAdd, hm2, w1, w2, w3, and_self, and_true]
              rw [go (i + 1 + 1) true (cur ++ [92, s.getD (i + 1) 0]) l (by omega) (by omega) (by simp; omega) (by omega), drop_get s 0 h2]
              try simp
            · have hh4 : ¬ ((i + 1 : Nat) : Int) < (s.length : Int) := by omega
              have h3 : s.drop (i + 1) = [] := List.drop_eq_nil_of_le (by omega)
              simp only [c2, za', zb', zc', zd', ze', zf', zg', zh', zi', zj', zk', zl', zm', zn', zo', zp', zq', zr', zs', zt', hh, hh1, hh3, hh4, show ¬ (92 : UInt8) = 34 by decide, show ¬ (92 : UInt8) = 44 by decide, byte34, byte44, hc1, List.length_cons, List.length_nil, Nat.zero_add, hm1, w1, w2, w3, and_self, and_true]
              rw [go (i + 1) true (cur ++ [92]) l (by omega) (by omega) (by simp; omega) (by omega), h3]
              simp [spl]
          | false =>
            simp only [c2, za', zb', zc', zd', ze', zf', zg', zh', zi', zj', zk', zl', zm', zn', zo', zp', zq', zr', zs', zt', hh, hh1, hh3, show ¬ (92 : UInt8) = 34 by decide, show ¬ (92 : UInt8) = 44 by decide, byte34, byte44, hc1, List.length_cons, List.length_nil, Nat.zero_add, hm1, w1, w2, w3, and_self, and_true, and_false, false_and]
            rw [go (i + 1) false (cur ++ [92]) l (by omega) (by omega) (by simp; omega) (by omega)]
        · by_cases c3 : s.getD i 0 = 44
          · cases q with
            | true =>
              simp only [c3, za', zb', zc', zd', ze', zf', zg', zh', zi', zj', zk', zl', zm', zn', zo', zp', zq', zr', zs', zt', hh, hh1, hh3, show ¬ (44 : UInt8) = 34 by decide, show ¬ (44 : UInt8) = 92 by decide, byte34, byte44, byte92, hc1, List.length_cons, List.length_nil, Nat.zero_add, hm1, w1, w2, w3, and_self, and_true, and_false, false_and, Bool.true_eq_false]
              rw [go (i + 1) true (cur ++ [44]) l (by omega) (by omega) (by simp; omega) (by omega)]
            | false =>
              simp only [c3, za', zb', zc', zd', ze', zf', zg', zh', zi', zj', zk', zl', zm', zn', zo', zp', zq', zr', zs', zt', hh, show ¬ (44 : UInt8) = 34 by decide, show ¬ (44 : UInt8) = 92 by decide, byte34, byte44, htr, and_self, false_and, w1, w2, w3, and_self, and_true]
              by_cases c4 : trim cur = []
              · simp only [c4, beq_self_eq_true, za', zb', zc', zd', ze', zf', zg', zh', zi', zj', zk', zl', zm', zn', zo', zp', zq', zr', zs', zt', addPart]
                rw [wrapSucc (n := i) (by omega), go (i + 1) false [] l (by omega) (by omega) (by simp) (by omega)]
              · have c5 : (trim cur == []) = false := by simpa using c4
                simp only [c4, c5, hmax, za', zb', zc', zd', ze', zf', zg', zh', zi', zj', zk', zl', zm', zn', zo', zp', zq', zr', zs', zt', addPart]
                rw [wrapSucc (n := i) (by omega), go (i + 1) false [] (l ++ [trim cur]) (by omega) (by omega) (by simp) (by simp; omega)]
          · cases q <;>
              (simp only [c1, c2, c3, za', zb', zc', zd', ze', zf', zg', zh', zi', zj', zk', zl', zm', zn', zo', zp', zq', zr', zs', zt', hh, hh1, hh3, byte34, byte44, byte92, hc1, List.length_cons, List.length_nil, Nat.zero_add, hm1, false_and, w1, w2, w3, and_self, and_true]
               rw [go (i + 1) _ (cur ++ [s.getD i 0]) l (by omega) (by omega) (by simp; omega) (by omega)])
    · have h2 : i = s.length := by omega
      subst h2
      simp only [wt_.t0, za', zb', zc', zd', ze', zf', zg', zh', zi', zj', zk', zl', zm', zn', zo', zp', zq', zr', zs', zt', Int.lt_irrefl, drop_len, spl]
theorem wdg {K : Nat} {s : List UInt8} (hs : s.length < 1000000000) (hK : s.length + 1 < K) : wt_ K s = some (splitS s) := by
  obtain ⟨⟨p, h1⟩, h2⟩ := wcx s.length false [] [] s (by omega)
  simp only [List.nil_append, List.length_nil, Nat.zero_add] at h1 h2
  simp only [wt_, wt_.tr, wdp K K s hs (by omega) (by omega), za', zb', zc', zd', ze', zf', zg', zh', zi', zj', zk', zl', zm', zn', zo', zp', zq', zr', zs', zt', splitS]
  generalize hr : spl false [] [] s = r at h1 h2 ⊢
  obtain ⟨q, cur, out⟩ := r
  simp only at h1 h2 ⊢
  cases q with
  | true => simp only [za', zb', zc', zd', ze', zf', zg', zh', zi', zj', zk', zl', zm', zn', zo', zp', zq', zr', zs', zt']
  | false =>
    have hl : s.length = p.length + cur.length := by rw [h1]; simp
    have hmax : (out.length + 1) * 16 ≤ maxRoom := by simp only [maxRoom]; omega
    simp only [za', zb', zc', zd', ze', zf', zg', zh', zi', zj', zk', zl', zm', zn', zo', zp', zq', zr', zs', zt', wcL (K := K) (s := cur) (by omega) (by omega), addPart]
    by_cases c4 : trim cur = []
    · simp only [c4, beq_self_eq_true, za', zb', zc', zd', ze', zf', zg', zh', zi', zj', zk', zl', zm', zn', zo', zp', zq', zr', zs', zt']
    · have c5 : (trim cur == []) = false := by simpa using c4
      simp only [c4, c5, hmax, za', zb', zc', zd', ze', zf', zg', zh', zi', zj', zk', zl', zm', zn', zo', zp', zq', zr', zs', zt']
theorem wek (v : List UInt8) : (splitS v).2.1 = 0 ∨ ((splitS v).2.1 = 5 ∧ (splitS v).1 = []) := by
  unfold splitS
  simp only
  split
  · exact .inr ⟨rfl, rfl⟩
  · exact .inl rfl
theorem wev : ∀ (n m : Nat) (q : Bool) (cur : List UInt8) (out : List (List UInt8)) (r : List UInt8), r.length ≤ n → cur.length + r.length ≤ m → (∀ x ∈ out, x.length ≤ m) → ∀ x ∈ (spl q cur out r).2.2, x.length ≤ m := by
  intro n m
  have ap : ∀ (out : List (List UInt8)) (cur : List UInt8), cur.length ≤ m → (∀ x ∈ out, x.length ≤ m) → ∀ x ∈ addPart out cur, x.length ≤ m := by
    intro out cur hc ho x hx
    unfold addPart at hx
    split at hx
    · exact ho x hx
    · rcases List.mem_append.1 hx with hx | hx
      · exact ho x hx
      · obtain rfl := List.mem_singleton.1 hx
        have := wc5 cur
        omega
  induction n with
  | zero =>
    intro q cur out r h hc ho
    obtain rfl : r = [] := List.length_eq_zero_iff.1 (by omega)
    simpa [spl] using ho
  | succ n ih =>
    intro q cur out r h hc ho
    cases r with
    | nil => simpa [spl] using ho
    | cons c r =>
      simp only [List.length_cons] at h hc
      rw [wc0]
      split
      · exact ih _ _ _ _ (by omega) (by simp; omega) ho
      · split
        · cases r with
          | nil => exact ho
          | cons d r => simp only [List.length_cons] at h hc; exact ih _ _ _ _ (by omega) (by simp; omega) ho
        · split
          · exact ih _ _ _ _ (by omega) (by simp; omega) (ap _ _ (by omega) ho)
          · exact ih _ _ _ _ (by omega) (by simp; omega) ho
theorem wdT (v : List UInt8) : ∀ x ∈ (splitS v).1, x.length ≤ v.length := by
  have h1 := wev v.length v.length false [] [] v (by omega) (by simp) (by simp)
  obtain ⟨⟨p, h2⟩, _⟩ := wcx v.length false [] [] v (by omega)
  unfold splitS
  simp only
  split
  · intro x hx; cases hx
  · intro x hx
    simp only at hx
    unfold addPart at hx
    split at hx
    · exact h1 x hx
    · rcases List.mem_append.1 hx with hx | hx
      · exact h1 x hx
      · obtain rfl := List.mem_singleton.1 hx
        have h3 := wc5 (spl false [] [] v).2.1
        have h4 := congrArg List.length h2
        simp at h4
        omega
theorem wcv (v : List UInt8) : (splitS v).1.length ≤ v.length + 1 := by
  obtain ⟨_, h2⟩ := wcx v.length false [] [] v (by omega)
  unfold splitS
  simp only
  split
  · simp
  · have := wc7 (spl false [] [] v).2.2 (spl false [] [] v).2.1
    simp at h2 ⊢
    omega
end Go.Proofs.X
