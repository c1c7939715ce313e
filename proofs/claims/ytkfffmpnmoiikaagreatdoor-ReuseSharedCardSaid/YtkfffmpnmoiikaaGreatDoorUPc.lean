/-
  A part of the proof. No condition.
-/
import Derived.Test.YtkfffmpnmoiikaaGreatDoorUG1
import Derived.Test.YtkfffmpnmoiikaaGreatDoorFc
/- Chapter 07 (dates): days, civil dates, weekdays. No condition but on ranges. -/
set_option linter.unusedSimpArgs false
set_option linter.unusedVariables false
namespace Go.Proofs.X
open Go Go.Dp
/-! ### Leap years, months -/
def leapB (y : Int) : Bool := decide (y % 4 = 0) && (decide (y % 100 ≠ 0) || decide (y % 400 = 0))
def yearL (y : Int) : Int := if leapB y then 366 else 365
def mdL (y m : Int) : Int := (153 * (m - 3 + (if m ≤ 2 then 12 else 0)) + 2) / 5 + (if m ≤ 2 then -306 else 59 + (if leapB y then 1 else 0))
def longL (y m : Int) : Int := if m = 2 then (if leapB y then 29 else 28) else if m = 4 ∨ m = 6 ∨ m = 9 ∨ m = 11 then 30 else 31
def ydL (y : Int) : Int := 365 * (y - 1) + (y - 1) / 4 - (y - 1) / 100 + (y - 1) / 400 - 719162
def cnt (y m d : Int) : Int := ydL y + mdL y m + d - 1
def valid (y m d : Int) : Prop := 1970 ≤ y ∧ y ≤ 9999 ∧ 1 ≤ m ∧ m ≤ 12 ∧ 1 ≤ d ∧ d ≤ longL y m
theorem wf1 {K : Nat} {y : Int} (h : 0 ≤ y) : wbI K y = some (leapB y) := by
  simp (disch := omega) only [wbI, Int.tmod_eq_emod_of_nonneg]
  simp only [leapB]
  by_cases h1 : y % 4 = 0
  · by_cases h2 : y % 100 = 0
    · by_cases h3 : y % 400 = 0 <;> simp [h1, h2, h3]
    · simp [h1, h2]
  · simp [h1]
theorem wgJ {K : Nat} {y : Int} (h : 0 ≤ y) : wbC K y = some (yearL y) := by
  simp only [wbC, wf1 h, za', zb', zc', zd', ze', zf', zg', zh', zi', zj', zk', zl', zm', zn', zo', zp', zq', zr', zs', zt', yearL]
  cases leapB y <;> rfl
theorem wfo (y : Int) : ydL (y + 1) = ydL y + yearL y := by
  simp only [ydL, yearL, leapB, Bool.and_eq_true, Bool.or_eq_true, decide_eq_true_eq]
  split <;> omega
theorem months {m : Int} (h1 : 1 ≤ m) (h2 : m ≤ 12) : m = 1 ∨ m = 2 ∨ m = 3 ∨ m = 4 ∨ m = 5 ∨ m = 6 ∨ m = 7 ∨ m = 8 ∨ m = 9 ∨ m = 10 ∨ m = 11 ∨ m = 12 := by omega
theorem wgc (y : Int) {m : Int} (h1 : 1 ≤ m) (h2 : m ≤ 11) : mdL y (m + 1) = mdL y m + longL y m := by
  rcases months h1 (by omega) with h | h | h | h | h | h | h | h | h | h | h | h <;> subst h <;> simp only [mdL, longL] <;> cases leapB y <;> first | rfl | omega
theorem wfP (y : Int) : mdL y 1 = 0 := by simp only [mdL]; cases leapB y <;> rfl
theorem wgo (y : Int) : mdL y 12 + 31 = yearL y := by simp only [mdL, yearL]; cases leapB y <;> rfl
theorem wdJ (y m : Int) : 28 ≤ longL y m ∧ longL y m ≤ 31 := by simp only [longL]; split; (cases leapB y <;> simp); (split <;> simp)
theorem wg6 {K : Nat} {y m : Int} (h : 0 ≤ y) (h1 : 1 ≤ m) (h2 : m ≤ 12) : wbo K y m = some (longL y m) := by
  have hl := wf1 (K := K) h
  rcases months h1 h2 with h | h | h | h | h | h | h | h | h | h | h | h <;> subst h
  case inr.inl =>
    simp only [wbo, hl, za', zb', zc', zd', ze', zf', zg', zh', zi', zj', zk', zl', zm', zn', zo', zp', zq', zr', zs', zt', longL]
    cases leapB y <;> rfl
  all_goals (simp only [wbo, longL]; rfl)
theorem wdS {a b : Int} (h : a ≤ b) : ydL a ≤ ydL b := by simp only [ydL]; omega
theorem wfj (y : Int) : 365 ≤ yearL y ∧ yearL y ≤ 366 := by simp only [yearL]; split <;> simp
theorem weu {y m d : Int} (h : valid y m d) : ydL y ≤ cnt y m d ∧ cnt y m d < ydL y + yearL y := by
  obtain ⟨h1, h2, h3, h4, h5, h6⟩ := h
  simp only [cnt]
  revert h6
  rcases months h3 h4 with h | h | h | h | h | h | h | h | h | h | h | h <;> subst h <;> simp only [mdL, longL, yearL] <;> cases leapB y <;> simp <;> omega
theorem wev (y : Int) {a b : Int} (h1 : 1 ≤ a) (h2 : a ≤ b) (h3 : b ≤ 12) : mdL y a ≤ mdL y b := by
  simp only [mdL]
  split <;> split <;> omega
/-! ### The document's dates -/
theorem we2 {K : Nat} {y m d : Int} (h : valid y m d) (hK : 20000 ≤ K) :
    wc_.l0 K K ((cnt y m d, (1970, (1, ()))), ()) = some ((mdL y m + d - 1, (y, (1, ()))), ()) := by
  obtain ⟨hy1, hy2⟩ := weu h
  obtain ⟨h1, h2, _⟩ := h
  have H := idx_rule (l := wc_.l0 K) (wc_.t0 K) (fun _ _ => rfl) (y - 1970).toNat
    (fun i => ((cnt y m d - ydL (1970 + (i : Int)), ((1970 + (i : Int)), (1, ()))), ())) (fun _ => ((mdL y m + d - 1, (y, (1, ()))), ())) ?_ K 0 (by omega) (by omega)
  · have e : ydL 1970 = 0 := by decide
    simp only [Int.natCast_zero, Int.add_zero, e, Int.sub_zero] at H
    exact H
  · intro i rec hi ih
    have e1 := wgJ (K := K) (y := 1970 + (i : Int)) (by omega)
    have e2 := wfo (1970 + (i : Int))
    have e3 := wfj (1970 + (i : Int))
    have hlt : cnt y m d < 5000000 := by
      have := wdS (show y ≤ 9999 by omega)
      have e : ydL 9999 = 2932532 := by decide
      have := wfj y
      omega
    have h0 : 0 ≤ ydL (1970 + (i : Int)) := by
      have e : ydL 1970 = 0 := by decide
      have := wdS (show (1970 : Int) ≤ 1970 + (i : Int) by omega)
      omega
    by_cases hlt2 : i < (y - 1970).toNat
    · have hm := wdS (show 1970 + (i : Int) + 1 ≤ y by omega)
      have hge : cnt y m d - ydL (1970 + (i : Int)) ≥ yearL (1970 + (i : Int)) := by omega
      have ih' := ih hlt2
      have e4 : 1970 + ((i + 1 : Nat) : Int) = 1970 + (i : Int) + 1 := by omega
      rw [e4, e2, ← Int.sub_sub] at ih'
      simp only [wc_.t0, e1, za', zb', zc', zd', ze', zf', zg', zh', zi', zj', zk', zl', zm', zn', zo', zp', zq', zr', zs', zt', hge]
      rw [wrap64 (by omega) (by omega), wrap64 (by omega) (by omega)]
      exact ih'
    · have e4 : 1970 + (i : Int) = y := by omega
      rw [e4] at e1 e2 e3 ⊢
      have hge : ¬ cnt y m d - ydL y ≥ yearL y := by omega
      simp only [wc_.t0, e1, za', zb', zc', zd', ze', zf', zg', zh', zi', zj', zk', zl', zm', zn', zo', zp', zq', zr', zs', zt', hge]
      have e5 : cnt y m d - ydL y = mdL y m + d - 1 := by simp only [cnt]; omega
      rw [e5]
theorem we9 {K : Nat} {y m d : Int} (h : valid y m d) (hK : 20000 ≤ K) :
    wc_.l1 K K ((mdL y m + d - 1, (y, (1, ()))), ()) = some ((d - 1, (y, (m, ()))), ()) := by
  obtain ⟨h1, h2, h3, h4, h5, h6⟩ := h
  have H := idx_rule (l := wc_.l1 K) (wc_.t1 K) (fun _ _ => rfl) (m - 1).toNat
    (fun i => ((mdL y m + d - 1 - mdL y (1 + (i : Int)), (y, ((1 + (i : Int)), ()))), ())) (fun _ => ((d - 1, (y, (m, ()))), ())) ?_ K 0 (by omega) (by omega)
  · have e := wfP y
    simp only [Int.natCast_zero, Int.add_zero, e, Int.sub_zero] at H
    exact H
  · intro i rec hi ih
    have e1 := wg6 (K := K) (y := y) (m := 1 + (i : Int)) (by omega) (by omega) (by omega)
    have e3 := wdJ y (1 + (i : Int))
    have e6 := wdJ y m
    have e7 := wev y (show (1 : Int) ≤ 1 + (i : Int) by omega) (show 1 + (i : Int) ≤ m by omega) h4
    have e8 := wev y (show (1 : Int) ≤ 1 by omega) (show 1 ≤ 1 + (i : Int) by omega) (by omega)
    have e9 := wev y h3 h4 (Int.le_refl _)
    have e10 := wgo y
    have e11 := wfj y
    rw [wfP] at e8
    by_cases hlt2 : i < (m - 1).toNat
    · have e2 := wgc y (show (1 : Int) ≤ 1 + (i : Int) by omega) (by omega)
      have hm := wev y (show (1 : Int) ≤ 1 + (i : Int) + 1 by omega) (show 1 + (i : Int) + 1 ≤ m by omega) h4
      have hge : mdL y m + d - 1 - mdL y (1 + (i : Int)) ≥ longL y (1 + (i : Int)) := by omega
      have ih' := ih hlt2
      have e4 : 1 + ((i + 1 : Nat) : Int) = 1 + (i : Int) + 1 := by omega
      rw [e4, e2, ← Int.sub_sub] at ih'
      simp only [wc_.t1, e1, za', zb', zc', zd', ze', zf', zg', zh', zi', zj', zk', zl', zm', zn', zo', zp', zq', zr', zs', zt', hge]
      rw [wrap64 (by omega) (by omega), wrap64 (by omega) (by omega)]
      exact ih'
    · have e4 : 1 + (i : Int) = m := by omega
      rw [e4] at e1 ⊢
      have hge : ¬ mdL y m + d - 1 - mdL y m ≥ longL y m := by omega
      simp only [wc_.t1, e1, za', zb', zc', zd', ze', zf', zg', zh', zi', zj', zk', zl', zm', zn', zo', zp', zq', zr', zs', zt', hge]
      have e5 : mdL y m + d - 1 - mdL y m = d - 1 := by omega
      rw [e5]
theorem wdF {y m d : Int} (h : valid y m d) : 0 ≤ cnt y m d ∧ cnt y m d ≤ 2932896 := by
  obtain ⟨hy1, hy2⟩ := weu h
  have h' := h
  obtain ⟨h1, h2, h3, h4, h5, h6⟩ := h'
  have e : ydL 1970 = 0 := by decide
  have := wdS h1
  refine ⟨by omega, ?_⟩
  rcases Int.lt_or_le y 9999 with h | h
  · have := wdS (show y + 1 ≤ 9999 by omega)
    rw [wfo] at this
    have e : ydL 9999 = 2932532 := by decide
    omega
  · obtain rfl : y = 9999 := by omega
    have e : ydL 9999 + yearL 9999 = 2932897 := by decide
    omega
theorem wdB {K : Nat} {y m d : Int} (h : valid y m d) (hK : 20000 ≤ K) : wc_ K (cnt y m d) = some (y, m, d, true, ()) := by
  have hr := wdF h
  have c1 : ¬ cnt y m d < 0 := by omega
  have c2 : ¬ cnt y m d > 2932896 := by omega
  simp only [wc_, wc_.tr, c1, c2, za', zb', zc', zd', ze', zf', zg', zh', zi', zj', zk', zl', zm', zn', zo', zp', zq', zr', zs', zt', we2 h hK, we9 h hK]
  obtain ⟨h1, h2, h3, h4, h5, h6⟩ := h
  have := wdJ y m
  rw [wrap64 (by omega) (by omega)]
  simp
theorem weV {K : Nat} {n : Int} (h : n < 0 ∨ 2932896 < n) : wc_ K n = some (0, 0, 0, false, ()) := by
  by_cases h1 : n < 0
  · simp only [wc_, wc_.tr, h1, za', zb', zc', zd', ze', zf', zg', zh', zi', zj', zk', zl', zm', zn', zo', zp', zq', zr', zs', zt']
  · have h2 : n > 2932896 := by omega
    simp only [wc_, wc_.tr, h1, h2, za', zb', zc', zd', ze', zf', zg', zh', zi', zj', zk', zl', zm', zn', zo', zp', zq', zr', zs', zt']
end Go.Proofs.X
