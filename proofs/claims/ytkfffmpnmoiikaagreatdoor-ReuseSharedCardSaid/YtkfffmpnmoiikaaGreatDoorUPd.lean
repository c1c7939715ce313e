/-
  A part of the proof. No condition.
-/
import Derived.Test.YtkfffmpnmoiikaaGreatDoorUPc
/- Chapter 07 (dates): the program's own days and dates. -/
set_option linter.unusedSimpArgs false
set_option linter.unusedVariables false
namespace Go.Proofs.X
open Go Go.Dp
theorem wfc {y m d : Int} (h1 : 1970 ≤ y) (h2 : y ≤ 9999) (h3 : 1 ≤ m) (h4 : m ≤ 12) :
    cnt y m d = if m ≤ 2 then 365 * (y - 1) + (y - 1) / 4 - (y - 1) / 100 + (y - 1) / 400 + (153 * (m + 12 - 3) + 2) / 5 + d - 1 - 719468
      else 365 * y + y / 4 - y / 100 + y / 400 + (153 * (m - 3) + 2) / 5 + d - 1 - 719468 := by
  simp only [cnt, ydL, mdL, leapB, Bool.and_eq_true, Bool.or_eq_true, decide_eq_true_eq]
  by_cases h : m ≤ 2
  · simp only [h, if_true]; omega
  · simp only [h, if_false]; split <;> omega
theorem wgn {K : Nat} {y m d : Int} (h1 : 1970 ≤ y) (h2 : y ≤ 9999) (h3 : 1 ≤ m) (h4 : m ≤ 12) (h5 : 1 ≤ d) (h6 : d ≤ 31) : wcS K y m d = some (cnt y m d) := by
  rw [wfc h1 h2 h3 h4]
  by_cases h : m ≤ 2
  · simp (disch := omega) only [wcS, h, za', zb', zc', zd', ze', zf', zg', zh', zi', zj', zk', zl', zm', zn', zo', zp', zq', zr', zs', zt', wrap64, Int.tdiv_eq_ediv_of_nonneg]
  · simp (disch := omega) only [wcS, h, za', zb', zc', zd', ze', zf', zg', zh', zi', zj', zk', zl', zm', zn', zo', zp', zq', zr', zs', zt', wrap64, Int.tdiv_eq_ediv_of_nonneg]
/-! ### Civil -/
def eraN (r : Int) : Int := r - r / 1460 + r / 36524 - r / 146096
def eraY (r : Int) : Int := eraN r / 365
def eraS (Y : Int) : Int := 365 * Y + Y / 4 - Y / 100
theorem web {a b : Int} (h : 0 ≤ a) (h2 : a ≤ b) (h3 : b ≤ 146096) : eraN a ≤ eraN b := by simp only [eraN]; omega
theorem wgt : (List.range 400).all (fun n => decide (365 * (n : Int) ≤ eraN (eraS n)) &&
    decide (eraN (if n = 399 then 146096 else eraS (n + 1) - 1) ≤ 365 * (n : Int) + 364)) = true := by decide +kernel
theorem wfK {r : Int} (h0 : 0 ≤ r) (h1 : r < 146097) : 0 ≤ eraY r ∧ eraY r < 400 ∧ eraS (eraY r) ≤ r ∧ (r < eraS (eraY r + 1) ∨ eraY r = 399) := by
  have ex : ∀ n : Nat, n ≤ 399 → (eraS n ≤ r) → ∃ k : Nat, k ≤ 399 ∧ eraS k ≤ r ∧ (r < eraS (k + 1) ∨ k = 399) := by
    intro n hn
    obtain ⟨j, hj⟩ : ∃ j, 399 - n = j := ⟨_, rfl⟩
    induction j generalizing n with
    | zero => intro h; exact ⟨n, hn, h, .inr (by omega)⟩
    | succ j ih =>
      intro h
      rcases Int.lt_or_le r (eraS (n + 1)) with h' | h'
      · exact ⟨n, hn, h, .inl h'⟩
      · exact ih (n + 1) (by omega) (by omega) (by simpa using h')
  obtain ⟨k, hk, h2, h3⟩ := ex 0 (by omega) (by simpa [eraS] using h0)
  have ha := List.all_eq_true.1 wgt k (List.mem_range.2 (by omega))
  simp only [Bool.and_eq_true, decide_eq_true_eq] at ha
  obtain ⟨ha, hb⟩ := ha
  have hs : 0 ≤ eraS k := by simp only [eraS]; omega
  have m1 := web hs h2 (by omega)
  have e : eraY r = k := by
    have m3 : eraN r ≤ 365 * (k : Int) + 364 := by
      by_cases hk2 : k = 399
      · rw [if_pos hk2] at hb
        exact Int.le_trans (web h0 (show r ≤ 146096 by omega) (by omega)) hb
      · rw [if_neg hk2] at hb
        have h3' := h3.resolve_right hk2
        have hs2 : eraS (k + 1) ≤ 146097 := by simp only [eraS]; omega
        exact Int.le_trans (web h0 (show r ≤ eraS (k + 1) - 1 by omega) (by omega)) hb
    have m4 := Int.le_trans ha m1
    simp only [eraY]
    generalize eraN r = N at m3 m4
    omega
  rw [e]
  exact ⟨by omega, by omega, h2, h3.imp (fun h => h) fun h => by omega⟩
def civ (n : Int) : Int × Int × Int :=
  let z := n + 719468; let Y := eraY (z % 146097); let D := z % 146097 - eraS Y; let M := (5 * D + 2) / 153; let d := D - (153 * M + 2) / 5 + 1
  if M + 3 > 12 then (z / 146097 * 400 + Y + 1, M + 3 - 12, d) else (z / 146097 * 400 + Y, M + 3, d)
def cvY (z : Int) : Int := IntKind.wrap .i64 (Int.tdiv (IntKind.wrap .i64 ((IntKind.wrap .i64 ((IntKind.wrap .i64 ((Int.tmod z 146097) - (IntKind.wrap .i64 (Int.tdiv (Int.tmod z 146097) 1460)))) + (IntKind.wrap .i64 (Int.tdiv (Int.tmod z 146097) 36524)))) - (IntKind.wrap .i64 (Int.tdiv (Int.tmod z 146097) 146096)))) 365)
def cvD (z Y : Int) : Int := IntKind.wrap .i64 (Int.tmod z 146097 - IntKind.wrap .i64 (IntKind.wrap .i64 (IntKind.wrap .i64 (365 * Y) + IntKind.wrap .i64 (Int.tdiv Y 4)) - IntKind.wrap .i64 (Int.tdiv Y 100)))
def cvM (D : Int) : Int := IntKind.wrap .i64 (Int.tdiv (IntKind.wrap .i64 (IntKind.wrap .i64 (5 * D) + 2)) 153)
def cvd (D M : Int) : Int := IntKind.wrap .i64 (IntKind.wrap .i64 (D - IntKind.wrap .i64 (Int.tdiv (IntKind.wrap .i64 (IntKind.wrap .i64 (153 * M) + 2)) 5)) + 1)
def cvy (z Y : Int) : Int := IntKind.wrap .i64 (IntKind.wrap .i64 (IntKind.wrap .i64 (Int.tdiv z 146097) * 400) + Y)
def cvRest (z : Int) : Option (Int × Int × Int × Bool × Unit) :=
  let Y := cvY z; let D := cvD z Y; let M := cvM D
  Option.bind ((bif decide (IntKind.wrap .i64 (M + 3) > 12) then some ((IntKind.wrap .i64 (IntKind.wrap .i64 (M + 3) - 12), (cvd D M, (IntKind.wrap .i64 (cvy z Y + 1), ()))), ())
    else some ((IntKind.wrap .i64 (M + 3), (cvd D M, (cvy z Y, ()))), ())) : Option (((Int × (Int × (Int × Unit))) × Unit))) fun y2 => some (y2.1.2.2.1, (y2.1.1, (y2.1.2.1, (true, ()))))
theorem wfn (K : Nat) (n : Int) : wcC K n = Option.bind ((bif (!(decide (n < 0))) then (some ((n, ((decide (n > 2932896)), ())), ())) else (some ((n, (true, ())), ()))) : Option ((((Int) × ((Bool) × (Unit))) × (Unit)))) fun y1 => (bif y1.1.2.1 then (some (0, (0, (0, (false, ()))))) else cvRest (IntKind.wrap .i64 (y1.1.1 + 719468))) := rfl
theorem weA {n : Int} (h0 : 0 ≤ n) (h1 : n ≤ 2932896) : valid (civ n).1 (civ n).2.1 (civ n).2.2 ∧ cnt (civ n).1 (civ n).2.1 (civ n).2.2 = n := by
  have hY := wfK (r := (n + 719468) % 146097) (by omega) (by omega)
  obtain ⟨e, ee⟩ : ∃ e, (n + 719468) / 146097 = e := ⟨_, rfl⟩
  obtain ⟨r, er⟩ : ∃ r, (n + 719468) % 146097 = r := ⟨_, rfl⟩
  simp only [civ, ee, er]
  rw [er] at hY
  generalize eraY r = Y at hY ⊢
  obtain ⟨hY0, hY1, hY2, hY3⟩ := hY
  have hr0 : 0 ≤ r := by omega
  have hr1 : r < 146097 := by omega
  have hn : n = 146097 * e + r - 719468 := by omega
  have hD3 : r - eraS Y ≤ 365 ∧ (r - eraS Y = 365 → leapB (e * 400 + Y + 1) = true) := by
    have e1 : eraS 399 = 145731 := by decide
    rcases hY3 with h | h
    · simp only [eraS] at h hY2 ⊢
      refine ⟨by omega, fun h2 => ?_⟩
      have h5 : Y / 4 ≤ (Y + 1) / 4 := by omega
      have h6 : Y / 100 ≤ (Y + 1) / 100 := by omega
      have h3 : (Y + 1) % 4 = 0 := by omega
      have h4 : (Y + 1) % 100 ≠ 0 := by omega
      simp only [leapB, Bool.and_eq_true, Bool.or_eq_true, decide_eq_true_eq]
      exact ⟨by omega, .inl (by omega)⟩
    · subst h
      rw [e1]
      refine ⟨by omega, fun h2 => ?_⟩
      simp only [leapB, Bool.and_eq_true, Bool.or_eq_true, decide_eq_true_eq]
      omega
  obtain ⟨D, eD⟩ : ∃ D, r - eraS Y = D := ⟨_, rfl⟩
  rw [eD] at hD3 ⊢
  obtain ⟨hD1, hD2⟩ := hD3
  have hD0 : 0 ≤ D := by omega
  have hS : eraS Y = 365 * Y + Y / 4 - Y / 100 := rfl
  have q4 : (e * 400 + Y) / 4 = 100 * e + Y / 4 := by omega
  have q100 : (e * 400 + Y) / 100 = 4 * e + Y / 100 := by omega
  have q400 : (e * 400 + Y) / 400 = e := by omega
  have hS4 : Y ≤ 368 → eraS (Y + 1) ≤ 134774 := by intro h; simp only [eraS]; omega
  have hS5 : Y = 369 → eraS Y = 134774 := by rintro rfl; decide
  have he : 4 ≤ e := by omega
  have he2 : e ≤ 24 := by omega
  obtain ⟨M, eM⟩ : ∃ M, (5 * D + 2) / 153 = M := ⟨_, rfl⟩
  rw [eM]
  by_cases hM : M + 3 > 12
  · simp only [hM, if_true]
    have hM2 : M = 10 ∨ M = 11 := by omega
    have hy1 : 1970 ≤ e * 400 + Y + 1 := by omega
    have hy2 : e * 400 + Y + 1 ≤ 9999 := by omega
    refine ⟨⟨hy1, hy2, by omega, by omega, by omega, ?_⟩, ?_⟩
    · rcases hM2 with h | h <;> subst h
      · simp [longL]; omega
      · simp only [longL]
        rw [if_pos (by omega)]
        cases hl : leapB (e * 400 + Y + 1) with
        | true => simp; omega
        | false =>
          have : D ≠ 365 := fun h => by rw [hD2 h] at hl; cases hl
          simp; omega
    · rw [wfc hy1 hy2 (by omega) (by omega), if_pos (by omega)]
      rw [Int.add_sub_cancel, q4, q100, q400, show M + 3 - 12 + 12 - 3 = M by omega]
      omega
  · simp only [hM, if_false]
    have hM2 : 0 ≤ M ∧ M ≤ 9 := by omega
    have hy1 : 1970 ≤ e * 400 + Y := by
      rcases Int.lt_or_le Y 369 with h | h
      · have := hS4 (by omega); omega
      · rcases Int.lt_or_le 369 Y with h' | h'
        · omega
        · have := hS5 (by omega); omega
    have hy2 : e * 400 + Y ≤ 9999 := by omega
    refine ⟨⟨hy1, hy2, by omega, by omega, by omega, ?_⟩, ?_⟩
    · rcases months (show 1 ≤ M + 3 by omega) (by omega) with h | h | h | h | h | h | h | h | h | h | h | h <;> simp [longL, h] <;> omega
    · rw [wfc hy1 hy2 (by omega) (by omega), if_neg (by omega)]
      rw [q4, q100, q400, show M + 3 - 3 = M by omega]
      omega
theorem wdD {K : Nat} {n : Int} (h0 : 0 ≤ n) (h1 : n ≤ 2932896) : wcC K n = some ((civ n).1, (civ n).2.1, (civ n).2.2, true, ()) := by
  have hY := wfK (r := (n + 719468) % 146097) (by omega) (by omega)
  rw [wfn]
  simp only [show ¬ n < 0 by omega, show ¬ n > 2932896 by omega, za', zb', zc', zd', ze', zf', zg', zh', zi', zj', zk', zl', zm', zn', zo', zp', zq', zr', zs', zt']
  rw [wrap64 (by omega) (by omega)]
  have eY : cvY (n + 719468) = eraY ((n + 719468) % 146097) := by
    simp (disch := omega) only [cvY, eraY, eraN, wrap64, Int.tdiv_eq_ediv_of_nonneg, Int.tmod_eq_emod_of_nonneg]
  obtain ⟨hY0, hY1, hY2, hY3⟩ := hY
  simp only [cvRest, eY, civ]
  generalize eraY ((n + 719468) % 146097) = Y at hY0 hY1 hY2 hY3 ⊢
  have hS : eraS Y = 365 * Y + Y / 4 - Y / 100 := rfl
  have hS2 : eraS 399 = 145731 := by decide
  have hS3 : eraS (Y + 1) ≤ eraS Y + 366 := by simp only [eraS]; omega
  have eD : cvD (n + 719468) Y = (n + 719468) % 146097 - eraS Y := by
    simp (disch := omega) only [cvD, hS, wrap64, Int.tdiv_eq_ediv_of_nonneg, Int.tmod_eq_emod_of_nonneg]
  have hD1 : (n + 719468) % 146097 - eraS Y ≤ 366 := by
    rcases hY3 with h | h
    · omega
    · subst h; omega
  rw [eD]
  obtain ⟨D, eD2⟩ : ∃ D, (n + 719468) % 146097 - eraS Y = D := ⟨_, rfl⟩
  rw [eD2] at hD1 ⊢
  have hD0 : 0 ≤ D := by omega
  have eM : cvM D = (5 * D + 2) / 153 := by simp (disch := omega) only [cvM, wrap64, Int.tdiv_eq_ediv_of_nonneg]
  rw [eM]
  obtain ⟨M, eM2⟩ : ∃ M, (5 * D + 2) / 153 = M := ⟨_, rfl⟩
  rw [eM2]
  have ed : cvd D M = D - (153 * M + 2) / 5 + 1 := by simp (disch := omega) only [cvd, wrap64, Int.tdiv_eq_ediv_of_nonneg]
  have ey : cvy (n + 719468) Y = (n + 719468) / 146097 * 400 + Y := by simp (disch := omega) only [cvy, wrap64, Int.tdiv_eq_ediv_of_nonneg]
  rw [ed, ey]
  rw [wrap64 (x := M + 3) (by omega) (by omega)]
  by_cases hM : M + 3 > 12
  · simp only [hM, za', zb', zc', zd', ze', zf', zg', zh', zi', zj', zk', zl', zm', zn', zo', zp', zq', zr', zs', zt']
    rw [wrap64 (by omega) (by omega), wrap64 (by omega) (by omega)]
  · simp only [hM, za', zb', zc', zd', ze', zf', zg', zh', zi', zj', zk', zl', zm', zn', zo', zp', zq', zr', zs', zt']
theorem weE {K : Nat} {n : Int} (h : n < 0 ∨ 2932896 < n) : wcC K n = some (0, 0, 0, false, ()) := by
  rw [wfn]
  by_cases h1 : n < 0
  · simp only [h1, za', zb', zc', zd', ze', zf', zg', zh', zi', zj', zk', zl', zm', zn', zo', zp', zq', zr', zs', zt']
  · have h2 : n > 2932896 := by omega
    simp only [h1, h2, za', zb', zc', zd', ze', zf', zg', zh', zi', zj', zk', zl', zm', zn', zo', zp', zq', zr', zs', zt']
theorem wf4 {K : Nat} (n : Int) (hK : 20000 ≤ K) : wcC K n = wc_ K n := by
  by_cases h : n < 0 ∨ 2932896 < n
  · rw [weE h, weV h]
  · have h0 : 0 ≤ n := by omega
    have h1 : n ≤ 2932896 := by omega
    obtain ⟨hv, hc⟩ := weA h0 h1
    rw [wdD h0 h1]
    conv => rhs; rw [← hc]
    rw [wdB hv hK]
theorem wgW {y m d : Int} (h : valid y m d) : civ (cnt y m d) = (y, m, d) := by
  obtain ⟨h0, h1⟩ := wdF h
  have e := wf4 (K := 20000) (cnt y m d) (Nat.le_refl _)
  rw [wdD h0 h1, wdB h (Nat.le_refl _)] at e
  have e := Option.some.inj e
  simp only [Prod.mk.injEq] at e
  exact Prod.ext e.1 (Prod.ext e.2.1 e.2.2.1)
end Go.Proofs.X
