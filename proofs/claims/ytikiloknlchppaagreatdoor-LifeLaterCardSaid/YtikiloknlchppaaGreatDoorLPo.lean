/-
  A part of the proof. No condition.
-/
import Derived.Test.YtikiloknlchppaaGreatDoorLPn
/- Chapter 17: the laws LifeTells, LifeFields and LifeLater, as plain Lean. -/
set_option linter.unusedSimpArgs false
set_option linter.unusedVariables false
namespace Go.Proofs.X
open Go Go.Dp

theorem few_reply (K : Nat) (r : Rep) (hK : 1000 ≤ K) : ∃ b, depotref12_FewReply K r 500 = some b ∧ (b = true → r.2.2.2.1.length ≤ 70 ∧ ∀ f ∈ r.2.2.2.1, small 500 f) := by
  obtain ⟨q, h1, h2⟩ := ref09_Few_ok K r.2.2.2.1 70 500 (by decide) (by omega)
  have h1 : depotref09_Few K r.2.2.2.1 70 500 = some q := h1
  by_cases c1 : (r.2.1.length : Int) ≤ 500
  · by_cases c2 : (r.2.2.2.2.1.length : Int) ≤ 500
    · refine ⟨q, ?_, h2⟩
      simp only [depotref12_FewReply, c1, c2, h1, za', zb', zc', zd', ze', zf', zg', zh', zi', zj', zk', zl', zm', zn', zo', zp', zq', zr', zs', zt']
    · refine ⟨false, ?_, fun h => by cases h⟩
      simp only [depotref12_FewReply, c1, c2, za', zb', zc', zd', ze', zf', zg', zh', zi', zj', zk', zl', zm', zn', zo', zp', zq', zr', zs', zt']
  · refine ⟨false, ?_, fun h => by cases h⟩
    simp only [depotref12_FewReply, c1, za', zb', zc', zd', ze', zf', zg', zh', zi', zj', zk', zl', zm', zn', zo', zp', zq', zr', zs', zt']
theorem sized_few {l : List Fld} {m b : Nat} (h : l.length ≤ m ∧ ∀ f ∈ l, small b f) (hm : m < 1000000) (hb : b < 100000) : sized l :=
  ⟨by omega, fun f hf => by obtain ⟨h1, h2⟩ := h.2 f hf; exact ⟨by omega, by omega⟩⟩
abbrev tSto : Ty := .scons (.scons (.int .i64) (.scons .str (.scons (.int .i64) (.scons (.list (.scons .str (.scons .str .snil))) (.scons .str .snil))))) (.scons (.int .i64) (.scons (.list (.scons .str (.scons .bool (.scons .str .snil)))) .snil))
theorem lifeTells_pure (a0 : Sto) (a1 : Int) : ∃ k, depotlaw17_LifeTells k a0 a1 = some true := by
  refine ⟨2000000000000, ?_⟩
  have hs := lives_ok (K := 2000000000000) (by decide)
  obtain ⟨b, h1, h2⟩ := few_reply 2000000000000 a0.1 (by decide)
  have h1 : depotref12_FewReply 2000000000000 (a0.1.1, (a0.1.2.1, (a0.1.2.2.1, (a0.1.2.2.2.1, (a0.1.2.2.2.2.1, ()))))) 500 = some b := h1
  cases b with
  | false => simp only [depotlaw17_LifeTells, h1, hs, za', zb', zc', zd', ze', zf', zg', zh', zi', zj', zk', zl', zm', zn', zo', zp', zq', zr', zs', zt']
  | true =>
    have z := sized_few (h2 rfl) (by decide) (by decide)
    have e1 : life_Age 2000000000000 (((a0.1.1, (a0.1.2.1, (a0.1.2.2.1, (a0.1.2.2.2.1, (a0.1.2.2.2.2.1, ()))))), (a0.2.1, (a0.2.2.1, ())))) a1 = some (ageO a0 a1) := life_Age_ok (s := a0) z (by decide)
    have e2 : depotref17_Age 2000000000000 (((a0.1.1, (a0.1.2.1, (a0.1.2.2.1, (a0.1.2.2.2.1, (a0.1.2.2.2.2.1, ()))))), (a0.2.1, (a0.2.2.1, ())))) a1 = some (ageO a0 a1) := ref17_Age_ok (s := a0) z (by decide)
    have e3 : life_Lifetime 2000000000000 (((a0.1.1, (a0.1.2.1, (a0.1.2.2.1, (a0.1.2.2.2.1, (a0.1.2.2.2.2.1, ()))))), (a0.2.1, (a0.2.2.1, ())))) = some (lifeO a0) := life_Lifetime_ok (s := a0) z (by decide)
    have e4 : depotref17_Lifetime 2000000000000 (((a0.1.1, (a0.1.2.1, (a0.1.2.2.1, (a0.1.2.2.2.1, (a0.1.2.2.2.2.1, ()))))), (a0.2.1, (a0.2.2.1, ())))) = some (lifeO a0) := ref17_Lifetime_ok (s := a0) z (by decide)
    have e5 : life_Fresh 2000000000000 (((a0.1.1, (a0.1.2.1, (a0.1.2.2.1, (a0.1.2.2.2.1, (a0.1.2.2.2.2.1, ()))))), (a0.2.1, (a0.2.2.1, ())))) a1 = some (freshO a0 a1) := life_Fresh_ok (s := a0) z (by decide)
    have e6 : depotref17_Fresh 2000000000000 (((a0.1.1, (a0.1.2.1, (a0.1.2.2.1, (a0.1.2.2.2.1, (a0.1.2.2.2.2.1, ()))))), (a0.2.1, (a0.2.2.1, ())))) a1 = some (freshO a0 a1) := ref17_Fresh_ok (s := a0) z (by decide)
    have e7 : life_Left 2000000000000 (((a0.1.1, (a0.1.2.1, (a0.1.2.2.1, (a0.1.2.2.2.1, (a0.1.2.2.2.2.1, ()))))), (a0.2.1, (a0.2.2.1, ())))) a1 = some (leftO a0 a1) := life_Left_ok (s := a0) z (by decide)
    have e8 : depotref17_Left 2000000000000 (((a0.1.1, (a0.1.2.1, (a0.1.2.2.1, (a0.1.2.2.2.1, (a0.1.2.2.2.2.1, ()))))), (a0.2.1, (a0.2.2.1, ())))) a1 = some (leftO a0 a1) := ref17_Left_ok (s := a0) z (by decide)
    simp only [depotlaw17_LifeTells, h1, hs, za', zb', zc', zd', ze', zf', zg', zh', zi', zj', zk', zl', zm', zn', zo', zp', zq', zr', zs', zt', e1, e2, e3, e4, e5, e6, e7, e8, eq_self, beq_self_eq_true]
theorem lifeFields_pure (a0 : Sto) (a1 : List UInt8) : ∃ k, depotlaw17_LifeFields k a0 a1 = some true := by
  refine ⟨2000000000000, ?_⟩
  have hs := lives_ok (K := 2000000000000) (by decide)
  obtain ⟨b, h1, h2⟩ := few_reply 2000000000000 a0.1 (by decide)
  have h1 : depotref12_FewReply 2000000000000 (a0.1.1, (a0.1.2.1, (a0.1.2.2.1, (a0.1.2.2.2.1, (a0.1.2.2.2.2.1, ()))))) 500 = some b := h1
  cases b with
  | false => simp only [depotlaw17_LifeFields, h1, hs, za', zb', zc', zd', ze', zf', zg', zh', zi', zj', zk', zl', zm', zn', zo', zp', zq', zr', zs', zt']
  | true =>
    have z := sized_few (h2 rfl) (by decide) (by decide)
    by_cases c : (a1.length : Int) > 500
    · simp only [depotlaw17_LifeFields, h1, hs, za', zb', zc', zd', ze', zf', zg', zh', zi', zj', zk', zl', zm', zn', zo', zp', zq', zr', zs', zt', c]
    · have e1 := life_When_ok (K := 2000000000000) (n := a1) z (by omega) (by decide)
      have e2 := ref17_When_ok (K := 2000000000000) (n := a1) z (by omega) (by decide)
      have e3 : life_Date 2000000000000 (((a0.1.1, (a0.1.2.1, (a0.1.2.2.1, (a0.1.2.2.2.1, (a0.1.2.2.2.2.1, ()))))), (a0.2.1, (a0.2.2.1, ())))) = some (dateO a0) := life_Date_ok (s := a0) z (by decide)
      have e4 : depotref17_Date 2000000000000 (((a0.1.1, (a0.1.2.1, (a0.1.2.2.1, (a0.1.2.2.2.1, (a0.1.2.2.2.2.1, ()))))), (a0.2.1, (a0.2.2.1, ())))) = some (dateO a0) := ref17_Date_ok (s := a0) z (by decide)
      have e5 : life_Told 2000000000000 (a0.1.1, (a0.1.2.1, (a0.1.2.2.1, (a0.1.2.2.2.1, (a0.1.2.2.2.2.1, ()))))) = some (toldO a0.1.2.2.2.1) := life_Told_ok (r := a0.1) z (by decide)
      have e6 : depotref17_Told 2000000000000 (a0.1.1, (a0.1.2.1, (a0.1.2.2.1, (a0.1.2.2.2.1, (a0.1.2.2.2.2.1, ()))))) = some (toldO a0.1.2.2.2.1) := ref17_Told_ok (r := a0.1) z (by decide)
      simp only [depotlaw17_LifeFields, h1, hs, za', zb', zc', zd', ze', zf', zg', zh', zi', zj', zk', zl', zm', zn', zo', zp', zq', zr', zs', zt', c, e1, e2, e3, e4, e5, e6, life_Usual_ok, ref17_Usual_ok _ (show 100 ≤ 2000000000000 by decide), eq_self, beq_self_eq_true]
theorem parseC_small (l : List Fld) : (parseC l).2.2.2.2.2.2.2.1 ≤ 2147483648 ∧ (parseC l).2.2.2.2.2.2.1 ≤ 2147483648 := by
  have H : ∀ (es : List El) (nm : List UInt8) (n : Int), n ≤ 2147483648 → leastE es nm n ≤ 2147483648 := by
    intro es nm
    induction es with
    | nil => intro n h; exact h
    | cons p es ih =>
      intro n h
      have h1 := secV_range p.2 0 (by omega) (by omega)
      refine ih _ ?_
      show (if (p.1 == nm) = true then leastI n (secV p.2 0) else n) ≤ _
      split
      · unfold leastI; (repeat' split) <;> omega
      · exact h
  rw [parseC, parseV_refV]
  exact ⟨H _ _ _ (by omega), H _ _ _ (by omega)⟩
theorem lifeO_range (s : Sto) : 0 ≤ lifeO s ∧ lifeO s ≤ 2147483648 := by
  have h1 := parseC_small s.1.2.2.2.1
  have h2 := apt_range (whenO s.1.2.2.2.1 nExp).1 (dateO s)
  have h3 := apt_range (dateO s) (whenO s.1.2.2.2.1 nMod).1
  unfold lifeO
  (repeat' split) <;> omega
theorem age_later {s : Sto} {now d : Int} (h0 : 0 ≤ s.2.1) (h1 : s.2.1 ≤ now) (h2 : 0 ≤ d) (h3 : now + d ≤ 253402300799) : ageO s (now + d) = min (ageO s now + d) 2147483648 ∧ 0 ≤ ageO s now ∧ ageO s now ≤ 2147483648 := by
  have h4 := apt_range s.2.1 (dateO s)
  have h5 := toldO_range s.1.2.2.2.1
  unfold ageO
  generalize max (apt s.2.1 (dateO s)) (toldO s.1.2.2.2.1) = m
  unfold addS hold apt clk
  omega
theorem lifeLater_pure (a0 : Sto) (a1 a2 : Int) (b1 : -9223372036854775808 ≤ a1) (b1' : a1 < 9223372036854775808) (b2 : -9223372036854775808 ≤ a2) (b2' : a2 < 9223372036854775808) : ∃ k, depotlaw17_LifeLater k a0 a1 a2 = some true := by
  refine ⟨2000000000000, ?_⟩
  have hs := lives_ok (K := 2000000000000) (by decide)
  obtain ⟨b, h1, h2⟩ := few_reply 2000000000000 a0.1 (by decide)
  have h1 : depotref12_FewReply 2000000000000 (a0.1.1, (a0.1.2.1, (a0.1.2.2.1, (a0.1.2.2.2.1, (a0.1.2.2.2.2.1, ()))))) 500 = some b := h1
  cases b with
  | false => simp only [depotlaw17_LifeLater, h1, hs, za', zb', zc', zd', ze', zf', zg', zh', zi', zj', zk', zl', zm', zn', zo', zp', zq', zr', zs', zt']
  | true =>
  have z := sized_few (h2 rfl) (by decide) (by decide)
  by_cases c1 : a0.2.1 < 0
  · simp only [depotlaw17_LifeLater, h1, hs, za', zb', zc', zd', ze', zf', zg', zh', zi', zj', zk', zl', zm', zn', zo', zp', zq', zr', zs', zt', c1]
  by_cases c2 : a1 < a0.2.1
  · simp only [depotlaw17_LifeLater, h1, hs, za', zb', zc', zd', ze', zf', zg', zh', zi', zj', zk', zl', zm', zn', zo', zp', zq', zr', zs', zt', c1, c2]
  by_cases c3 : a2 < 0
  · simp only [depotlaw17_LifeLater, h1, hs, za', zb', zc', zd', ze', zf', zg', zh', zi', zj', zk', zl', zm', zn', zo', zp', zq', zr', zs', zt', c1, c2, c3]
  by_cases c4 : a1 > 253402300799
  · simp only [depotlaw17_LifeLater, h1, hs, za', zb', zc', zd', ze', zf', zg', zh', zi', zj', zk', zl', zm', zn', zo', zp', zq', zr', zs', zt', c1, c2, c3, c4]
  have w0 : IntKind.wrap .i64 (253402300799 - a1) = 253402300799 - a1 := wrap64 (by omega) (by omega)
  by_cases c5 : a2 > 253402300799 - a1
  · simp only [depotlaw17_LifeLater, h1, hs, za', zb', zc', zd', ze', zf', zg', zh', zi', zj', zk', zl', zm', zn', zo', zp', zq', zr', zs', zt', c1, c2, c3, c4, w0, c5]
  have ag : ∀ x : Int, life_Age 2000000000000 (((a0.1.1, (a0.1.2.1, (a0.1.2.2.1, (a0.1.2.2.2.1, (a0.1.2.2.2.2.1, ()))))), (a0.2.1, (a0.2.2.1, ())))) x = some (ageO a0 x) := fun x => life_Age_ok (s := a0) z (by decide)
  have fr : ∀ x : Int, life_Fresh 2000000000000 (((a0.1.1, (a0.1.2.1, (a0.1.2.2.1, (a0.1.2.2.2.1, (a0.1.2.2.2.2.1, ()))))), (a0.2.1, (a0.2.2.1, ())))) x = some (freshO a0 x) := fun x => life_Fresh_ok (s := a0) z (by decide)
  have le : ∀ x : Int, life_Left 2000000000000 (((a0.1.1, (a0.1.2.1, (a0.1.2.2.1, (a0.1.2.2.2.1, (a0.1.2.2.2.2.1, ()))))), (a0.2.1, (a0.2.2.1, ())))) x = some (leftO a0 x) := fun x => life_Left_ok (s := a0) z (by decide)
  have L := lifeO_range a0
  obtain ⟨A, A0, A1⟩ := age_later (s := a0) (now := a1) (d := a2) (by omega) (by omega) (by omega) (by omega)
  have w1 : IntKind.wrap .i64 (a1 + a2) = a1 + a2 := wrap64 (by omega) (by omega)
  have w2 : IntKind.wrap .i64 (ageO a0 a1 + a2) = ageO a0 a1 + a2 := wrap64 (by omega) (by omega)
  have B : ageO a0 (a1 + a2) = (if 2147483648 < ageO a0 a1 + a2 then 2147483648 else ageO a0 a1 + a2) := by rw [A]; simp only [Int.min_def]; (repeat' split) <;> omega
  have hl : leftO a0 a1 = max (lifeO a0 - ageO a0 a1) 0 := by unfold leftO lessS hold; omega
  have hle : 0 ≤ leftO a0 a1 ∧ leftO a0 a1 ≤ 2147483648 := by omega
  have w3 : IntKind.wrap .i64 (leftO a0 a1 - 1) = leftO a0 a1 - 1 := wrap64 (by omega) (by omega)
  have f0 : freshO a0 a1 = decide (leftO a0 a1 > 0) := by unfold freshO; rw [decide_eq_decide]; omega
  have f2 : freshO a0 (a1 + a2) = true → freshO a0 a1 = true := by
    unfold freshO
    rw [decide_eq_true_eq, decide_eq_true_eq, A]
    omega
  have n1 : ¬ ageO a0 a1 < 0 := by omega
  have n2 : ¬ ageO a0 a1 > 2147483648 := by omega
  have f3 : ¬ ageO a0 a1 < 2147483648 → freshO a0 a1 = false := fun h => by unfold freshO; exact decide_eq_false (by omega)
  have mn : (if a2 < leftO a0 a1 - 1 then a2 else leftO a0 a1 - 1) = min a2 (leftO a0 a1 - 1) := by simp only [Int.min_def]; (repeat' split) <;> omega
  -- the part before the lefts
  have P1 : (decide (ageO a0 (a1 + a2) = (if 2147483648 < ageO a0 a1 + a2 then 2147483648 else ageO a0 a1 + a2))) = true := decide_eq_true B
  have T : ∀ x : Int, 0 ≤ x → a1 + x ≤ 253402300799 → ageO a0 (a1 + x) = min (ageO a0 a1 + x) 2147483648 := fun x h h' => (age_later (s := a0) (now := a1) (d := x) (by omega) (by omega) h h').1
  by_cases d1 : leftO a0 a1 = 0
  · have d1' : ¬ leftO a0 a1 > 0 := by omega
    have f0' : freshO a0 a1 = false := by rw [f0]; exact decide_eq_false d1'
    have f2' : freshO a0 (a1 + a2) = false := by
      cases h : freshO a0 (a1 + a2) with
      | false => rfl
      | true => have := f2 h; rw [f0'] at this; cases this
    by_cases d2 : ageO a0 a1 < 2147483648
    · simp only [depotlaw17_LifeLater, h1, hs, za', zb', zc', zd', ze', zf', zg', zh', zi', zj', zk', zl', zm', zn', zo', zp', zq', zr', zs', zt', c1, c2, c3, c4, w0, c5, ag, fr, le, w1, w2, P1, n1, n2, f0', f2', d1, d2, Int.lt_irrefl, gt_iff_lt, beq_self_eq_true]
    · simp only [depotlaw17_LifeLater, h1, hs, za', zb', zc', zd', ze', zf', zg', zh', zi', zj', zk', zl', zm', zn', zo', zp', zq', zr', zs', zt', c1, c2, c3, c4, w0, c5, ag, fr, le, w1, w2, P1, n1, n2, f0', f2', d1, d2, Int.lt_irrefl, gt_iff_lt, beq_self_eq_true]
  · have d1' : leftO a0 a1 > 0 := by omega
    have f0' : freshO a0 a1 = true := by rw [f0]; exact decide_eq_true d1'
    have d2 : ageO a0 a1 < 2147483648 := by
      by_cases h : ageO a0 a1 < 2147483648
      · exact h
      · have := f3 h; rw [f0'] at this; cases this
    have w4 : IntKind.wrap .i64 (a1 + min a2 (leftO a0 a1 - 1)) = a1 + min a2 (leftO a0 a1 - 1) := wrap64 (by omega) (by omega)
    have f5 : freshO a0 (a1 + min a2 (leftO a0 a1 - 1)) = true := by
      unfold freshO
      rw [decide_eq_true_eq, T _ (by omega) (by omega)]
      omega
    have hf2 : ∀ b : Bool, (bif b then some false else some false) = some false := fun b => by cases b <;> rfl
    by_cases d3 : a2 < leftO a0 a1
    · cases q : freshO a0 (a1 + a2) <;> simp only [depotlaw17_LifeLater, h1, hs, za', zb', zc', zd', ze', zf', zg', zh', zi', zj', zk', zl', zm', zn', zo', zp', zq', zr', zs', zt', c1, c2, c3, c4, w0, c5, ag, fr, le, w1, w2, w3, w4, mn, P1, n1, n2, f0', f5, q, d1, d1', d2, d3, beq_self_eq_true]
    · have w5 : IntKind.wrap .i64 (a1 + leftO a0 a1) = a1 + leftO a0 a1 := wrap64 (by omega) (by omega)
      have f6 : freshO a0 (a1 + leftO a0 a1) = false := by
        unfold freshO
        rw [decide_eq_false_iff_not, T _ (by omega) (by omega)]
        omega
      cases q : freshO a0 (a1 + a2) <;> simp only [depotlaw17_LifeLater, h1, hs, za', zb', zc', zd', ze', zf', zg', zh', zi', zj', zk', zl', zm', zn', zo', zp', zq', zr', zs', zt', c1, c2, c3, c4, w0, c5, ag, fr, le, w1, w2, w3, w4, w5, mn, P1, n1, n2, f0', f5, f6, q, d1, d1', d2, d3, beq_self_eq_true]
end Go.Proofs.X

