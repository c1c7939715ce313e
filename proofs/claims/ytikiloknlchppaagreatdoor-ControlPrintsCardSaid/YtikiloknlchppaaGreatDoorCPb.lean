/-
  A part of the proof. No condition.
-/
import Derived.Test.YtikiloknlchppaaGreatDoorCPa
/- Chapter 13: the laws ControlParses and ControlPrints, as plain Lean. -/
set_option linter.unusedSimpArgs false
set_option linter.unusedVariables false
namespace Go.Proofs.X
open Go Go.Dp

theorem controls_ok (K : Nat) (hK : 100 ≤ K) : depotlaw13_controls K = some true := by
  have : ∀ K, depotlaw13_controls (K + 100) = some true := fun K => by kernel_rfl
  have h := this (K - 100)
  rwa [Nat.sub_add_cancel hK] at h
theorem sized_few {l : List Fld} {m b : Nat} (h : l.length ≤ m ∧ ∀ f ∈ l, small b f) (hm : m < 1000000) (hb : b < 100000) : sized l :=
  ⟨by omega, fun f hf => by obtain ⟨h1, h2⟩ := h.2 f hf; exact ⟨by omega, by omega⟩⟩
theorem controlParses_pure (a0 : List Fld) (v0 : vok (.list (.scons .str (.scons .str .snil))) a0) : ∃ k, depotlaw13_ControlParses k a0 = some true := by
  refine ⟨2000000000000, ?_⟩
  have hs := controls_ok 2000000000000 (by decide)
  obtain ⟨r, h1, h2⟩ := ref09_Few_ok 2000000000000 a0 70 1000 (by decide) (by decide)
  have h1 : depotref09_Few 2000000000000 a0 70 1000 = some r := h1
  cases r with
  | false => simp only [depotlaw13_ControlParses, h1, hs, bind_some', cond_true, cond_false, decide_true, decide_false, Bool.not_true, Bool.not_false, Bool.true_and, Bool.and_true, Bool.and_false, Bool.false_and, Int.toNat_natCast, Int.natCast_nonneg, if_true, if_false, Bool.false_eq_true, Int.toNat_zero, Int.natCast_zero, not_false_eq_true, not_true_eq_false, ite_true, ite_false]
  | true =>
    have z := sized_few (h2 rfl) (by decide) (by decide)
    simp only [depotlaw13_ControlParses, h1, hs, bind_some', cond_true, cond_false, decide_true, decide_false, Bool.not_true, Bool.not_false, Bool.true_and, Bool.and_true, Bool.and_false, Bool.false_and, Int.toNat_natCast, Int.natCast_nonneg, if_true, if_false, Bool.false_eq_true, Int.toNat_zero, Int.natCast_zero, not_false_eq_true, not_true_eq_false, ite_true, ite_false, control_Parse_ok z (show 1000000 + 100 ≤ 2000000000000 by decide), control_Asked_ok z (show 1000000 + 100 ≤ 2000000000000 by decide), ref13_Parse_ok z (show 1000000000000 + 100 ≤ 2000000000000 by decide), ref13_Asked_ok z (show 1000000000000 + 100 ≤ 2000000000000 by decide), beq_self_eq_true, eq_self]

def flL (ps : List (Bool × List UInt8)) : List (List UInt8) := ps.flatMap fun p => fl p.1 p.2
def nuL (qs : List (List UInt8 × Int)) : List (List UInt8) := qs.flatMap fun q => fl (decide (q.2 ≥ 0)) (q.1 ++ Lib.decDigits q.2.toNat)
theorem print_l0 {K : Nat} (c : Ctl) (ps : List (Bool × List UInt8)) (hl : ps.length ≤ 100) (hK : 1000 ≤ K) :
    depotref13_Print.l0 K K ((c, (ps.map (·.2), (ps.map (·.1), ((), (0, ()))))), ([], ())) = some ((c, ((), ())), (flL ps, ())) := by
  have H := idx_rule (l := depotref13_Print.l0 K) (depotref13_Print.t0 K) (fun _ _ => rfl) ps.length
    (fun i => ((c, (ps.map (·.2), (ps.map (·.1), ((), ((i : Int), ()))))), (flL (ps.take i), ()))) (fun i => ((c, ((), ())), (flL ps, ()))) ?_ K 0 (by omega) (by omega)
  · exact H
  · intro i rec hi ih
    by_cases h : i < ps.length
    · have hh : (i : Int) < ((ps.map (·.2)).length : Int) := by rw [List.length_map]; omega
      have hh2 : (i : Int) < ((ps.map (·.1)).length : Int) := by rw [List.length_map]; omega
      have w1 := wrapSucc (show i < 9223372036854775807 by omega)
      have ih' := ih h
      have hg : (ps.map (·.2)).getD i [] = (ps.getD i (false, [])).2 := by simp [List.getD_eq_getElem?_getD, h]
      have hg2 : (ps.map (·.1)).getD i false = (ps.getD i (false, [])).1 := by simp [List.getD_eq_getElem?_getD, h]
      have et : flL (ps.take (i + 1)) = flL (ps.take i) ++ fl (ps.getD i (false, [])).1 (ps.getD i (false, [])).2 := by rw [take_get ps (false, []) h]; simp [flL]
      have hfl : (flL (ps.take i)).length ≤ i := by
        have : ∀ xs : List (Bool × List UInt8), (flL xs).length ≤ xs.length := by
          intro xs
          induction xs with
          | nil => simp [flL]
          | cons x xs ihx =>
            have e : flL (x :: xs) = fl x.1 x.2 ++ flL xs := by simp [flL]
            have := fl_len x.1 x.2
            rw [e, List.length_append, List.length_cons]; omega
        exact Nat.le_trans (this _) (by simp; omega)
      have hr : ((flL (ps.take i)).length + 1) * 16 ≤ maxRoom := by simp only [maxRoom]; omega
      rw [et] at ih'
      cases b : (ps.getD i (false, [])).1 with
      | true =>
        rw [b] at ih'
        simp only [depotref13_Print.t0, bind_some', cond_true, cond_false, decide_true, decide_false, Bool.not_true, Bool.not_false, Bool.true_and, Bool.and_true, Bool.and_false, Bool.false_and, Int.toNat_natCast, Int.natCast_nonneg, if_true, if_false, Bool.false_eq_true, Int.toNat_zero, Int.natCast_zero, not_false_eq_true, not_true_eq_false, ite_true, ite_false, hh, hh2, hg, hg2, b, hr, w1]
        exact ih'
      | false =>
        rw [b, show fl false (ps.getD i (false, [])).2 = [] from rfl, List.append_nil] at ih'
        simp only [depotref13_Print.t0, bind_some', cond_true, cond_false, decide_true, decide_false, Bool.not_true, Bool.not_false, Bool.true_and, Bool.and_true, Bool.and_false, Bool.false_and, Int.toNat_natCast, Int.natCast_nonneg, if_true, if_false, Bool.false_eq_true, Int.toNat_zero, Int.natCast_zero, not_false_eq_true, not_true_eq_false, ite_true, ite_false, hh, hh2, hg, hg2, b, w1]
        exact ih'
    · have h2 : i = ps.length := by omega
      subst h2
      simp only [depotref13_Print.t0, bind_some', cond_true, cond_false, decide_true, decide_false, Bool.not_true, Bool.not_false, Bool.true_and, Bool.and_true, Bool.and_false, Bool.false_and, Int.toNat_natCast, Int.natCast_nonneg, if_true, if_false, Bool.false_eq_true, Int.toNat_zero, Int.natCast_zero, not_false_eq_true, not_true_eq_false, ite_true, ite_false, List.length_map, Int.lt_irrefl, List.take_length]
theorem print_l1 {K : Nat} (z : List (List UInt8)) (qs : List (List UInt8 × Int)) (hz : z.length ≤ 100) (hl : qs.length ≤ 100) (hq : ∀ q ∈ qs, q.1.length ≤ 100 ∧ q.2 < 9223372036854775808) (hK : 1000 ≤ K) :
    depotref13_Print.l1 K K (((), (qs.map (·.1), (qs.map (·.2), (0, ())))), (z, ())) = some (((), ()), (z ++ nuL qs, ())) := by
  have H := idx_rule (l := depotref13_Print.l1 K) (depotref13_Print.t1 K) (fun _ _ => rfl) qs.length
    (fun i => (((), (qs.map (·.1), (qs.map (·.2), ((i : Int), ())))), (z ++ nuL (qs.take i), ()))) (fun i => (((), ()), (z ++ nuL qs, ()))) ?_ K 0 (by omega) (by omega)
  · simpa [nuL] using H
  · intro i rec hi ih
    by_cases h : i < qs.length
    · have hh : (i : Int) < ((qs.map (·.1)).length : Int) := by rw [List.length_map]; omega
      have hh2 : (i : Int) < ((qs.map (·.2)).length : Int) := by rw [List.length_map]; omega
      have w1 := wrapSucc (show i < 9223372036854775807 by omega)
      have ih' := ih h
      obtain ⟨q1, q2⟩ := hq _ (getD_mem qs ([], 0) h)
      have hg : (qs.map (·.1)).getD i [] = (qs.getD i ([], 0)).1 := by simp [List.getD_eq_getElem?_getD, h]
      have hg2 : (qs.map (·.2)).getD i 0 = (qs.getD i ([], 0)).2 := by simp [List.getD_eq_getElem?_getD, h]
      have et : nuL (qs.take (i + 1)) = nuL (qs.take i) ++ fl (decide ((qs.getD i ([], 0)).2 ≥ 0)) ((qs.getD i ([], 0)).1 ++ Lib.decDigits (qs.getD i ([], 0)).2.toNat) := by rw [take_get qs ([], 0) h]; simp [nuL]
      have hfl : (nuL (qs.take i)).length ≤ i := by
        have : ∀ xs : List (List UInt8 × Int), (nuL xs).length ≤ xs.length := by
          intro xs
          induction xs with
          | nil => simp [nuL]
          | cons x xs ihx =>
            have e : nuL (x :: xs) = fl (decide (x.2 ≥ 0)) (x.1 ++ Lib.decDigits x.2.toNat) ++ nuL xs := by simp [nuL]
            have := fl_len (decide (x.2 ≥ 0)) (x.1 ++ Lib.decDigits x.2.toNat)
            rw [e, List.length_append, List.length_cons]; omega
        exact Nat.le_trans (this _) (by simp; omega)
      have hr : ((z ++ nuL (qs.take i)).length + 1) * 16 ≤ maxRoom := by rw [List.length_append]; simp only [maxRoom]; omega
      rw [et, ← List.append_assoc] at ih'
      by_cases b : (qs.getD i ([], 0)).2 ≥ 0
      · obtain ⟨n, hn⟩ := Int.eq_ofNat_of_zero_le b
        have hp := refPlain_ok (K := K) n (by omega) (by omega)
        have hd := decDigits_len 18 n (by have h19 : (9223372036854775808 : Nat) ≤ 10 ^ (18 + 1) := by decide
                                          omega)
        have hm : (qs.getD i ([], 0)).1.length + (Lib.decDigits n).length ≤ maxRoom := by simp only [maxRoom]; omega
        have hn0 : ((n : Int) ≥ 0) := by omega
        rw [hn] at ih'
        simp only [hn0, decide_true, Int.toNat_natCast] at ih'
        simp only [depotref13_Print.t1, bind_some', cond_true, cond_false, decide_true, decide_false, Bool.not_true, Bool.not_false, Bool.true_and, Bool.and_true, Bool.and_false, Bool.false_and, Int.toNat_natCast, Int.natCast_nonneg, if_true, if_false, Bool.false_eq_true, Int.toNat_zero, Int.natCast_zero, not_false_eq_true, not_true_eq_false, ite_true, ite_false, hh, hh2, hg, hg2, hn, hn0, hp, hm, hr, w1]
        exact ih'
      · rw [show decide ((qs.getD i ([], 0)).2 ≥ 0) = false from decide_eq_false b, show fl false ((qs.getD i ([], 0)).1 ++ Lib.decDigits (qs.getD i ([], 0)).2.toNat) = [] from rfl, List.append_nil] at ih'
        simp only [depotref13_Print.t1, bind_some', cond_true, cond_false, decide_true, decide_false, Bool.not_true, Bool.not_false, Bool.true_and, Bool.and_true, Bool.and_false, Bool.false_and, Int.toNat_natCast, Int.natCast_nonneg, if_true, if_false, Bool.false_eq_true, Int.toNat_zero, Int.natCast_zero, not_false_eq_true, not_true_eq_false, ite_true, ite_false, hh, hh2, hg, hg2, b, w1]
        exact ih'
    · have h2 : i = qs.length := by omega
      subst h2
      simp only [depotref13_Print.t1, bind_some', cond_true, cond_false, decide_true, decide_false, Bool.not_true, Bool.not_false, Bool.true_and, Bool.and_true, Bool.and_false, Bool.false_and, Int.toNat_natCast, Int.natCast_nonneg, if_true, if_false, Bool.false_eq_true, Int.toNat_zero, Int.natCast_zero, not_false_eq_true, not_true_eq_false, ite_true, ite_false, List.length_map, Int.lt_irrefl, List.take_length]
theorem ref13_Print_ok {K : Nat} (c : Ctl) (h6 : int64 c.2.2.2.2.2.2.1) (h7 : int64 c.2.2.2.2.2.2.2.1) (h8 : int64 c.2.2.2.2.2.2.2.2.1) (hK : 1000000 ≤ K) : depotref13_Print K c = some (Lib.join (printL c) sep2) := by
  have k0 := print_l0 (K := K) c [(c.1, nm0), (c.2.1, nm1), (c.2.2.1, nm2), (c.2.2.2.1, nm3), (c.2.2.2.2.1, nm4), (c.2.2.2.2.2.1, nm6)] (by show 6 ≤ 100; omega) (by omega)
  have hz : (flL [(c.1, nm0), (c.2.1, nm1), (c.2.2.1, nm2), (c.2.2.2.1, nm3), (c.2.2.2.2.1, nm4), (c.2.2.2.2.2.1, nm6)]).length ≤ 100 := by
    simp only [flL, List.flatMap_cons, List.flatMap_nil, List.length_append, List.length_nil]
    have g0 := fl_len c.1 nm0
    have g1 := fl_len c.2.1 nm1
    have g2 := fl_len c.2.2.1 nm2
    have g3 := fl_len c.2.2.2.1 nm3
    have g4 := fl_len c.2.2.2.2.1 nm4
    have g5 := fl_len c.2.2.2.2.2.1 nm6
    omega
  have k1 := print_l1 (K := K) _ [([109, 97, 120, 45, 97, 103, 101, 61], c.2.2.2.2.2.2.1), ([115, 45, 109, 97, 120, 97, 103, 101, 61], c.2.2.2.2.2.2.2.1), ([109, 105, 110, 45, 102, 114, 101, 115, 104, 61], c.2.2.2.2.2.2.2.2.1)] hz (by show 3 ≤ 100; omega) (by
    intro q hq
    simp only [List.mem_cons, List.not_mem_nil, or_false] at hq
    rcases hq with rfl | rfl | rfl
    · exact ⟨by show 8 ≤ 100; omega, h6.2⟩
    · exact ⟨by show 9 ≤ 100; omega, h7.2⟩
    · exact ⟨by show 10 ≤ 100; omega, h8.2⟩) (by omega)
  have hp : flL [(c.1, nm0), (c.2.1, nm1), (c.2.2.1, nm2), (c.2.2.2.1, nm3), (c.2.2.2.2.1, nm4), (c.2.2.2.2.2.1, nm6)] ++ nuL [([109, 97, 120, 45, 97, 103, 101, 61], c.2.2.2.2.2.2.1), ([115, 45, 109, 97, 120, 97, 103, 101, 61], c.2.2.2.2.2.2.2.1), ([109, 105, 110, 45, 102, 114, 101, 115, 104, 61], c.2.2.2.2.2.2.2.2.1)] = printL c := by
    simp only [flL, nuL, printL, numL, List.flatMap_cons, List.flatMap_nil, List.append_nil, List.append_assoc]
    rfl
  rw [hp] at k1
  have hj := ref06_Join_ok (K := K) (l := printL c) (by have := printL_len c; omega) 40 (by omega) (printL_short c h6 h7 h8) (by omega)
  simp only [depotref13_Print, depotref13_Print.tr]
  change Option.bind (depotref13_Print.l0 K K ((c, ([nm0, nm1, nm2, nm3, nm4, nm6], ([c.1, c.2.1, c.2.2.1, c.2.2.2.1, c.2.2.2.2.1, c.2.2.2.2.2.1], ((), (0, ()))))), ([], ()))) _ = _
  simp only [List.map_cons, List.map_nil] at k0 k1
  rw [k0]
  simp only [bind_some', cond_true, cond_false, decide_true, decide_false, Bool.not_true, Bool.not_false, Bool.true_and, Bool.and_true, Bool.and_false, Bool.false_and, Int.toNat_natCast, Int.natCast_nonneg, if_true, if_false, Bool.false_eq_true, Int.toNat_zero, Int.natCast_zero, not_false_eq_true, not_true_eq_false, ite_true, ite_false, k1, hj]
theorem wf64 {n : Int} (h : (Lit.int .i64 n).wf = true) : int64 n := by
  obtain ⟨h1, h2⟩ := wf_bounds h
  have e1 : IntKind.min .i64 = -9223372036854775808 := by decide
  have e2 : IntKind.max .i64 = 9223372036854775807 := by decide
  exact ⟨by omega, by omega⟩
theorem controlPrints_pure (a0 : Ctl) (a1 a2 : Int) (v0 : vok (.scons .bool (.scons .bool (.scons .bool (.scons .bool (.scons .bool (.scons .bool (.scons (.int .i64) (.scons (.int .i64) (.scons (.int .i64) .snil))))))))) a0) : ∃ k, depotlaw13_ControlPrints k a0 a1 a2 = some true := by
  refine ⟨2000000, ?_⟩
  have hs := controls_ok 2000000 (by decide)
  have h6 : int64 a0.2.2.2.2.2.2.1 := wf64 v0.2.2.2.2.2.2.1
  have h7 : int64 a0.2.2.2.2.2.2.2.1 := wf64 v0.2.2.2.2.2.2.2.1
  have h8 : int64 a0.2.2.2.2.2.2.2.2.1 := wf64 v0.2.2.2.2.2.2.2.2.1
  have p1 : control_Print 2000000 (a0.1, a0.2.1, a0.2.2.1, a0.2.2.2.1, a0.2.2.2.2.1, a0.2.2.2.2.2.1, a0.2.2.2.2.2.2.1, a0.2.2.2.2.2.2.2.1, a0.2.2.2.2.2.2.2.2.1, ()) = some (Lib.join (printL a0) sep2) := control_Print_ok a0 h6 h7 h8
  have p2 : depotref13_Print 2000000 (a0.1, a0.2.1, a0.2.2.1, a0.2.2.2.1, a0.2.2.2.2.1, a0.2.2.2.2.2.1, a0.2.2.2.2.2.2.1, a0.2.2.2.2.2.2.2.1, a0.2.2.2.2.2.2.2.2.1, ()) = some (Lib.join (printL a0) sep2) := ref13_Print_ok a0 h6 h7 h8 (by decide)
  simp only [depotlaw13_ControlPrints, p1, p2, hs, bind_some', cond_true, cond_false, decide_true, decide_false, Bool.not_true, Bool.not_false, Bool.true_and, Bool.and_true, Bool.and_false, Bool.false_and, Int.toNat_natCast, Int.natCast_nonneg, if_true, if_false, Bool.false_eq_true, Int.toNat_zero, Int.natCast_zero, not_false_eq_true, not_true_eq_false, ite_true, ite_false, control_Least_ok, refLeast_ok, beq_self_eq_true, eq_self]
end Go.Proofs.X

