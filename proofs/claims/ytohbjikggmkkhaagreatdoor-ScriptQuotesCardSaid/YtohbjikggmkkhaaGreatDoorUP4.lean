/-
  A part of the proof. No condition.
-/
import Derived.Test.YtohbjikggmkkhaaGreatDoorUP3
/- Quoted texts read back: the reference. No condition. -/
set_option linter.unusedSimpArgs false
set_option linter.unusedVariables false
namespace Go.Proofs.X
open Go Go.Dp

set_option maxHeartbeats 2000000 in
theorem refunq_step (s t : List UInt8) (i : Nat) (rec : _) (hs : s.length ≤ 2000) (ht : t.length ≤ 10000) (h : i < s.length) :
    depotref36_Unquote.t0 5000 rec ((s, (t, ((i : Int), ()))), ()) =
      if s.getD i 0 = 34 then some (.inr ((t, (((i + 1 : Nat) : Int), (0, ()))), ())) else
      if (esc (s.drop i)).2 = 0 then some (.inr (([], (0, (40, ()))), ())) else
      rec ((s, (t ++ [UInt8.ofNat (esc (s.drop i)).1.toNat], (IntKind.wrap .i64 ((i : Int) + (esc (s.drop i)).2), ()))), ()) := by
  rw [esc_drop s i h]
  have hh : (i : Int) < (s.length : Int) := by omega
  have h0 : (0 : Int) ≤ (i : Int) := by omega
  obtain ⟨j1, hj1⟩ : ∃ j : Int, j = ((i + 1 : Nat) : Int) := ⟨_, rfl⟩
  obtain ⟨j2, hj2⟩ : ∃ j : Int, j = ((i + 2 : Nat) : Int) := ⟨_, rfl⟩
  obtain ⟨j3, hj3⟩ : ∃ j : Int, j = ((i + 3 : Nat) : Int) := ⟨_, rfl⟩
  obtain ⟨j4, hj4⟩ : ∃ j : Int, j = ((i + 4 : Nat) : Int) := ⟨_, rfl⟩
  have w1 : IntKind.wrap .i64 ((i : Int) + 1) = j1 := by rw [hj1, wrap64] <;> omega
  have w2 : IntKind.wrap .i64 ((i : Int) + 2) = j2 := by rw [hj2, wrap64] <;> omega
  have w3 : IntKind.wrap .i64 ((i : Int) + 3) = j3 := by rw [hj3, wrap64] <;> omega
  have w4 : IntKind.wrap .i64 ((i : Int) + 4) = j4 := by rw [hj4, wrap64] <;> omega
  have t1 : j1.toNat = i + 1 := by omega
  have t2 : j2.toNat = i + 2 := by omega
  have t3 : j3.toNat = i + 3 := by omega
  have z1 : (0 : Int) ≤ j1 := by omega
  have z2 : (0 : Int) ≤ j2 := by omega
  have z3 : (0 : Int) ≤ j3 := by omega
  have o1 : (i : Int) ≤ j1 := by omega
  have o2 : j1 ≤ j2 := by omega
  have hw1 : j1 ≤ (s.length : Int) := by omega
  have hc1 : cut s i (i + 1) = [s.getD i 0] := by rw [cut_succ s 0 (Nat.le_refl _) h, cut_self]; rfl
  have m1 : t.length + 1 ≤ maxRoom := by unfold maxRoom; omega
  generalize hb : s.getD i 0 = b at hc1 ⊢
  have d1 : decide ((b.toNat : Int) < 32) = decide (b.toNat < 32) := by rw [decide_eq_decide]; omega
  have d2 : decide ((b.toNat : Int) > 126) = decide (126 < b.toNat) := by rw [decide_eq_decide]; omega
  have e34 := byte34 b
  have e92 := byte92 b
  rw [← hj1]
  simp only [depotref36_Unquote.t0, Int.toNat_natCast, hh, h0, hb, d1, d2, e34, e92, w1, decide_true, cond_true, Bool.and_true]
  by_cases c3 : b = 34
  · simp [c3]
  by_cases c1 : b.toNat < 32
  · simp [c3, c1]
  by_cases c2 : 126 < b.toNat
  · simp [c3, c1, c2]
  by_cases c4 : b = 92
  · subst c4
    by_cases l1 : s.length ≤ i + 1
    · have l1' : (s.length : Int) ≤ j1 := by omega
      simp [-List.getD_eq_getElem?_getD, hh, h0, hb, e34, e92, w1, w2, w3, w4, z1, z2, z3, t1, t2, t3, o1, o2, m1, hw1, hc1, l1, l1']
    have l1' : ¬ (s.length : Int) ≤ j1 := by omega
    have l1'' : j1 < (s.length : Int) := by omega
    have hw2 : j2 ≤ (s.length : Int) := by omega
    have hc2 : cut s (i + 1) (i + 2) = [s.getD (i + 1) 0] := by rw [cut_succ s 0 (Nat.le_refl _) (by omega), cut_self]; rfl
    generalize hd : s.getD (i + 1) 0 = d at hc2 ⊢
    have f114 : ((d.toNat : Int) = 114) ↔ d = 114 := byteN d 114 (by decide)
    have f110 : ((d.toNat : Int) = 110) ↔ d = 110 := byteN d 110 (by decide)
    have f116 : ((d.toNat : Int) = 116) ↔ d = 116 := byteN d 116 (by decide)
    have f34 := byte34 d
    have f92 := byte92 d
    have f120 : ((d.toNat : Int) = 120) ↔ d = 120 := byteN d 120 (by decide)
    by_cases d1 : d = 114
    · simp [-List.getD_eq_getElem?_getD, hh, h0, hb, e34, e92, w1, w2, w3, w4, z1, z2, z3, t1, t2, t3, o1, o2, m1, hw1, hc1, l1, l1', l1'', hw2, hc2, hd, f114, f110, f116, f34, f92, f120, d1]
    by_cases d2 : d = 110
    · simp [-List.getD_eq_getElem?_getD, hh, h0, hb, e34, e92, w1, w2, w3, w4, z1, z2, z3, t1, t2, t3, o1, o2, m1, hw1, hc1, l1, l1', l1'', hw2, hc2, hd, f114, f110, f116, f34, f92, f120, d1, d2]
    by_cases d3 : d = 116
    · simp [-List.getD_eq_getElem?_getD, hh, h0, hb, e34, e92, w1, w2, w3, w4, z1, z2, z3, t1, t2, t3, o1, o2, m1, hw1, hc1, l1, l1', l1'', hw2, hc2, hd, f114, f110, f116, f34, f92, f120, d1, d2, d3]
    by_cases d4 : d = 34
    · simp [-List.getD_eq_getElem?_getD, hh, h0, hb, e34, e92, w1, w2, w3, w4, z1, z2, z3, t1, t2, t3, o1, o2, m1, hw1, hc1, l1, l1', l1'', hw2, hc2, hd, f114, f110, f116, f34, f92, f120, d1, d2, d3, d4]
    by_cases d5 : d = 92
    · simp [-List.getD_eq_getElem?_getD, hh, h0, hb, e34, e92, w1, w2, w3, w4, z1, z2, z3, t1, t2, t3, o1, o2, m1, hw1, hc1, l1, l1', l1'', hw2, hc2, hd, f114, f110, f116, f34, f92, f120, d1, d2, d3, d4, d5]
    by_cases d6 : d = 120
    · by_cases l3 : s.length ≤ i + 3
      · have l3' : (s.length : Int) ≤ j3 := by omega
        simp [-List.getD_eq_getElem?_getD, hh, h0, hb, e34, e92, w1, w2, w3, w4, z1, z2, z3, t1, t2, t3, o1, o2, m1, hw1, hc1, l1, l1', l1'', hw2, hc2, hd, f114, f110, f116, f34, f92, f120, d1, d2, d3, d4, d5, d6, l3, l3']
      have l3' : ¬ (s.length : Int) ≤ j3 := by omega
      have l3'' : j3 < (s.length : Int) := by omega
      have l2'' : j2 < (s.length : Int) := by omega
      obtain ⟨_, a1, a3, a4⟩ := hv_fact (s.getD (i + 2) 0)
      obtain ⟨_, b1, b3, b4⟩ := hv_fact (s.getD (i + 3) 0)
      generalize hv (s.getD (i + 2) 0) = A at a1 a3 a4 ⊢
      generalize hv (s.getD (i + 3) 0) = B at b1 b3 b4 ⊢
      have q1 : IntKind.wrap .i64 (16 * A.1) = 16 * A.1 := by rw [wrap64] <;> omega
      have q2 : IntKind.wrap .i64 (16 * A.1 + B.1) = 16 * A.1 + B.1 := by rw [wrap64] <;> omega
      have q3 : IntKind.wrap .u8 (16 * A.1 + B.1) = 16 * A.1 + B.1 := by rw [wrap8] <;> omega
      have q4 : bytesOf [16 * A.1 + B.1] = [UInt8.ofNat (16 * A.1 + B.1).toNat] := rfl
      cases hA : A.2.1 <;> cases hB : B.2.1 <;> simp [-List.getD_eq_getElem?_getD, hh, h0, hb, e34, e92, w1, w2, w3, w4, z1, z2, z3, t1, t2, t3, o1, o2, m1, hw1, hc1, l1, l1', l1'', hw2, hc2, hd, f114, f110, f116, f34, f92, f120, d1, d2, d3, d4, d5, d6, l3, l3', l3'', l2'', a1, b1, hA, hB, q1, q2, q3, q4]
    · simp [-List.getD_eq_getElem?_getD, hh, h0, hb, e34, e92, w1, w2, w3, w4, z1, z2, z3, t1, t2, t3, o1, o2, m1, hw1, hc1, l1, l1', l1'', hw2, hc2, hd, f114, f110, f116, f34, f92, f120, d1, d2, d3, d4, d5, d6]
  · simp [-List.getD_eq_getElem?_getD, hh, h0, hb, e34, e92, w1, w2, w3, w4, z1, z2, z3, t1, t2, t3, o1, o2, m1, hw1, hc1, c1, c2, c3, c4]
end Go.Proofs.X

