/-
  A part of the proof. No condition.
-/
import Derived.Test.YtikiloknlchppaaGreatDoorSPn
/- Chapter 17: the law LifeShared, as plain Lean. -/
set_option linter.unusedSimpArgs false
set_option linter.unusedVariables false
namespace Go.Proofs.X
open Go Go.Dp
theorem wcq (K : Nat) (r : Rep) (hK : 1000 ≤ K) : ∃ b, wt_ K r 500 = some b ∧ (b = true → r.2.2.2.1.length ≤ 70 ∧ ∀ f ∈ r.2.2.2.1, small 500 f) := by
  obtain ⟨q, h1, h2⟩ := wbY K r.2.2.2.1 70 500 (by decide) (by omega)
  have h1 : wk_ K r.2.2.2.1 70 500 = some q := h1
  by_cases c1 : (r.2.1.length : Int) ≤ 500
  · by_cases c2 : (r.2.2.2.2.1.length : Int) ≤ 500
    · refine ⟨q, ?_, h2⟩
      simp only [wt_, c1, c2, h1, za', zb', zc', zd', ze', zf', zg', zh', zi', zj', zk', zl', zm', zn', zo', zp', zq', zr', zs', zt']
    · refine ⟨false, ?_, fun h => by cases h⟩
      simp only [wt_, c1, c2, za', zb', zc', zd', ze', zf', zg', zh', zi', zj', zk', zl', zm', zn', zo', zp', zq', zr', zs', zt']
  · refine ⟨false, ?_, fun h => by cases h⟩
    simp only [wt_, c1, za', zb', zc', zd', ze', zf', zg', zh', zi', zj', zk', zl', zm', zn', zo', zp', zq', zr', zs', zt']
abbrev KK : Nat := 2000000000000
def othersOf (l : List Fld) : List Fld := l.filter fun f => !decide ((f.1.length : Int) = 13)
theorem wcr {K : Nat} (a b : Int) (s : Sto) (hl : s.1.2.2.2.1.length < 1000000) (hK : 1000000 + 100 ≤ K) :
    wb_.l0 K K ((a, (b, (s, ((), (0, ()))))), ([], ())) = some ((a, (b, (s, ((), ())))), (othersOf s.1.2.2.2.1, ())) := by
  have H := idx_rule (l := wb_.l0 K) (wb_.t0 K) (fun _ _ => rfl) s.1.2.2.2.1.length
    (fun i => ((a, (b, (s, ((), ((i : Int), ()))))), (othersOf (s.1.2.2.2.1.take i), ()))) (fun _ => ((a, (b, (s, ((), ())))), (othersOf s.1.2.2.2.1, ()))) ?_ K 0 (by omega) (by omega)
  · simp only [List.take_zero, Int.natCast_zero] at H
    exact H
  · intro i rec hi ih
    by_cases h : i < s.1.2.2.2.1.length
    · have hh : (i : Int) < (s.1.2.2.2.1.length : Int) := by omega
      have w1 := wrapSucc (show i < 9223372036854775807 by omega)
      have hlen : (othersOf (s.1.2.2.2.1.take i)).length ≤ i := by
        have := List.length_filter_le (fun f : Fld => !decide ((f.1.length : Int) = 13)) (s.1.2.2.2.1.take i); simp at this; unfold othersOf; omega
      have hmax : ((othersOf (s.1.2.2.2.1.take i)).length + 1) * 32 ≤ maxRoom := by simp only [maxRoom]; omega
      have e : othersOf (s.1.2.2.2.1.take (i + 1)) = othersOf (s.1.2.2.2.1.take i) ++ (if (!decide (((s.1.2.2.2.1.getD i (([], [], ()) : Fld)).1.length : Int) = 13)) = true then [s.1.2.2.2.1.getD i (([], [], ()) : Fld)] else []) := by
        simp only [othersOf, take_get s.1.2.2.2.1 (([], [], ()) : Fld) h, List.filter_append, List.filter_cons, List.filter_nil]
      have ih' := ih h
      rw [e] at ih'
      cases d : decide (((s.1.2.2.2.1.getD i (([], [], ()) : Fld)).1.length : Int) = 13) with
      | true =>
        rw [d, Bool.not_true, if_neg (by decide), List.append_nil] at ih'
        simp only [wb_.t0, za', zb', zc', zd', ze', zf', zg', zh', zi', zj', zk', zl', zm', zn', zo', zp', zq', zr', zs', zt', hh, d, w1]
        exact ih'
      | false =>
        rw [d, Bool.not_false, if_pos rfl] at ih'
        simp only [wb_.t0, za', zb', zc', zd', ze', zf', zg', zh', zi', zj', zk', zl', zm', zn', zo', zp', zq', zr', zs', zt', hh, d, hmax, w1]
        exact ih'
    · have h2 : i = s.1.2.2.2.1.length := by omega
      subst h2
      simp only [wb_.t0, za', zb', zc', zd', ze', zf', zg', zh', zi', zj', zk', zl', zm', zn', zo', zp', zq', zr', zs', zt', Int.lt_irrefl, List.take_length]
theorem wcA {a b : List UInt8} (h : same a b = true) : a.length = b.length := by
  have : lower a = lower b := by simpa [same] using h
  have := congrArg List.length this
  simpa [lower] using this
theorem wbH (l : List Fld) : allOf (othersOf l) hdr = [] := by
  unfold allOf othersOf
  rw [List.map_eq_nil_iff, List.filter_eq_nil_iff]
  intro f hf e
  have h1 := (List.mem_filter.1 hf).2
  have h2 := wcA e
  have h3 : hdr.length = 13 := rfl
  have : (f.1.length : Int) = 13 := by omega
  simp [this] at h1
def dgt : List UInt8 := [48, 49, 50, 51, 52, 53, 54, 55, 56, 57]
def mA (a : Nat) : List UInt8 := [109, 97, 120, 45, 97, 103, 101, 61] ++ cut dgt a (a + 1)
def sM (b : Nat) : List UInt8 := [115, 45, 109, 97, 120, 97, 103, 101, 61] ++ cut dgt b (b + 1)
theorem wcv : (List.range 10).all (fun a => decide ((parseV [mA a]).2.2.2.2.2.2.2.1 = -1 ∧ (parseV [mA a]).2.2.2.2.2.2.1 = (a : Int))) = true := by kernel_rfl
theorem wct : (List.range 10).all (fun a => (List.range 10).all fun b => decide ((parseV [sM b, mA a]).2.2.2.2.2.2.2.1 = (b : Int))) = true := by kernel_rfl
def chN : List UInt8 := [99, 97, 99, 104, 101, 45, 99, 111, 110, 116, 114, 111, 108]
theorem wco {K : Nat} {s : Sto} {n : Int} (h : sized s.1.2.2.2.1) (hK : 1000000 + 100 ≤ K) (c : (parseC s.1.2.2.2.1).2.2.2.2.2.2.2.1 = n) (hn : n ≥ 0) : ww_ K s = some n := by
  have hp := wbu (K := K) h hK
  simp only [ww_, wB_, hp, za', zb', zc', zd', ze', zf', zg', zh', zi', zj', zk', zl', zm', zn', zo', zp', zq', zr', zs', zt', c, hn]
theorem wcW {K : Nat} {s : Sto} {n : Int} (h : sized s.1.2.2.2.1) (hK : 1000000 + 100 ≤ K) (c : (parseC s.1.2.2.2.1).2.2.2.2.2.2.2.1 = -1) (c2 : (parseC s.1.2.2.2.1).2.2.2.2.2.2.1 = n) (hn : n ≥ 0) : ww_ K s = some n := by
  have hp := wbu (K := K) h hK
  simp only [ww_, wB_, hp, za', zb', zc', zd', ze', zf', zg', zh', zi', zj', zk', zl', zm', zn', zo', zp', zq', zr', zs', zt', c, c2, hn, show ¬ (-1 : Int) ≥ 0 by decide]
theorem wcp (a : Nat) (l : List Fld) : allOf ((hdr, (mA a, ())) :: othersOf l) hdr = [mA a] := by
  have s1 : same hdr hdr = true := by decide
  have := wbH l
  unfold allOf at this ⊢
  rw [List.filter_cons, if_pos s1, List.map_cons, this]
theorem wcQ (a b : Nat) (l : List Fld) : allOf ((chN, (sM b, ())) :: (hdr, (mA a, ())) :: othersOf l) hdr = [sM b, mA a] := by
  have s1 : same hdr hdr = true := by decide
  have s2 : same chN hdr = true := by decide
  have := wbH l
  unfold allOf at this ⊢
  rw [List.filter_cons, if_pos s2, List.filter_cons, if_pos s1, List.map_cons, List.map_cons, this]
theorem wbK (a0 : Sto) (a1 a2 : Int) (b1 : -9223372036854775808 ≤ a1) (b1' : a1 < 9223372036854775808) (b2 : -9223372036854775808 ≤ a2) (b2' : a2 < 9223372036854775808) : ∃ k, wb_ k a0 a1 a2 = some true := by
  refine ⟨KK, ?_⟩
  have hs := wcK (K := KK) (by decide)
  obtain ⟨b, h1, h2⟩ := wcq KK a0.1 (by decide)
  have h1 : wt_ KK (a0.1.1, (a0.1.2.1, (a0.1.2.2.1, (a0.1.2.2.2.1, (a0.1.2.2.2.2.1, ()))))) 500 = some b := h1
  cases b with
  | false => simp only [wb_, wb_.tr, h1, hs, za', zb', zc', zd', ze', zf', zg', zh', zi', zj', zk', zl', zm', zn', zo', zp', zq', zr', zs', zt']
  | true =>
  by_cases c1 : (a0.1.2.2.2.1.length : Int) > 60
  · simp only [wb_, wb_.tr, h1, hs, za', zb', zc', zd', ze', zf', zg', zh', zi', zj', zk', zl', zm', zn', zo', zp', zq', zr', zs', zt', c1]
  by_cases c2 : a1 < 0
  · simp only [wb_, wb_.tr, h1, hs, za', zb', zc', zd', ze', zf', zg', zh', zi', zj', zk', zl', zm', zn', zo', zp', zq', zr', zs', zt', c1, c2]
  by_cases c3 : a2 < 0
  · simp only [wb_, wb_.tr, h1, hs, za', zb', zc', zd', ze', zf', zg', zh', zi', zj', zk', zl', zm', zn', zo', zp', zq', zr', zs', zt', c1, c2, c3]
  by_cases c4 : a1 > 9
  · simp only [wb_, wb_.tr, h1, hs, za', zb', zc', zd', ze', zf', zg', zh', zi', zj', zk', zl', zm', zn', zo', zp', zq', zr', zs', zt', c1, c2, c3, c4]
  by_cases c5 : a2 > 9
  · simp only [wb_, wb_.tr, h1, hs, za', zb', zc', zd', ze', zf', zg', zh', zi', zj', zk', zl', zm', zn', zo', zp', zq', zr', zs', zt', c1, c2, c3, c4, c5]
  obtain ⟨a, rfl⟩ : ∃ a : Nat, a1 = (a : Int) := ⟨a1.toNat, by omega⟩
  obtain ⟨b, rfl⟩ : ∃ b : Nat, a2 = (b : Int) := ⟨a2.toNat, by omega⟩
  have ha : a < 10 := by omega
  have hb : b < 10 := by omega
  obtain ⟨g1, g2⟩ := h2 rfl
  have hL := wcr (K := KK) (a : Int) (b : Int) a0 (by omega) (by decide)
  have wa := wrapSucc (show a < 9223372036854775807 by omega)
  have wb := wrapSucc (show b < 9223372036854775807 by omega)
  have k1 : ((a + 1 : Nat) : Int) ≤ 10 := by omega
  have k2 : (a : Int) ≤ ((a + 1 : Nat) : Int) := by omega
  have k3 : ((b + 1 : Nat) : Int) ≤ 10 := by omega
  have k4 : (b : Int) ≤ ((b + 1 : Nat) : Int) := by omega
  have hol : (othersOf a0.1.2.2.2.1).length ≤ 70 := Nat.le_trans (List.length_filter_le _ _) g1
  have hom : ∀ f ∈ othersOf a0.1.2.2.2.1, f.1.length < 100000 ∧ f.2.1.length < 100000 := fun f hf => by
    obtain ⟨q1, q2⟩ := g2 f (List.mem_filter.1 hf).1
    exact ⟨by omega, by omega⟩
  have la : (cut dgt a (a + 1)).length ≤ 10 := by have := length_cut_le dgt a (a + 1); have : dgt.length = 10 := rfl; omega
  have lb : (cut dgt b (b + 1)).length ≤ 10 := by have := length_cut_le dgt b (b + 1); have : dgt.length = 10 := rfl; omega
  have m1 : 8 + (cut dgt a (a + 1)).length ≤ maxRoom := by simp only [maxRoom]; omega
  have m2 : 9 + (cut dgt b (b + 1)).length ≤ maxRoom := by simp only [maxRoom]; omega
  have m3 : (1 + (othersOf a0.1.2.2.2.1).length) * 32 ≤ maxRoom := by simp only [maxRoom]; omega
  have m4 : (1 + ([(hdr, (mA a, ()))] ++ othersOf a0.1.2.2.2.1).length) * 32 ≤ maxRoom := by simp only [List.length_append, List.length_singleton, maxRoom]; omega
  have z1 : sized ((hdr, (mA a, ())) :: othersOf a0.1.2.2.2.1) := by
    refine ⟨by simp only [List.length_cons]; omega, fun f hf => ?_⟩
    rcases List.mem_cons.1 hf with rfl | hf
    · refine ⟨(by decide : hdr.length < 100000), ?_⟩
      show (mA a).length < 100000
      unfold mA; rw [List.length_append]; simp only [List.length_cons, List.length_nil]; omega
    · exact hom f hf
  have z2 : sized ((chN, (sM b, ())) :: (hdr, (mA a, ())) :: othersOf a0.1.2.2.2.1) := by
    refine ⟨by simp only [List.length_cons]; omega, fun f hf => ?_⟩
    rcases List.mem_cons.1 hf with rfl | hf
    · refine ⟨(by decide : chN.length < 100000), ?_⟩
      show (sM b).length < 100000
      unfold sM; rw [List.length_append]; simp only [List.length_cons, List.length_nil]; omega
    · exact z1.2 f hf
  have e1 : ww_ KK (((a0.1.1, (a0.1.2.1, (a0.1.2.2.1, ([(hdr, (mA a, ()))] ++ othersOf a0.1.2.2.2.1, (a0.1.2.2.2.2.1, ()))))), (a0.2.1, (a0.2.2.1, ())))) = some (a : Int) := by
    have hf := of_decide_eq_true (List.all_eq_true.1 wcv a (List.mem_range.2 ha))
    refine wcW (K := KK) (s := (((a0.1.1, (a0.1.2.1, (a0.1.2.2.1, ((hdr, (mA a, ())) :: othersOf a0.1.2.2.2.1, (a0.1.2.2.2.2.1, ()))))), (a0.2.1, (a0.2.2.1, ()))))) z1 (by decide) ?_ ?_ (by omega)
    · show (parseV (allOf ((hdr, (mA a, ())) :: othersOf a0.1.2.2.2.1) hdr)).2.2.2.2.2.2.2.1 = -1
      rw [wcp]; exact hf.1
    · show (parseV (allOf ((hdr, (mA a, ())) :: othersOf a0.1.2.2.2.1) hdr)).2.2.2.2.2.2.1 = _
      rw [wcp]; exact hf.2
  have e2 : ww_ KK (((a0.1.1, (a0.1.2.1, (a0.1.2.2.1, ([(chN, (sM b, ()))] ++ ([(hdr, (mA a, ()))] ++ othersOf a0.1.2.2.2.1), (a0.1.2.2.2.2.1, ()))))), (a0.2.1, (a0.2.2.1, ())))) = some (b : Int) := by
    have hf := of_decide_eq_true (List.all_eq_true.1 (List.all_eq_true.1 wct a (List.mem_range.2 ha)) b (List.mem_range.2 hb))
    refine wco (K := KK) (s := (((a0.1.1, (a0.1.2.1, (a0.1.2.2.1, ((chN, (sM b, ())) :: (hdr, (mA a, ())) :: othersOf a0.1.2.2.2.1, (a0.1.2.2.2.2.1, ()))))), (a0.2.1, (a0.2.2.1, ()))))) z2 (by decide) ?_ (by omega)
    show (parseV (allOf ((chN, (sM b, ())) :: (hdr, (mA a, ())) :: othersOf a0.1.2.2.2.1) hdr)).2.2.2.2.2.2.2.1 = _
    rw [wcQ]; exact hf
  simp only [hdr, chN, mA, sM, dgt] at m1 m2 m3 m4 e1 e2
  simp only [wb_, wb_.tr, h1, hs, za', zb', zc', zd', ze', zf', zg', zh', zi', zj', zk', zl', zm', zn', zo', zp', zq', zr', zs', zt', c1, c2, c3, c4, c5, hL, wa, wb, k1, k2, k3, k4, m1, m2, m3, m4, e1, e2, eq_self]
end Go.Proofs.X
