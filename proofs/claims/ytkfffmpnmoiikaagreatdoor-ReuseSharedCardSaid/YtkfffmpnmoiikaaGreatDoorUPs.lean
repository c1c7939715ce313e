/-
  A part of the proof. No condition.
-/
import Derived.Test.YtkfffmpnmoiikaaGreatDoorUP4
/- Chapter 14 (etag): an entity-tag. No condition but on sizes. -/
set_option linter.unusedSimpArgs false
set_option linter.unusedVariables false
namespace Go.Proofs.X
open Go Go.Dp
def tagIn (b : UInt8) : Bool := decide (33 ≤ b.toNat) && !(b == 34) && !(b == 127)
theorem weL (K : Nat) : (List.range 256).all (fun n => decide (wcQ K ((UInt8.ofNat n).toNat : Int) = some (tagIn (UInt8.ofNat n)))) = true := by kernel_rfl
theorem wdM (K : Nat) (b : UInt8) : wcQ K (b.toNat : Int) = some (tagIn b) := of_decide_eq_true (forall_byte (p := fun b => decide (wcQ K (b.toNat : Int) = some (tagIn b))) (weL K) b)
abbrev Tg := Bool × List UInt8 × Unit
def wkT (s : List UInt8) : Bool := s.take 2 == [87, 47]
def restT (s : List UInt8) : List UInt8 := if wkT s then s.drop 2 else s
def innT (r : List UInt8) : List UInt8 := cut r 1 (r.length - 1)
def quoT (r : List UInt8) : Bool := decide (2 ≤ r.length) && (r.getD 0 0 == 34) && (r.getD (r.length - 1) 0 == 34)
def parT (s : List UInt8) : Tg × Bool × Unit := if quoT (restT s) && (innT (restT s)).all tagIn then ((wkT s, innT (restT s), ()), true, ()) else ((false, [], ()), false, ())
theorem weJ {s : List UInt8} (h : ¬ 2 ≤ s.length) : wkT s = false := by
  unfold wkT
  rw [beq_eq_false_iff_ne]
  intro e
  have := congrArg List.length e
  simp at this; omega
theorem weW (K : Nat) (s : List UInt8) : w5_ K s [87, 47] = some (wkT s) := by
  have e : ((([87, 47] : List UInt8).length : Nat) : Int) = 2 := rfl
  by_cases h : 2 ≤ s.length
  · have h1 : (s.length : Int) ≥ 2 := by omega
    have h2 : (2 : Int) ≤ (s.length : Int) := by omega
    simp only [w5_, e, za', zb', zc', zd', ze', zf', zg', zh', zi', zj', zk', zl', zm', zn', zo', zp', zq', zr', zs', zt', h1, h2, Nat.zero_le, show (0 : Int) ≤ 2 by decide, show Int.toNat 2 = 2 from rfl, cut_zero', wkT]
  · have h1 : ¬ (s.length : Int) ≥ 2 := by omega
    simp only [w5_, e, za', zb', zc', zd', ze', zf', zg', zh', zi', zj', zk', zl', zm', zn', zo', zp', zq', zr', zs', zt', h1, weJ h]
theorem weR (K : Nat) (s : List UInt8) : wbA K s [87, 47] = some (restT s, wkT s, ()) := by
  have e : ((([87, 47] : List UInt8).length : Nat) : Int) = 2 := rfl
  have h := weW K s
  cases c : wkT s with
  | false =>
    rw [c] at h
    simp only [wbA, wba, h, za', zb', zc', zd', ze', zf', zg', zh', zi', zj', zk', zl', zm', zn', zo', zp', zq', zr', zs', zt', restT, c]
  | true =>
    rw [c] at h
    have h2 : (2 : Int) ≤ (s.length : Int) := by
      have : 2 ≤ s.length := Classical.byContradiction fun h => by rw [weJ h] at c; cases c
      omega
    simp only [wbA, wba, h, za', zb', zc', zd', ze', zf', zg', zh', zi', zj', zk', zl', zm', zn', zo', zp', zq', zr', zs', zt', restT, c, e, h2, Nat.zero_le, show (0 : Int) ≤ 2 by decide, show Int.toNat 2 = 2 from rfl, cut_end]
theorem wg4 {K : Nat} (wk : Bool) (t : List UInt8) (ht : t.length < 1000000) (hK : 1000000 ≤ K) :
    wbc.l0 K K ((0, (0, (intsOf t, ((t.length : Int), (0, ()))))), ((false, ([], ())), ((wk, (t, ())), ()))) = some (if t.all tagIn then .inl ((0, (0, ())), ((false, ([], ())), ((wk, (t, ())), ()))) else .inr ((0, (false, ())), ((false, ([], ())), ((wk, (t, ())), ())))) := by
  have H := idx_rule (l := wbc.l0 K) (wbc.t0 K) (fun _ _ => rfl) t.length
    (fun i => ((0, (0, (intsOf t, ((t.length : Int), ((i : Int), ()))))), ((false, ([], ())), ((wk, (t, ())), ()))))
    (fun i => if (t.drop i).all tagIn then .inl ((0, (0, ())), ((false, ([], ())), ((wk, (t, ())), ()))) else .inr ((0, (false, ())), ((false, ([], ())), ((wk, (t, ())), ())))) ?_ K 0 (by omega) (by omega)
  · simpa only [Int.natCast_zero, List.drop_zero] using H
  · intro i rec hi ih
    by_cases h : i < t.length
    · have hh : (i : Int) < (t.length : Int) := by omega
      have w1 := wrapSucc (show i < 9223372036854775807 by omega)
      have ih' := ih h
      rw [drop_get t 0 h, List.all_cons]
      cases d : tagIn (t.getD i 0) with
      | false => simp only [wbc.t0, za', zb', zc', zd', ze', zf', zg', zh', zi', zj', zk', zl', zm', zn', zo', zp', zq', zr', zs', zt', hh, length_intsOf, getD_intsOf t h, wdM, d]
      | true =>
        simp only [wbc.t0, za', zb', zc', zd', ze', zf', zg', zh', zi', zj', zk', zl', zm', zn', zo', zp', zq', zr', zs', zt', hh, length_intsOf, getD_intsOf t h, wdM, d, w1]
        exact ih'
    · have h2 : i = t.length := by omega
      subst h2
      simp only [wbc.t0, za', zb', zc', zd', ze', zf', zg', zh', zi', zj', zk', zl', zm', zn', zo', zp', zq', zr', zs', zt', Int.lt_irrefl, drop_len, List.all_nil]
theorem wfM (s : List UInt8) : (restT s).length ≤ s.length := by
  unfold restT; split <;> simp
theorem wew {K : Nat} {s : List UInt8} (hs : s.length < 1000000) (hK : 1000000 ≤ K) : wbc K s = some (parT s) := by
  have hr := wfM s
  simp only [wbc, wbc.tr, weR, za', zb', zc', zd', ze', zf', zg', zh', zi', zj', zk', zl', zm', zn', zo', zp', zq', zr', zs', zt', parT]
  generalize restT s = r at hr
  generalize wkT s = wk
  by_cases h1 : r.length < 2
  · have h1' : (r.length : Int) < 2 := by omega
    have e : quoT r = false := by simp only [quoT, show ¬ 2 ≤ r.length by omega, za', zb', zc', zd', ze', zf', zg', zh', zi', zj', zk', zl', zm', zn', zo', zp', zq', zr', zs', zt']
    simp only [h1', za', zb', zc', zd', ze', zf', zg', zh', zi', zj', zk', zl', zm', zn', zo', zp', zq', zr', zs', zt', e]
  · have h1' : ¬ (r.length : Int) < 2 := by omega
    have h0 : (0 : Int) < (r.length : Int) := by omega
    have w := wrapPred (n := r.length) (by omega) (by omega)
    have h2 : ((r.length - 1 : Nat) : Int) < (r.length : Int) := by omega
    have h2' : ((r.length - 1 : Nat) : Int) ≤ (r.length : Int) := by omega
    have h3 : (1 : Int) ≤ ((r.length - 1 : Nat) : Int) := by omega
    by_cases c1 : r.getD 0 0 = 34
    · have c1' : ((r.getD 0 0).toNat : Int) = 34 := (byte34 _).2 c1
      by_cases c2 : r.getD (r.length - 1) 0 = 34
      · have c2' : ((r.getD (r.length - 1) 0).toNat : Int) = 34 := (byte34 _).2 c2
        have e : quoT r = true := by simp only [quoT, show 2 ≤ r.length by omega, za', zb', zc', zd', ze', zf', zg', zh', zi', zj', zk', zl', zm', zn', zo', zp', zq', zr', zs', zt', c1, c2, beq_self_eq_true]
        have hl : (innT r).length < 1000000 := by have := length_cut_le r 1 (r.length - 1); unfold innT; omega
        have hL := wg4 wk (innT r) hl hK
        unfold innT at hL ⊢
        simp only [h1', za', zb', zc', zd', ze', zf', zg', zh', zi', zj', zk', zl', zm', zn', zo', zp', zq', zr', zs', zt', h0, c1', w, h2, h2', c2', e, h3, Nat.zero_le, Nat.le_refl, length_intsOf]
        rw [hL]
        cases (cut r 1 (r.length - 1)).all tagIn <;> simp only [za', zb', zc', zd', ze', zf', zg', zh', zi', zj', zk', zl', zm', zn', zo', zp', zq', zr', zs', zt']
      · have c2' : ¬ ((r.getD (r.length - 1) 0).toNat : Int) = 34 := fun h => c2 ((byte34 _).1 h)
        have e : quoT r = false := by simp only [quoT, beq_eq_false_iff_ne.2 c2, za', zb', zc', zd', ze', zf', zg', zh', zi', zj', zk', zl', zm', zn', zo', zp', zq', zr', zs', zt']
        simp only [h1', za', zb', zc', zd', ze', zf', zg', zh', zi', zj', zk', zl', zm', zn', zo', zp', zq', zr', zs', zt', h0, c1', w, h2, c2', e, Nat.le_refl]
    · have c1' : ¬ ((r.getD 0 0).toNat : Int) = 34 := fun h => c1 ((byte34 _).1 h)
      have e : quoT r = false := by simp only [quoT, beq_eq_false_iff_ne.2 c1, za', zb', zc', zd', ze', zf', zg', zh', zi', zj', zk', zl', zm', zn', zo', zp', zq', zr', zs', zt']
      simp only [h1', za', zb', zc', zd', ze', zf', zg', zh', zi', zj', zk', zl', zm', zn', zo', zp', zq', zr', zs', zt', h0, c1', e, Nat.le_refl]
end Go.Proofs.X
