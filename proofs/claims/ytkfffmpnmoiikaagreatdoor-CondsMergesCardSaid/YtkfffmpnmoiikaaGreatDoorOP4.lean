/-
  A part of the proof. No condition.
-/
import Derived.Test.YtkfffmpnmoiikaaGreatDoorOP3
/- Chapter 09 (fields): what each printed function gives. No condition but on sizes. -/
set_option linter.unusedSimpArgs false
set_option linter.unusedVariables false
namespace Go.Proofs.X
open Go Go.Dp
/-! Parse, Line. -/
/-! Check. -/
def sized (l : List Fld) : Prop := l.length < 1000000 ∧ ∀ f ∈ l, f.1.length < 100000 ∧ f.2.1.length < 100000
/-! Join, Get. -/
theorem wdC (sep : List UInt8) (r : List (List UInt8)) (y : List UInt8) : Lib.joinTail sep (r ++ [y]) = Lib.joinTail sep r ++ (sep ++ y) := by simp [Lib.joinTail]
theorem wex (l : List (List UInt8)) (y sep : List UInt8) : Lib.join (l ++ [y]) sep = if l = [] then y else Lib.join l sep ++ sep ++ y := by
  cases l with
  | nil => simp [Lib.join_one]
  | cons x r => rw [List.cons_append, Lib.join_cons, wdC, Lib.join_cons]; simp
theorem wed (l : List (List UInt8)) (sep : List UInt8) (b : Nat) (h : ∀ v ∈ l, v.length ≤ b) : (Lib.join l sep).length ≤ l.length * (b + sep.length) := by
  cases l with
  | nil => simp [Lib.join_nil]
  | cons x r =>
    rw [Lib.join_cons]
    have ht : ∀ r : List (List UInt8), (∀ v ∈ r, v.length ≤ b) → (Lib.joinTail sep r).length ≤ r.length * (b + sep.length) := by
      intro r
      induction r with
      | nil => intro _; simp [Lib.joinTail]
      | cons y r ih =>
        intro hr
        have h1 := ih fun v hv => hr v (List.mem_cons_of_mem _ hv)
        have h2 := hr y List.mem_cons_self
        have e : Lib.joinTail sep (y :: r) = sep ++ y ++ Lib.joinTail sep r := by simp [Lib.joinTail]
        rw [e, List.length_append, List.length_append, List.length_cons, Nat.add_mul]
        omega
    have h1 := ht r fun v hv => h v (List.mem_cons_of_mem _ hv)
    have h2 := h x List.mem_cons_self
    rw [List.length_append, List.length_cons, Nat.add_mul]
    omega
theorem weR {K : Nat} {l : List (List UInt8)} {sep : List UInt8} (hl : l.length ≤ 1000000) (b : Nat) (hb : b ≤ 1000000) (hs : sep.length ≤ 100) (h : ∀ v ∈ l, v.length ≤ b) : joinS K l sep = some (Lib.join l sep) := by
  have h1 := wed l sep b h
  have h2 : l.length * (b + sep.length) ≤ 1000000 * 1000100 := Nat.mul_le_mul hl (by omega)
  have q1 : l.length ≤ 140737488355328 := by omega
  have q2 : (Lib.join l sep).length ≤ 140737488355328 := by omega
  simp only [joinS, joinF, q1, q2, za', zb', zc', zd', ze', zf', zg', zh', zi', zj', zk', zl', zm', zn', zo', zp', zq', zr', zs', zt']
def sep2 : List UInt8 := [44, 32]
theorem wdF {K : Nat} {l : List (List UInt8)} (hl : l.length < 1000000) (b : Nat) (hb : b ≤ 1000000) (h : ∀ v ∈ l, v.length ≤ b) (hK : 1000000 ≤ K) : wy_ K l = some (Lib.join l sep2) := by
  have H := idx_rule (l := wy_.l0 K) (wy_.t0 K) (fun _ _ => rfl) l.length
    (fun i => ((l, (Lib.join (l.take i) sep2, ((i : Int), ()))), ())) (fun i => ((Lib.join l sep2, ()), ())) ?_ K 0 (by omega) (by omega)
  · simp only [Int.natCast_zero, List.take_zero, Lib.join_nil] at H
    simp only [wy_, wy_.tr, H, za', zb', zc', zd', ze', zf', zg', zh', zi', zj', zk', zl', zm', zn', zo', zp', zq', zr', zs', zt']
  · intro i rec hi ih
    by_cases h0 : i < l.length
    · have hh : (i : Int) < (l.length : Int) := by omega
      have w1 := wrapSucc (show i < 9223372036854775807 by omega)
      have hm := wcf l [] h0
      have hbm := h _ hm
      have h1 := wed (l.take i) sep2 b (fun v hv => h v (List.mem_of_mem_take hv))
      have hsl : sep2.length = 2 := rfl
      have h2 : (l.take i).length * (b + sep2.length) ≤ 1000000 * 1000002 := Nat.mul_le_mul (by simp; omega) (by omega)
      have q1 : (Lib.join (l.take i) sep2).length + 2 ≤ maxRoom := by simp only [maxRoom]; omega
      have q2 : (Lib.join (l.take i) sep2 ++ [44, 32]).length + (l.getD i []).length ≤ maxRoom := by simp only [List.length_append, List.length_cons, List.length_nil, maxRoom]; omega
      have q3 : (Lib.join (l.take i) sep2).length + (l.getD i []).length ≤ maxRoom := by simp only [maxRoom]; omega
      have ih' := ih h0
      rw [take_get l [] h0, wex] at ih'
      by_cases c : i = 0
      · subst c
        simp only [List.take_zero, if_true, Lib.join_nil] at ih' q3 ⊢
        simp only [wy_.t0, za', zb', zc', zd', ze', zf', zg', zh', zi', zj', zk', zl', zm', zn', zo', zp', zq', zr', zs', zt', w1, hh, Int.lt_irrefl, List.nil_append, q3, show ¬ ((0 : Nat) : Int) > 0 by decide]
        simp only [za', zb', zc', zd', ze', zf', zg', zh', zi', zj', zk', zl', zm', zn', zo', zp', zq', zr', zs', zt'] at hh w1 ih' ⊢
        simp only [hh, w1, q3, za', zb', zc', zd', ze', zf', zg', zh', zi', zj', zk', zl', zm', zn', zo', zp', zq', zr', zs', zt', show ¬ (0 : Int) > 0 by decide, List.nil_append]
        exact ih'
      · have hc : (i : Int) > 0 := by omega
        have hne : ¬ l.take i = [] := by
          intro e
          have := congrArg List.length e
          rw [List.length_take, List.length_nil] at this
          omega
        rw [if_neg hne] at ih'
        simp only [wy_.t0, za', zb', zc', zd', ze', zf', zg', zh', zi', zj', zk', zl', zm', zn', zo', zp', zq', zr', zs', zt', w1, hh, hc, q1, q2]
        exact ih'
    · have h2 : i = l.length := by omega
      subst h2
      simp only [wy_.t0, za', zb', zc', zd', ze', zf', zg', zh', zi', zj', zk', zl', zm', zn', zo', zp', zq', zr', zs', zt', Int.lt_irrefl, List.take_length]
def getOf (l : List Fld) (name : List UInt8) : List UInt8 × Bool × Unit := (Lib.join (allOf l name) sep2, decide ((allOf l name).length > 0), ())
theorem wdR (l : List Fld) (name : List UInt8) : (allOf l name).length ≤ l.length := by
  have := List.length_filter_le (fun f : Fld => same f.1 name) l
  simp only [allOf, List.length_map]; omega
theorem wcH {l : List Fld} {name : List UInt8} {b : Nat} (h : ∀ f ∈ l, f.2.1.length ≤ b) : ∀ v ∈ allOf l name, v.length ≤ b := by
  intro v hv
  obtain ⟨f, hf, rfl⟩ := List.mem_map.1 hv
  exact h f (List.mem_filter.1 hf).1
theorem wcr {K : Nat} {l : List Fld} {name : List UInt8} (h : sized l) (h2 : name.length < 1000000) (hK : 1000000 ≤ K) : wbv K l name = some (getOf l name) := by
  have h3 := wdR l name
  have hd : decide (((allOf l name).length : Int) > 0) = decide ((allOf l name).length > 0) := decide_eq_decide.2 (by omega)
  have hb : ∀ v ∈ allOf l name, v.length ≤ 100000 := wcH fun f hf => by have := (h.2 f hf).2; omega
  have hj := weR (K := K) (sep := [44, 32]) (by have := h.1; omega) 100000 (by omega) (by decide) hb
  simp only [wbv, wck h.1 (fun f hf => by have := (h.2 f hf).1; omega) h2 hK, za', zb', zc', zd', ze', zf', zg', zh', zi', zj', zk', zl', zm', zn', zo', zp', zq', zr', zs', zt', hj, getOf, hd, sep2]
theorem wct {K : Nat} {l : List Fld} {name : List UInt8} (h : sized l) (h2 : name.length < 1000000) (hK : 1000000 ≤ K) : w7_ K l name = some (getOf l name) := by
  have h3 := wdR l name
  have hd : decide (((allOf l name).length : Int) > 0) = decide ((allOf l name).length > 0) := decide_eq_decide.2 (by omega)
  have hb : ∀ v ∈ allOf l name, v.length ≤ 100000 := wcH fun f hf => by have := (h.2 f hf).2; omega
  have hj := wdF (K := K) (by have := h.1; omega) 100000 (by omega) hb hK
  simp only [w7_, wcu h.1 (fun f hf => by have := (h.2 f hf).1; omega) h2 hK, za', zb', zc', zd', ze', zf', zg', zh', zi', zj', zk', zl', zm', zn', zo', zp', zq', zr', zs', zt', hj, getOf, hd]
/-! Has. -/
/-! Set. -/
/-! Same. -/
end Go.Proofs.X
