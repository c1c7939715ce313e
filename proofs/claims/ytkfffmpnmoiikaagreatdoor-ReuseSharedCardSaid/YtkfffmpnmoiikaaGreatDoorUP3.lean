/-
  A part of the proof. No condition.
-/
import Derived.Test.YtkfffmpnmoiikaaGreatDoorUP2
/- Chapter 09 (fields): what the hops need: All, Drop, Few, Equal. No condition but on sizes. -/
set_option linter.unusedSimpArgs false
set_option linter.unusedVariables false
namespace Go.Proofs.X
open Go Go.Dp
abbrev Fld := List UInt8 × List UInt8 × Unit
def small (b : Nat) (f : Fld) : Prop := f.1.length ≤ b ∧ f.2.1.length ≤ b
instance (b : Nat) (f : Fld) : Decidable (small b f) := by unfold small; exact inferInstance
def smallB (b : Nat) (f : Fld) : Bool := decide (f.1.length ≤ b) && decide (f.2.1.length ≤ b)
theorem wc9 {α : Type} (l : List α) (d : α) {i : Nat} (h : i < l.length) : l.getD i d ∈ l := by
  rw [getD_get l d h]; exact List.getElem_mem h
theorem wdW (K : Nat) (l : List Fld) (m b : Nat) (hm : m < 1000000) (hK : m + 2 < K) :
    ∃ r, wE_ K l (m : Int) (b : Int) = some r ∧ (r = true → l.length ≤ m ∧ ∀ f ∈ l, small b f) := by
  have hN : (l.take (m + 1)).length = min (m + 1) l.length := by simp
  have H := idx_rule (l := wE_.l0 K) (wE_.t0 K) (fun _ _ => rfl) (l.take (m + 1)).length
    (fun i => ((l, ((m : Int), ((b : Int), ((i : Int), ())))), ())) (fun i => if ((l.take (m + 1)).drop i).all (smallB b) then .inl ((l, ((m : Int), ())), ()) else .inr ((false, ()), ())) ?_ K 0 (by omega) (by omega)
  · simp only [Int.natCast_zero, List.drop_zero] at H
    simp only [wE_, wE_.tr, H]
    by_cases hall : (l.take (m + 1)).all (smallB b) = true
    · simp only [hall, za', zb', zc', zd', ze', zf', zg', zh', zi', zj', zk', zl', zm', zn', zo', zp', zq', zr', zs', zt']
      refine ⟨_, rfl, fun hr => ?_⟩
      have hl : l.length ≤ m := by have := of_decide_eq_true hr; omega
      refine ⟨hl, fun f hf => ?_⟩
      rw [List.take_of_length_le (by omega)] at hall
      have := List.all_eq_true.1 hall f hf
      simpa [smallB, small] using this
    · simp only [hall, za', zb', zc', zd', ze', zf', zg', zh', zi', zj', zk', zl', zm', zn', zo', zp', zq', zr', zs', zt']
      exact ⟨_, rfl, fun h => by cases h⟩
  · intro i rec hi ih
    by_cases h : i < (l.take (m + 1)).length
    · have h1 : i < l.length := by omega
      have h2 : i ≤ m := by omega
      have hh : (i : Int) < (l.length : Int) := by omega
      have w1 := wrapSucc (show i < 9223372036854775807 by omega)
      have hh2 : (i : Int) ≤ (m : Int) := by omega
      have e : (l.take (m + 1)).getD i (([], [], ()) : Fld) = l.getD i (([], [], ()) : Fld) := by
        simp only [List.getD_eq_getElem?_getD, List.getElem?_take]
        rw [if_pos (by omega)]
      have ih' := ih h
      rw [drop_get _ (([], [], ()) : Fld) h, List.all_cons, e]
      simp only [wE_.t0, za', zb', zc', zd', ze', zf', zg', zh', zi', zj', zk', zl', zm', zn', zo', zp', zq', zr', zs', zt', hh, hh2, w1]
      change (_ : Option _) = some (if (smallB b (l.getD i (([], [], ()) : Fld)) && _) = true then _ else _)
      by_cases c1 : ((l.getD i ([], ([], ()))).1.length : Int) > (b : Int)
      · have : smallB b (l.getD i (([], [], ()) : Fld)) = false := by
          simp only [smallB]
          have : ¬ (l.getD i ([], ([], ()))).1.length ≤ b := by omega
          simp [-List.getD_eq_getElem?_getD, this]
        simp only [c1, za', zb', zc', zd', ze', zf', zg', zh', zi', zj', zk', zl', zm', zn', zo', zp', zq', zr', zs', zt', this]
      · by_cases c2 : ((l.getD i ([], ([], ()))).2.1.length : Int) > (b : Int)
        · have : smallB b (l.getD i (([], [], ()) : Fld)) = false := by
            simp only [smallB]
            have : ¬ (l.getD i ([], ([], ()))).2.1.length ≤ b := by omega
            simp [-List.getD_eq_getElem?_getD, this]
          simp only [c1, c2, za', zb', zc', zd', ze', zf', zg', zh', zi', zj', zk', zl', zm', zn', zo', zp', zq', zr', zs', zt', this]
        · have : smallB b (l.getD i (([], [], ()) : Fld)) = true := by
            simp only [smallB, Bool.and_eq_true, decide_eq_true_eq]
            exact ⟨by omega, by omega⟩
          simp only [c1, c2, w1, za', zb', zc', zd', ze', zf', zg', zh', zi', zj', zk', zl', zm', zn', zo', zp', zq', zr', zs', zt', this]
          exact ih'
    · have h2 : i = (l.take (m + 1)).length := by omega
      have hN' := hN
      rw [h2, drop_len]
      by_cases h3 : m + 1 < l.length
      · have e : (l.take (m + 1)).length = m + 1 := by rw [hN]; omega
        have hh2 : ¬ ((m + 1 : Nat) : Int) ≤ (m : Int) := by omega
        have hh3 : ((m + 1 : Nat) : Int) < (l.length : Int) := by omega
        rw [e]
        simp only [wE_.t0, za', zb', zc', zd', ze', zf', zg', zh', zi', zj', zk', zl', zm', zn', zo', zp', zq', zr', zs', zt', hh2, hh3, List.all_nil]
      · have e : (l.take (m + 1)).length = l.length := by rw [hN]; omega
        rw [e]
        simp only [wE_.t0, za', zb', zc', zd', ze', zf', zg', zh', zi', zj', zk', zl', zm', zn', zo', zp', zq', zr', zs', zt', Int.lt_irrefl, List.all_nil]
/-! Choices. -/
theorem wdI {K : Nat} {f : Fld} {name : List UInt8} (h1 : f.1.length < 1000000) (h2 : name.length < 1000000) (hK : 1000000 ≤ K) : wb5 K f name = some (same f.1 name) := by
  simp only [wb5, wdN (K := K) (a := f.1) (b := name) (by omega) (by omega) (by omega) (by omega), za', zb', zc', zd', ze', zf', zg', zh', zi', zj', zk', zl', zm', zn', zo', zp', zq', zr', zs', zt']
theorem wd6 {K : Nat} {l : List Fld} {name : List UInt8} (hl : l.length < 1000000) (hf : ∀ f ∈ l, f.1.length < 1000000) (h2 : name.length < 1000000) (hK : 1000000 ≤ K) :
    we_ K l (name, ()) = some (l.filter fun f => same f.1 name) := by
  have H := idx_rule (l := we_.l0 K) (we_.t0 K) (fun _ _ => rfl) l.length
    (fun i => (((name, ()), ((), (l, ((l.length : Int), ((i : Int), ()))))), ([], ((l.take i).filter (fun f => same f.1 name), ())))) (fun i => (((), ()), ([], (l.filter (fun f => same f.1 name), ())))) ?_ K 0 (by omega) (by omega)
  · simp only [Int.natCast_zero, List.take_zero, List.filter_nil] at H
    simp only [we_, we_.tr, H, za', zb', zc', zd', ze', zf', zg', zh', zi', zj', zk', zl', zm', zn', zo', zp', zq', zr', zs', zt']
  · intro i rec hi ih
    by_cases h : i < l.length
    · have hh : (i : Int) < (l.length : Int) := by omega
      have w1 := wrapSucc (show i < 9223372036854775807 by omega)
      have hm := wc9 l (([], [], ()) : Fld) h
      have hc := wdI (K := K) (f := l.getD i (([], [], ()) : Fld)) (hf _ hm) h2 hK
      have hlen : ((l.take i).filter (fun f => same f.1 name)).length ≤ i := by
        have := List.length_filter_le (fun f : Fld => same f.1 name) (l.take i); simp at this; omega
      have hmax : (((l.take i).filter (fun f => same f.1 name)).length + 1) * 32 ≤ maxRoom := by simp only [maxRoom]; omega
      have ih' := ih h
      rw [take_get l (([], [], ()) : Fld) h, List.filter_append] at ih'
      simp only [we_.t0, za', zb', zc', zd', ze', zf', zg', zh', zi', zj', zk', zl', zm', zn', zo', zp', zq', zr', zs', zt', hh, hc, w1]
      by_cases c : same (l.getD i ([], ([], ()))).1 name = true
      · rw [List.filter_cons, if_pos c, List.filter_nil] at ih'
        simp only [c, hmax, w1, za', zb', zc', zd', ze', zf', zg', zh', zi', zj', zk', zl', zm', zn', zo', zp', zq', zr', zs', zt']
        exact ih'
      · rw [List.filter_cons, if_neg c, List.filter_nil, List.append_nil] at ih'
        simp only [c, hmax, w1, za', zb', zc', zd', ze', zf', zg', zh', zi', zj', zk', zl', zm', zn', zo', zp', zq', zr', zs', zt']
        exact ih'
    · have h2 : i = l.length := by omega
      subst h2
      simp only [we_.t0, za', zb', zc', zd', ze', zf', zg', zh', zi', zj', zk', zl', zm', zn', zo', zp', zq', zr', zs', zt', Int.lt_irrefl, List.take_length]
def allOf (l : List Fld) (name : List UInt8) : List (List UInt8) := (l.filter fun f => same f.1 name).map (·.2.1)
theorem wc5 {K : Nat} {l : List Fld} {name : List UInt8} (hl : l.length < 1000000) (hf : ∀ f ∈ l, f.1.length < 1000000) (h2 : name.length < 1000000) (hK : 1000000 ≤ K) :
    wQ_ K l name = some (allOf l name) := by
  have hq := List.length_filter_le (fun f : Fld => same f.1 name) l
  simp only [wQ_, wQ_.tr, wcF, za', zb', zc', zd', ze', zf', zg', zh', zi', zj', zk', zl', zm', zn', zo', zp', zq', zr', zs', zt', wd6 hl hf h2 hK, allOf]
  generalize l.filter (fun f => same f.1 name) = c at hq ⊢
  have H := idx_rule (l := wQ_.l0 K) (wQ_.t0 K) (fun _ _ => rfl) c.length
    (fun i => (((), (c, ((c.length : Int), ((i : Int), ())))), ([], ((c.take i).map (·.2.1), ())))) (fun i => (((), ()), ([], (c.map (·.2.1), ())))) ?_ K 0 (by omega) (by omega)
  · simp only [Int.natCast_zero, List.take_zero, List.map_nil] at H
    simp only [H, za', zb', zc', zd', ze', zf', zg', zh', zi', zj', zk', zl', zm', zn', zo', zp', zq', zr', zs', zt']
  · intro i rec hi ih
    by_cases h : i < c.length
    · have hh : (i : Int) < (c.length : Int) := by omega
      have w1 := wrapSucc (show i < 9223372036854775807 by omega)
      have ih' := ih h
      rw [take_get c (([], [], ()) : Fld) h, List.map_append] at ih'
      have hmax : (((c.take i).map (·.2.1)).length + 1) * 16 ≤ maxRoom := by simp [maxRoom]; omega
      simp only [wQ_.t0, za', zb', zc', zd', ze', zf', zg', zh', zi', zj', zk', zl', zm', zn', zo', zp', zq', zr', zs', zt', hh, hmax, w1]
      exact ih'
    · have h2 : i = c.length := by omega
      subst h2
      simp only [wQ_.t0, za', zb', zc', zd', ze', zf', zg', zh', zi', zj', zk', zl', zm', zn', zo', zp', zq', zr', zs', zt', Int.lt_irrefl, List.take_length]
/-! Drop. -/
/-! The very same fields. -/
end Go.Proofs.X
