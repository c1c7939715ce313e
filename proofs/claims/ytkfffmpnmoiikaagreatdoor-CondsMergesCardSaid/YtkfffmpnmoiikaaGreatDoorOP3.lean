/-
  A part of the proof. No condition.
-/
import Derived.Test.YtkfffmpnmoiikaaGreatDoorOP2
/- Chapter 09 (fields): what the hops need: All, Drop, Few, Equal. No condition but on sizes. -/
set_option linter.unusedSimpArgs false
set_option linter.unusedVariables false
namespace Go.Proofs.X
open Go Go.Dp
abbrev Fld := List UInt8 × List UInt8 × Unit
def small (b : Nat) (f : Fld) : Prop := f.1.length ≤ b ∧ f.2.1.length ≤ b
instance (b : Nat) (f : Fld) : Decidable (small b f) := by unfold small; exact inferInstance
def smallB (b : Nat) (f : Fld) : Bool := decide (f.1.length ≤ b) && decide (f.2.1.length ≤ b)
theorem wcf {α : Type} (l : List α) (d : α) {i : Nat} (h : i < l.length) : l.getD i d ∈ l := by
  rw [getD_get l d h]; exact List.getElem_mem h
theorem wdI (K : Nat) (l : List Fld) (m b : Nat) (hm : m < 1000000) (hK : m + 2 < K) :
    ∃ r, wz_ K l (m : Int) (b : Int) = some r ∧ (r = true → l.length ≤ m ∧ ∀ f ∈ l, small b f) := by
  have hN : (l.take (m + 1)).length = min (m + 1) l.length := by simp
  have H := idx_rule (l := wz_.l0 K) (wz_.t0 K) (fun _ _ => rfl) (l.take (m + 1)).length
    (fun i => ((l, ((m : Int), ((b : Int), ((i : Int), ())))), ())) (fun i => if ((l.take (m + 1)).drop i).all (smallB b) then .inl ((l, ((m : Int), ())), ()) else .inr ((false, ()), ())) ?_ K 0 (by omega) (by omega)
  · simp only [Int.natCast_zero, List.drop_zero] at H
    simp only [wz_, wz_.tr, H]
    by_cases hall : (l.take (m + 1)).all (smallB b) = true
    · simp only [hall, za', zb', zc', zd', ze', zf', zg', zh', zi', zj', zk', zl', zm', zn', zo', zp', zq', zr', zs', zt']
      refine ⟨_, rfl, fun hr => ?_⟩
      have hl : l.length ≤ m := by have := of_decide_eq_true hr; omega
      refine ⟨hl, fun f hf => ?_⟩
      rw [List.take_of_length_le (by omega)] at hall
      have := List.all_eq_true.1 hall f hf
      simpa [smallB, small] using this
    · simp only [hall, za', zb', zc', zd', ze', zf', zg', zh', zi', zj', zk', zl', zm', zn', zo', zp', zq', zr', zs', zt']
      exact ⟨_, rfl, fun h => by cases h⟩
  · intro i rec hi ih
    by_cases h : i < (l.take (m + 1)).length
    · have h1 : i < l.length := by omega
      have h2 : i ≤ m := by omega
      have hh : (i : Int) < (l.length : Int) := by omega
      have w1 := wrapSucc (show i < 9223372036854775807 by omega)
      have hh2 : (i : Int) ≤ (m : Int) := by omega
      have e : (l.take (m + 1)).getD i (([], [], ()) : Fld) = l.getD i (([], [], ()) : Fld) := by
        simp only [List.getD_eq_getElem?_getD, List.getElem?_take]
        rw [if_pos (by omega)]
      have ih' := ih h
      rw [drop_get _ (([], [], ()) : Fld) h, List.all_cons, e]
      simp only [wz_.t0, za', zb', zc', zd', ze', zf', zg', zh', zi', zj', zk', zl', zm', zn', zo', zp', zq', zr', zs', zt', hh, hh2, w1]
      change (_ : Option _) = some (if (smallB b (l.getD i (([], [], ()) : Fld)) && _) = true then _ else _)
      by_cases c1 : ((l.getD i ([], ([], ()))).1.length : Int) > (b : Int)
      · have : smallB b (l.getD i (([], [], ()) : Fld)) = false := by
          simp only [smallB]
          have : ¬ (l.getD i ([], ([], ()))).1.length ≤ b := by omega
          simp [-List.getD_eq_getElem?_getD, this]
        simp only [c1, za', zb', zc', zd', ze', zf', zg', zh', zi', zj', zk', zl', zm', zn', zo', zp', zq', zr', zs', zt', this]
      · by_cases c2 : ((l.getD i ([], ([], ()))).2.1.length : Int) > (b : Int)
        · have : smallB b (l.getD i (([], [], ()) : Fld)) = false := by
            simp only [smallB]
            have : ¬ (l.getD i ([], ([], ()))).2.1.length ≤ b := by omega
            simp [-List.getD_eq_getElem?_getD, this]
          simp only [c1, c2, za', zb', zc', zd', ze', zf', zg', zh', zi', zj', zk', zl', zm', zn', zo', zp', zq', zr', zs', zt', this]
        · have : smallB b (l.getD i (([], [], ()) : Fld)) = true := by
            simp only [smallB, Bool.and_eq_true, decide_eq_true_eq]
            exact ⟨by omega, by omega⟩
          simp only [c1, c2, w1, za', zb', zc', zd', ze', zf', zg', zh', zi', zj', zk', zl', zm', zn', zo', zp', zq', zr', zs', zt', this]
          exact ih'
    · have h2 : i = (l.take (m + 1)).length := by omega
      have hN' := hN
      rw [h2, drop_len]
      by_cases h3 : m + 1 < l.length
      · have e : (l.take (m + 1)).length = m + 1 := by rw [hN]; omega
        have hh2 : ¬ ((m + 1 : Nat) : Int) ≤ (m : Int) := by omega
        have hh3 : ((m + 1 : Nat) : Int) < (l.length : Int) := by omega
        rw [e]
        simp only [wz_.t0, za', zb', zc', zd', ze', zf', zg', zh', zi', zj', zk', zl', zm', zn', zo', zp', zq', zr', zs', zt', hh2, hh3, List.all_nil]
      · have e : (l.take (m + 1)).length = l.length := by rw [hN]; omega
        rw [e]
        simp only [wz_.t0, za', zb', zc', zd', ze', zf', zg', zh', zi', zj', zk', zl', zm', zn', zo', zp', zq', zr', zs', zt', Int.lt_irrefl, List.all_nil]
/-! Choices. -/
theorem wcJ {K : Nat} {f : Fld} {name : List UInt8} (h1 : f.1.length < 1000000) (h2 : name.length < 1000000) (hK : 1000000 ≤ K) : wbG K f name = some (same f.1 name) := by
  simp only [wbG, wcK (K := K) (a := f.1) (b := name) (by omega) (by omega) (by omega) (by omega), za', zb', zc', zd', ze', zf', zg', zh', zi', zj', zk', zl', zm', zn', zo', zp', zq', zr', zs', zt']
theorem wc4 {K : Nat} {l : List Fld} {name : List UInt8} (hl : l.length < 1000000) (hf : ∀ f ∈ l, f.1.length < 1000000) (h2 : name.length < 1000000) (hK : 1000000 ≤ K) :
    we_ K l (name, ()) = some (l.filter fun f => same f.1 name) := by
  have H := idx_rule (l := we_.l0 K) (we_.t0 K) (fun _ _ => rfl) l.length
    (fun i => (((name, ()), ((), (l, ((l.length : Int), ((i : Int), ()))))), ([], ((l.take i).filter (fun f => same f.1 name), ())))) (fun i => (((), ()), ([], (l.filter (fun f => same f.1 name), ())))) ?_ K 0 (by omega) (by omega)
  · simp only [Int.natCast_zero, List.take_zero, List.filter_nil] at H
    simp only [we_, we_.tr, H, za', zb', zc', zd', ze', zf', zg', zh', zi', zj', zk', zl', zm', zn', zo', zp', zq', zr', zs', zt']
  · intro i rec hi ih
    by_cases h : i < l.length
    · have hh : (i : Int) < (l.length : Int) := by omega
      have w1 := wrapSucc (show i < 9223372036854775807 by omega)
      have hm := wcf l (([], [], ()) : Fld) h
      have hc := wcJ (K := K) (f := l.getD i (([], [], ()) : Fld)) (hf _ hm) h2 hK
      have hlen : ((l.take i).filter (fun f => same f.1 name)).length ≤ i := by
        have := List.length_filter_le (fun f : Fld => same f.1 name) (l.take i); simp at this; omega
      have hmax : (((l.take i).filter (fun f => same f.1 name)).length + 1) * 32 ≤ maxRoom := by simp only [maxRoom]; omega
      have ih' := ih h
      rw [take_get l (([], [], ()) : Fld) h, List.filter_append] at ih'
      simp only [we_.t0, za', zb', zc', zd', ze', zf', zg', zh', zi', zj', zk', zl', zm', zn', zo', zp', zq', zr', zs', zt', hh, hc, w1]
      by_cases c : same (l.getD i ([], ([], ()))).1 name = true
      · rw [List.filter_cons, if_pos c, List.filter_nil] at ih'
        simp only [c, hmax, w1, za', zb', zc', zd', ze', zf', zg', zh', zi', zj', zk', zl', zm', zn', zo', zp', zq', zr', zs', zt']
        exact ih'
      · rw [List.filter_cons, if_neg c, List.filter_nil, List.append_nil] at ih'
        simp only [c, hmax, w1, za', zb', zc', zd', ze', zf', zg', zh', zi', zj', zk', zl', zm', zn', zo', zp', zq', zr', zs', zt']
        exact ih'
    · have h2 : i = l.length := by omega
      subst h2
      simp only [we_.t0, za', zb', zc', zd', ze', zf', zg', zh', zi', zj', zk', zl', zm', zn', zo', zp', zq', zr', zs', zt', Int.lt_irrefl, List.take_length]
def allOf (l : List Fld) (name : List UInt8) : List (List UInt8) := (l.filter fun f => same f.1 name).map (·.2.1)
theorem wck {K : Nat} {l : List Fld} {name : List UInt8} (hl : l.length < 1000000) (hf : ∀ f ∈ l, f.1.length < 1000000) (h2 : name.length < 1000000) (hK : 1000000 ≤ K) :
    wR_ K l name = some (allOf l name) := by
  have hq := List.length_filter_le (fun f : Fld => same f.1 name) l
  simp only [wR_, wR_.tr, wbW, za', zb', zc', zd', ze', zf', zg', zh', zi', zj', zk', zl', zm', zn', zo', zp', zq', zr', zs', zt', wc4 hl hf h2 hK, allOf]
  generalize l.filter (fun f => same f.1 name) = c at hq ⊢
  have H := idx_rule (l := wR_.l0 K) (wR_.t0 K) (fun _ _ => rfl) c.length
    (fun i => (((), (c, ((c.length : Int), ((i : Int), ())))), ([], ((c.take i).map (·.2.1), ())))) (fun i => (((), ()), ([], (c.map (·.2.1), ())))) ?_ K 0 (by omega) (by omega)
  · simp only [Int.natCast_zero, List.take_zero, List.map_nil] at H
    simp only [H, za', zb', zc', zd', ze', zf', zg', zh', zi', zj', zk', zl', zm', zn', zo', zp', zq', zr', zs', zt']
  · intro i rec hi ih
    by_cases h : i < c.length
    · have hh : (i : Int) < (c.length : Int) := by omega
      have w1 := wrapSucc (show i < 9223372036854775807 by omega)
      have ih' := ih h
      rw [take_get c (([], [], ()) : Fld) h, List.map_append] at ih'
      have hmax : (((c.take i).map (·.2.1)).length + 1) * 16 ≤ maxRoom := by simp [maxRoom]; omega
      simp only [wR_.t0, za', zb', zc', zd', ze', zf', zg', zh', zi', zj', zk', zl', zm', zn', zo', zp', zq', zr', zs', zt', hh, hmax, w1]
      exact ih'
    · have h2 : i = c.length := by omega
      subst h2
      simp only [wR_.t0, za', zb', zc', zd', ze', zf', zg', zh', zi', zj', zk', zl', zm', zn', zo', zp', zq', zr', zs', zt', Int.lt_irrefl, List.take_length]
theorem wcu {K : Nat} {l : List Fld} {name : List UInt8} (hl : l.length < 1000000) (hf : ∀ f ∈ l, f.1.length < 1000000) (h2 : name.length < 1000000) (hK : 1000000 ≤ K) :
    wu_ K l name = some (allOf l name) := by
  have H := idx_rule (l := wu_.l0 K) (wu_.t0 K) (fun _ _ => rfl) l.length
    (fun i => ((l, (name, ((), ((i : Int), ())))), ([], (allOf (l.take i) name, ())))) (fun i => (((), ()), ([], (allOf l name, ())))) ?_ K 0 (by omega) (by omega)
  · simp only [Int.natCast_zero, List.take_zero] at H
    simp only [wu_, wu_.tr]
    rw [show allOf [] name = [] from rfl] at H
    simp only [H, za', zb', zc', zd', ze', zf', zg', zh', zi', zj', zk', zl', zm', zn', zo', zp', zq', zr', zs', zt']
  · intro i rec hi ih
    by_cases h : i < l.length
    · have hh : (i : Int) < (l.length : Int) := by omega
      have w1 := wrapSucc (show i < 9223372036854775807 by omega)
      have hm := wcf l (([], [], ()) : Fld) h
      have hc := wcs (K := K) (a := (l.getD i (([], [], ()) : Fld)).1) (b := name) (by have := hf _ hm; omega) (by have := hf _ hm; omega) (by omega) (by omega)
      have hlen : (allOf (l.take i) name).length ≤ i := by
        have := List.length_filter_le (fun f : Fld => same f.1 name) (l.take i); simp only [allOf, List.length_map]; simp at this; omega
      have hmax : ((allOf (l.take i) name).length + 1) * 16 ≤ maxRoom := by simp only [maxRoom]; omega
      have ih' := ih h
      have e : allOf (l.take (i + 1)) name = allOf (l.take i) name ++ (if same (l.getD i (([], [], ()) : Fld)).1 name then [(l.getD i (([], [], ()) : Fld)).2.1] else []) := by
        simp only [allOf, take_get l (([], [], ()) : Fld) h, List.filter_append, List.map_append, List.filter_cons, List.filter_nil]
        split <;> rfl
      rw [e] at ih'
      simp only [wu_.t0, za', zb', zc', zd', ze', zf', zg', zh', zi', zj', zk', zl', zm', zn', zo', zp', zq', zr', zs', zt', hh, hc, w1]
      by_cases c : same (l.getD i ([], ([], ()))).1 name = true
      · rw [if_pos c] at ih'
        simp only [c, hmax, w1, za', zb', zc', zd', ze', zf', zg', zh', zi', zj', zk', zl', zm', zn', zo', zp', zq', zr', zs', zt']
        exact ih'
      · rw [if_neg c, List.append_nil] at ih'
        simp only [c, hmax, w1, za', zb', zc', zd', ze', zf', zg', zh', zi', zj', zk', zl', zm', zn', zo', zp', zq', zr', zs', zt']
        exact ih'
    · have h2 : i = l.length := by omega
      subst h2
      simp only [wu_.t0, za', zb', zc', zd', ze', zf', zg', zh', zi', zj', zk', zl', zm', zn', zo', zp', zq', zr', zs', zt', Int.lt_irrefl, List.take_length]
/-! Drop. -/
def anySame (a : List UInt8) (names : List (List UInt8)) : Bool := names.any fun n => same a n
theorem wcO {K : Nat} {f : Fld} {names : List (List UInt8)} (h1 : f.1.length < 1000000) (hn : names.length < 1000000) (h2 : ∀ n ∈ names, n.length < K ∧ n.length < 9223372036854775808) (hK : 1000000 ≤ K) :
    wB_ K f names = some (!anySame f.1 names) := by
  have H := idx_rule (l := wB_.l0 K) (wB_.t0 K) (fun _ _ => rfl) names.length
    (fun i => ((f, (names, ((names.length : Int), ((i : Int), ())))), ())) (fun i => if anySame f.1 (names.drop i) then .inr ((false, ()), ()) else .inl ((), ())) ?_ K 0 (by omega) (by omega)
  · simp only [Int.natCast_zero, List.drop_zero] at H
    simp only [wB_, wB_.tr, H]
    by_cases c : anySame f.1 names = true
    · simp only [c, za', zb', zc', zd', ze', zf', zg', zh', zi', zj', zk', zl', zm', zn', zo', zp', zq', zr', zs', zt']
    · simp only [c, za', zb', zc', zd', ze', zf', zg', zh', zi', zj', zk', zl', zm', zn', zo', zp', zq', zr', zs', zt']
  · intro i rec hi ih
    by_cases h : i < names.length
    · have hh : (i : Int) < (names.length : Int) := by omega
      have w1 := wrapSucc (show i < 9223372036854775807 by omega)
      have hm := wcf names [] h
      have hc := wcK (K := K) (a := f.1) (b := names.getD i []) (by omega) (by omega) (by have := h2 _ hm; omega) (by have := h2 _ hm; omega)
      have ih' := ih h
      rw [drop_get names [] h]
      simp only [wB_.t0, za', zb', zc', zd', ze', zf', zg', zh', zi', zj', zk', zl', zm', zn', zo', zp', zq', zr', zs', zt', hh, hc, w1, anySame, List.any_cons]
      by_cases c : same f.1 (names.getD i []) = true
      · simp only [c, za', zb', zc', zd', ze', zf', zg', zh', zi', zj', zk', zl', zm', zn', zo', zp', zq', zr', zs', zt', Bool.true_or]
      · simp only [c, w1, za', zb', zc', zd', ze', zf', zg', zh', zi', zj', zk', zl', zm', zn', zo', zp', zq', zr', zs', zt', Bool.false_or]
        exact ih'
    · have h2 : i = names.length := by omega
      subst h2
      simp only [wB_.t0, za', zb', zc', zd', ze', zf', zg', zh', zi', zj', zk', zl', zm', zn', zo', zp', zq', zr', zs', zt', Int.lt_irrefl, drop_len, anySame, List.any_nil]
def dropOf (l : List Fld) (names : List (List UInt8)) : List Fld := l.filter fun f => !anySame f.1 names
theorem wdn {K : Nat} {l : List Fld} {names : List (List UInt8)} (hl : l.length < 1000000) (hf : ∀ f ∈ l, f.1.length < 1000000) (hn : names.length < 1000000) (h2 : ∀ n ∈ names, n.length < K ∧ n.length < 9223372036854775808) (hK : 1000000 ≤ K) :
    wa_ K l (names, ()) = some (dropOf l names) := by
  have H := idx_rule (l := wa_.l0 K) (wa_.t0 K) (fun _ _ => rfl) l.length
    (fun i => (((names, ()), ((), (l, ((l.length : Int), ((i : Int), ()))))), ([], (dropOf (l.take i) names, ())))) (fun i => (((), ()), ([], (dropOf l names, ())))) ?_ K 0 (by omega) (by omega)
  · simp only [Int.natCast_zero, List.take_zero] at H
    rw [show dropOf [] names = [] from rfl] at H
    simp only [wa_, wa_.tr, H, za', zb', zc', zd', ze', zf', zg', zh', zi', zj', zk', zl', zm', zn', zo', zp', zq', zr', zs', zt']
  · intro i rec hi ih
    by_cases h : i < l.length
    · have hh : (i : Int) < (l.length : Int) := by omega
      have w1 := wrapSucc (show i < 9223372036854775807 by omega)
      have hm := wcf l (([], [], ()) : Fld) h
      have hc := wcO (K := K) (f := l.getD i (([], [], ()) : Fld)) (hf _ hm) hn h2 hK
      have hlen : (dropOf (l.take i) names).length ≤ i := by
        have := List.length_filter_le (fun f : Fld => !anySame f.1 names) (l.take i); simp only [dropOf]; simp at this; omega
      have hmax : ((dropOf (l.take i) names).length + 1) * 32 ≤ maxRoom := by simp only [maxRoom]; omega
      have ih' := ih h
      have e : dropOf (l.take (i + 1)) names = dropOf (l.take i) names ++ (if !anySame (l.getD i (([], [], ()) : Fld)).1 names then [l.getD i (([], [], ()) : Fld)] else []) := by
        simp only [dropOf, take_get l (([], [], ()) : Fld) h, List.filter_append, List.filter_cons, List.filter_nil]
      rw [e] at ih'
      simp only [wa_.t0, za', zb', zc', zd', ze', zf', zg', zh', zi', zj', zk', zl', zm', zn', zo', zp', zq', zr', zs', zt', hh, hc, w1]
      by_cases c : anySame (l.getD i ([], ([], ()))).1 names = true
      · simp only [c, w1, za', zb', zc', zd', ze', zf', zg', zh', zi', zj', zk', zl', zm', zn', zo', zp', zq', zr', zs', zt', List.append_nil] at ih' ⊢
        exact ih'
      · simp only [c, w1, za', zb', zc', zd', ze', zf', zg', zh', zi', zj', zk', zl', zm', zn', zo', zp', zq', zr', zs', zt'] at ih' ⊢
        simp only [hmax, w1, za', zb', zc', zd', ze', zf', zg', zh', zi', zj', zk', zl', zm', zn', zo', zp', zq', zr', zs', zt']
        exact ih'
    · have h2 : i = l.length := by omega
      subst h2
      simp only [wa_.t0, za', zb', zc', zd', ze', zf', zg', zh', zi', zj', zk', zl', zm', zn', zo', zp', zq', zr', zs', zt', Int.lt_irrefl, List.take_length]
theorem wcl {K : Nat} {l : List Fld} {names : List (List UInt8)} (hl : l.length < 1000000) (hf : ∀ f ∈ l, f.1.length < 1000000) (hn : names.length < 1000000) (h2 : ∀ n ∈ names, n.length < K ∧ n.length < 9223372036854775808) (hK : 1000000 ≤ K) :
    wW_ K l names = some (dropOf l names) := by
  simp only [wW_, wdn hl hf hn h2 hK, za', zb', zc', zd', ze', zf', zg', zh', zi', zj', zk', zl', zm', zn', zo', zp', zq', zr', zs', zt']
theorem wdy {K : Nat} {l : List Fld} {names : List (List UInt8)} (out : List Fld) (j : Nat) (hj : j < l.length) (hf : (l.getD j (([], [], ()) : Fld)).1.length < 1000000) (hn : names.length < 1000000) (h2 : ∀ n ∈ names, n.length < K ∧ n.length < 9223372036854775808) (hK : 1000000 ≤ K) :
    wb_.l0 K K ((l, (names, ((), ((j : Int), (false, (0, ())))))), ([], (out, ()))) = some ((l, (names, ((), ((j : Int), (anySame (l.getD j (([], [], ()) : Fld)).1 names, ()))))), ([], (out, ()))) := by
  have H := idx_rule (l := wb_.l0 K) (wb_.t0 K) (fun _ _ => rfl) names.length
    (fun i => ((l, (names, ((), ((j : Int), (anySame (l.getD j (([], [], ()) : Fld)).1 (names.take i), ((i : Int), ())))))), ([], (out, ())))) (fun i => ((l, (names, ((), ((j : Int), (anySame (l.getD j (([], [], ()) : Fld)).1 names, ()))))), ([], (out, ())))) ?_ K 0 (by omega) (by omega)
  · exact H
  · intro i rec hi ih
    by_cases h : i < names.length
    · have hh : (i : Int) < (names.length : Int) := by omega
      have w1 := wrapSucc (show i < 9223372036854775807 by omega)
      have hhj : (j : Int) < (l.length : Int) := by omega
      have hm := wcf names [] h
      have hc := wcs (K := K) (a := (l.getD j (([], [], ()) : Fld)).1) (b := names.getD i []) (by omega) (by omega) (by have := h2 _ hm; omega) (by have := h2 _ hm; omega)
      have ih' := ih h
      have e : anySame (l.getD j (([], [], ()) : Fld)).1 (names.take (i + 1)) = (anySame (l.getD j (([], [], ()) : Fld)).1 (names.take i) || same (l.getD j (([], [], ()) : Fld)).1 (names.getD i [])) := by
        simp only [anySame, take_get names [] h, List.any_append, List.any_cons, List.any_nil, Bool.or_false]
      rw [e] at ih'
      simp only [wb_.t0, za', zb', zc', zd', ze', zf', zg', zh', zi', zj', zk', zl', zm', zn', zo', zp', zq', zr', zs', zt', hh, hhj, w1]
      cases c : anySame (l.getD j ([], ([], ()))).1 (names.take i) with
      | true =>
        simp only [c, w1, za', zb', zc', zd', ze', zf', zg', zh', zi', zj', zk', zl', zm', zn', zo', zp', zq', zr', zs', zt', Bool.true_or] at ih' ⊢
        exact ih'
      | false =>
        simp only [c, w1, za', zb', zc', zd', ze', zf', zg', zh', zi', zj', zk', zl', zm', zn', zo', zp', zq', zr', zs', zt', Bool.false_or, hc] at ih' ⊢
        exact ih'
    · have h2 : i = names.length := by omega
      subst h2
      simp only [wb_.t0, za', zb', zc', zd', ze', zf', zg', zh', zi', zj', zk', zl', zm', zn', zo', zp', zq', zr', zs', zt', Int.lt_irrefl, List.take_length]
theorem wcq {K : Nat} {l : List Fld} {names : List (List UInt8)} (hl : l.length < 1000000) (hf : ∀ f ∈ l, f.1.length < 1000000) (hn : names.length < 1000000) (h2 : ∀ n ∈ names, n.length < K ∧ n.length < 9223372036854775808) (hK : 1000000 ≤ K) :
    wb_ K l names = some (dropOf l names) := by
  have H := idx_rule (l := wb_.l1 K) (wb_.t1 (wb_.l0 K) K) (fun _ _ => rfl) l.length
    (fun i => ((l, (names, ((), ((i : Int), ())))), ([], (dropOf (l.take i) names, ())))) (fun i => (((), ()), ([], (dropOf l names, ())))) ?_ K 0 (by omega) (by omega)
  · simp only [Int.natCast_zero, List.take_zero] at H
    rw [show dropOf [] names = [] from rfl] at H
    simp only [wb_, wb_.tr, H, za', zb', zc', zd', ze', zf', zg', zh', zi', zj', zk', zl', zm', zn', zo', zp', zq', zr', zs', zt']
  · intro i rec hi ih
    by_cases h : i < l.length
    · have hh : (i : Int) < (l.length : Int) := by omega
      have w1 := wrapSucc (show i < 9223372036854775807 by omega)
      have hm := wcf l (([], [], ()) : Fld) h
      have hc := wdy (K := K) (dropOf (l.take i) names) i h (hf _ hm) hn h2 hK
      have hlen : (dropOf (l.take i) names).length ≤ i := by
        have := List.length_filter_le (fun f : Fld => !anySame f.1 names) (l.take i); simp only [dropOf]; simp at this; omega
      have hmax : ((dropOf (l.take i) names).length + 1) * 32 ≤ maxRoom := by simp only [maxRoom]; omega
      have ih' := ih h
      have e : dropOf (l.take (i + 1)) names = dropOf (l.take i) names ++ (if !anySame (l.getD i (([], [], ()) : Fld)).1 names then [l.getD i (([], [], ()) : Fld)] else []) := by
        simp only [dropOf, take_get l (([], [], ()) : Fld) h, List.filter_append, List.filter_cons, List.filter_nil]
      rw [e] at ih'
      simp only [wb_.t1, za', zb', zc', zd', ze', zf', zg', zh', zi', zj', zk', zl', zm', zn', zo', zp', zq', zr', zs', zt', hh, hc, w1]
      by_cases c : anySame (l.getD i ([], ([], ()))).1 names = true
      · simp only [c, w1, za', zb', zc', zd', ze', zf', zg', zh', zi', zj', zk', zl', zm', zn', zo', zp', zq', zr', zs', zt', List.append_nil] at ih' ⊢
        exact ih'
      · simp only [c, za', zb', zc', zd', ze', zf', zg', zh', zi', zj', zk', zl', zm', zn', zo', zp', zq', zr', zs', zt'] at ih' ⊢
        simp only [hh, hmax, za', zb', zc', zd', ze', zf', zg', zh', zi', zj', zk', zl', zm', zn', zo', zp', zq', zr', zs', zt', w1]
        exact ih'
    · have h2 : i = l.length := by omega
      subst h2
      simp only [wb_.t1, za', zb', zc', zd', ze', zf', zg', zh', zi', zj', zk', zl', zm', zn', zo', zp', zq', zr', zs', zt', Int.lt_irrefl, List.take_length]
/-! The very same fields. -/
theorem wcV {K : Nat} (l : List Fld) (hl : l.length < 1000000) (hK : 1000000 ≤ K) : wo_ K l l = some true := by
  have H := idx_rule (l := wo_.l0 K) (wo_.t0 K) (fun _ _ => rfl) l.length
    (fun i => ((l, (l, ((i : Int), ()))), ())) (fun i => .inl ((), ())) ?_ K 0 (by omega) (by omega)
  · simp only [Int.natCast_zero] at H
    simp only [wo_, wo_.tr, H, za', zb', zc', zd', ze', zf', zg', zh', zi', zj', zk', zl', zm', zn', zo', zp', zq', zr', zs', zt']
  · intro i rec hi ih
    by_cases h : i < l.length
    · have hh : (i : Int) < (l.length : Int) := by omega
      have w1 := wrapSucc (show i < 9223372036854775807 by omega)
      simp only [wo_.t0, za', zb', zc', zd', ze', zf', zg', zh', zi', zj', zk', zl', zm', zn', zo', zp', zq', zr', zs', zt', hh, beq_self_eq_true, w1]
      exact ih h
    · have h2 : i = l.length := by omega
      subst h2
      simp only [wo_.t0, za', zb', zc', zd', ze', zf', zg', zh', zi', zj', zk', zl', zm', zn', zo', zp', zq', zr', zs', zt', Int.lt_irrefl]
end Go.Proofs.X
