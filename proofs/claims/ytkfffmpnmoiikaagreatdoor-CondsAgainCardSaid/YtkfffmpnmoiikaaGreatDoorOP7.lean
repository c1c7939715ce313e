/-
  A part of the proof. No condition.
-/
import Derived.Test.YtkfffmpnmoiikaaGreatDoorOP4
/- Chapter 16 (hops): what each printed function gives. No condition but on sizes. -/
set_option linter.unusedSimpArgs false
set_option linter.unusedVariables false
namespace Go.Proofs.X
open Go Go.Dp
def partsOf (vs : List (List UInt8)) : List (List UInt8) := vs.flatMap fun v => (splitS v).1
theorem wcN (vs : List (List UInt8)) (b : Nat) (h : ∀ v ∈ vs, v.length ≤ b) : (partsOf vs).length ≤ vs.length * (b + 1) := by
  induction vs with
  | nil => simp [partsOf]
  | cons v vs ih =>
    have h1 := ih fun x hx => h x (List.mem_cons_of_mem _ hx)
    have h2 := wcE v
    have h3 := h v List.mem_cons_self
    have h4 : partsOf (v :: vs) = (splitS v).1 ++ partsOf vs := by simp [partsOf]
    rw [h4, List.length_append, List.length_cons, Nat.add_mul]
    omega
theorem wc7 (vs : List (List UInt8)) (b : Nat) (h : ∀ v ∈ vs, v.length ≤ b) : ∀ x ∈ partsOf vs, x.length ≤ b := by
  intro x hx
  obtain ⟨v, hv, hx⟩ := List.mem_flatMap.1 hx
  have h1 := wdj v x hx
  have h2 := h v hv
  omega
theorem wdf (vs : List (List UInt8)) (v : List UInt8) : partsOf (vs ++ [v]) = partsOf vs ++ (splitS v).1 := by simp [partsOf]
theorem wcz {K : Nat} (vs : List (List UInt8)) (hl : vs.length ≤ 1000) (hv : ∀ v ∈ vs, v.length ≤ 1000) (hK : 1000000 ≤ K) :
    wm_.l0 K K (((), (vs, ((vs.length : Int), (0, ())))), ([], ([], ()))) = some (((), ()), ([], (partsOf vs, ()))) := by
  have H := idx_rule (l := wm_.l0 K) (wm_.t0 K) (fun _ _ => rfl) vs.length
    (fun i => (((), (vs, ((vs.length : Int), ((i : Int), ())))), ([], (partsOf (vs.take i), ())))) (fun i => (((), ()), ([], (partsOf vs, ())))) ?_ K 0 (by omega) (by omega)
  · exact H
  · intro i rec hi ih
    by_cases h : i < vs.length
    · have hh : (i : Int) < (vs.length : Int) := by omega
      have w1 := wrapSucc (show i < 9223372036854775807 by omega)
      have hm := wcH vs [] h
      have hb := hv _ hm
      have hc := wcY (K := K) (s := vs.getD i []) (by omega) (by omega)
      have hp := wcN (vs.take i) 1000 (fun v hx => hv v (List.mem_of_mem_take hx))
      have hq := wcE (vs.getD i [])
      have hp2 : (vs.take i).length * (1000 + 1) ≤ 1000 * 1001 := by
        have : (vs.take i).length ≤ 1000 := by simp; omega
        exact Nat.mul_le_mul this (by omega)
      have hmax : ((partsOf (vs.take i)).length + (splitS (vs.getD i [])).1.length) * 16 ≤ maxRoom := by simp only [maxRoom]; omega
      have ih' := ih h
      rw [take_get vs [] h, wdf] at ih'
      simp only [wm_.t0, za', zb', zc', zd', ze', zf', zg', zh', zi', zj', zk', zl', zm', zn', zo', zp', zq', zr', zs', zt', hh, hc, w1]
      rcases wdJ (vs.getD i []) with e | ⟨e, e2⟩
      · simp only [e, hmax, w1, za', zb', zc', zd', ze', zf', zg', zh', zi', zj', zk', zl', zm', zn', zo', zp', zq', zr', zs', zt']
        exact ih'
      · rw [e2, List.append_nil] at ih'
        simp only [e, w1, za', zb', zc', zd', ze', zf', zg', zh', zi', zj', zk', zl', zm', zn', zo', zp', zq', zr', zs', zt', show ¬ (5 : Int) = 0 by decide]
        exact ih'
    · have h2 : i = vs.length := by omega
      subst h2
      simp only [wm_.t0, za', zb', zc', zd', ze', zf', zg', zh', zi', zj', zk', zl', zm', zn', zo', zp', zq', zr', zs', zt', Int.lt_irrefl, List.take_length]
theorem wdb {K : Nat} (l : List Fld) (o : List (List UInt8)) (hl : o.length < 10000000) (hK : 1000000 ≤ K) :
    wZ_.l0 K K ((l, ((), (wbF, (0, ())))), (o, ())) = some ((l, ((), ())), (o ++ wbF, ())) := by
  have hn : wbF.length = 10 := rfl
  have H := idx_rule (l := wZ_.l0 K) (wZ_.t0 K) (fun _ _ => rfl) 10
    (fun i => ((l, ((), (wbF, ((i : Int), ())))), (o ++ wbF.take i, ()))) (fun i => ((l, ((), ())), (o ++ wbF, ()))) ?_ K 0 (by omega) (by omega)
  · simpa using H
  · intro i rec hi ih
    by_cases h : i < 10
    · have hh : (i : Int) < 10 := by omega
      have w1 := wrapSucc (show i < 9223372036854775807 by omega)
      have hmax : ((o ++ wbF.take i).length + 1) * 16 ≤ maxRoom := by simp [maxRoom]; omega
      have ih' := ih h
      rw [take_get wbF [] (by omega), ← List.append_assoc] at ih'
      simp only [wZ_.t0, za', zb', zc', zd', ze', zf', zg', zh', zi', zj', zk', zl', zm', zn', zo', zp', zq', zr', zs', zt', hh, hmax, w1]
      exact ih'
    · have h2 : i = 10 := by omega
      subst h2
      have e : wbF.take 10 = wbF := rfl
      rw [e]
      have hx : ¬ ((10 : Nat) : Int) < 10 := by decide
      simp only [wZ_.t0, za', zb', zc', zd', ze', zf', zg', zh', zi', zj', zk', zl', zm', zn', zo', zp', zq', zr', zs', zt', hx]
def conn : List UInt8 := [67, 111, 110, 110, 101, 99, 116, 105, 111, 110]
def nominated (l : List Fld) : List (List UInt8) := partsOf (allOf l conn)
def few (l : List Fld) (m : Nat) : Prop := l.length ≤ m ∧ ∀ f ∈ l, small 500 f
theorem wdt {l : List Fld} {m : Nat} (h : few l m) (name : List UInt8) : (allOf l name).length ≤ m ∧ ∀ v ∈ allOf l name, v.length ≤ 500 := by
  refine ⟨?_, fun v hv => ?_⟩
  · have := List.length_filter_le (fun f : Fld => same f.1 name) l
    simp only [allOf, List.length_map]
    have := h.1
    omega
  · obtain ⟨f, hf, rfl⟩ := List.mem_map.1 hv
    exact (h.2 f (List.mem_filter.1 hf).1).2
theorem wes {l : List Fld} {m : Nat} (h : few l m) (hm : m ≤ 1000) : (nominated l).length ≤ 501000 ∧ ∀ v ∈ nominated l, v.length ≤ 500 := by
  obtain ⟨h1, h2⟩ := wdt h conn
  have h3 := wcN _ 500 h2
  refine ⟨?_, wc7 _ 500 h2⟩
  have : (allOf l conn).length * (500 + 1) ≤ 1000 * 501 := Nat.mul_le_mul (by omega) (by omega)
  simp only [nominated]
  omega
theorem wcS {l : List Fld} {m : Nat} (h : few l m) (hm : m ≤ 1000) : l.length < 1000000 ∧ ∀ f ∈ l, f.1.length < 1000000 :=
  ⟨by have := h.1; omega, fun f hf => by have := (h.2 f hf).1; omega⟩
theorem wcA {K m : Nat} {l : List Fld} (h : few l m) (hm : m ≤ 1000) (hK : 1000000 ≤ K) : wm_ K l = some (nominated l) := by
  obtain ⟨h1, h2⟩ := wcS h hm
  obtain ⟨h3, h4⟩ := wdt h conn
  have hA := wcn (K := K) (name := conn) h1 h2 (by decide) hK
  have hL := wcz (K := K) (allOf l conn) (by omega) (fun v hv => by have := h4 v hv; omega) hK
  simp only [conn] at hA hL
  simp only [wm_, wm_.tr, hA, hL, za', zb', zc', zd', ze', zf', zg', zh', zi', zj', zk', zl', zm', zn', zo', zp', zq', zr', zs', zt', nominated, conn]
theorem wc6 {K m : Nat} {l : List Fld} (h : few l m) (hm : m ≤ 1000) (hK : 1000000 ≤ K) : wZ_ K l = some (dropOf l (nominated l ++ wbF)) := by
  obtain ⟨h1, h2⟩ := wcS h hm
  obtain ⟨h3, h4⟩ := wdt h conn
  obtain ⟨h5, h6⟩ := wes h hm
  have hA := wcn (K := K) (name := conn) h1 h2 (by decide) hK
  have hN := wcA (K := K) h hm hK
  have hL1 := wdb (K := K) l (nominated l) (by omega) hK
  have hD := wch (K := K) (names := nominated l ++ wbF) h1 h2 (by
    have : wbF.length = 10 := rfl
    rw [List.length_append]; omega) (fun n hn => by
      rcases List.mem_append.1 hn with hn | hn
      · have := h6 n hn; omega
      · have : ∀ n ∈ wbF, n.length < 1000000 := by decide
        have := this n hn
        omega) hK
  simp only [wZ_, wZ_.tr, hN, hL1, hD, za', zb', zc', zd', ze', zf', zg', zh', zi', zj', zk', zl', zm', zn', zo', zp', zq', zr', zs', zt']
/-! The plain laws. -/
theorem wcl (l : List Fld) (n : List (List UInt8)) : (dropOf l n).length ≤ l.length := List.length_filter_le _ _
end Go.Proofs.X
