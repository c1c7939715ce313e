/-
  A part of the proof. No condition.
-/
import Derived.Test.YtkfffmpnmoiikaaGreatDoorOP4
/- Chapter 16 (hops): what each printed function gives. No condition but on sizes. -/
set_option linter.unusedSimpArgs false
set_option linter.unusedVariables false
namespace Go.Proofs.X
open Go Go.Dp
def partsOf (vs : List (List UInt8)) : List (List UInt8) := vs.flatMap fun v => (splitS v).1
theorem wcC (vs : List (List UInt8)) (b : Nat) (h : ∀ v ∈ vs, v.length ≤ b) : (partsOf vs).length ≤ vs.length * (b + 1) := by
  induction vs with
  | nil => simp [partsOf]
  | cons v vs ih =>
    have h1 := ih fun x hx => h x (List.mem_cons_of_mem _ hx)
    have h2 := wcv v
    have h3 := h v List.mem_cons_self
    have h4 : partsOf (v :: vs) = (splitS v).1 ++ partsOf vs := by simp [partsOf]
    rw [h4, List.length_append, List.length_cons, Nat.add_mul]
    omega
theorem wdz (vs : List (List UInt8)) (b : Nat) (h : ∀ v ∈ vs, v.length ≤ b) : ∀ x ∈ partsOf vs, x.length ≤ b := by
  intro x hx
  obtain ⟨v, hv, hx⟩ := List.mem_flatMap.1 hx
  have h1 := wdT v x hx
  have h2 := h v hv
  omega
theorem wcS (vs : List (List UInt8)) (v : List UInt8) : partsOf (vs ++ [v]) = partsOf vs ++ (splitS v).1 := by simp [partsOf]
theorem wcP {K : Nat} (vs : List (List UInt8)) (hl : vs.length ≤ 1000) (hv : ∀ v ∈ vs, v.length ≤ 1000) (hK : 1000000 ≤ K) :
    wn_.l0 K K (((), (vs, ((vs.length : Int), (0, ())))), ([], ([], ()))) = some (((), ()), ([], (partsOf vs, ()))) := by
  have H := idx_rule (l := wn_.l0 K) (wn_.t0 K) (fun _ _ => rfl) vs.length
    (fun i => (((), (vs, ((vs.length : Int), ((i : Int), ())))), ([], (partsOf (vs.take i), ())))) (fun i => (((), ()), ([], (partsOf vs, ())))) ?_ K 0 (by omega) (by omega)
  · exact H
  · intro i rec hi ih
    by_cases h : i < vs.length
    · have hh : (i : Int) < (vs.length : Int) := by omega
      have w1 := wrapSucc (show i < 9223372036854775807 by omega)
      have hm := wcf vs [] h
      have hb := hv _ hm
      have hc := wdj (K := K) (s := vs.getD i []) (by omega) (by omega)
      have hp := wcC (vs.take i) 1000 (fun v hx => hv v (List.mem_of_mem_take hx))
      have hq := wcv (vs.getD i [])
      have hp2 : (vs.take i).length * (1000 + 1) ≤ 1000 * 1001 := by
        have : (vs.take i).length ≤ 1000 := by simp; omega
        exact Nat.mul_le_mul this (by omega)
      have hmax : ((partsOf (vs.take i)).length + (splitS (vs.getD i [])).1.length) * 16 ≤ maxRoom := by simp only [maxRoom]; omega
      have ih' := ih h
      rw [take_get vs [] h, wcS] at ih'
      simp only [wn_.t0, za', zb', zc', zd', ze', zf', zg', zh', zi', zj', zk', zl', zm', zn', zo', zp', zq', zr', zs', zt', hh, hc, w1]
      rcases wek (vs.getD i []) with e | ⟨e, e2⟩
      · simp only [e, hmax, w1, za', zb', zc', zd', ze', zf', zg', zh', zi', zj', zk', zl', zm', zn', zo', zp', zq', zr', zs', zt']
        exact ih'
      · rw [e2, List.append_nil] at ih'
        simp only [e, w1, za', zb', zc', zd', ze', zf', zg', zh', zi', zj', zk', zl', zm', zn', zo', zp', zq', zr', zs', zt', show ¬ (5 : Int) = 0 by decide]
        exact ih'
    · have h2 : i = vs.length := by omega
      subst h2
      simp only [wn_.t0, za', zb', zc', zd', ze', zf', zg', zh', zi', zj', zk', zl', zm', zn', zo', zp', zq', zr', zs', zt', Int.lt_irrefl, List.take_length]
theorem wdD {K : Nat} (l : List Fld) (o : List (List UInt8)) (hl : o.length < 10000000) (hK : 1000000 ≤ K) :
    w4_.l0 K K ((l, ((), (wK_, (0, ())))), (o, ())) = some ((l, ((), ())), (o ++ wK_, ())) := by
  have hn : wK_.length = 10 := rfl
  have H := idx_rule (l := w4_.l0 K) (w4_.t0 K) (fun _ _ => rfl) 10
    (fun i => ((l, ((), (wK_, ((i : Int), ())))), (o ++ wK_.take i, ()))) (fun i => ((l, ((), ())), (o ++ wK_, ()))) ?_ K 0 (by omega) (by omega)
  · simpa using H
  · intro i rec hi ih
    by_cases h : i < 10
    · have hh : (i : Int) < 10 := by omega
      have w1 := wrapSucc (show i < 9223372036854775807 by omega)
      have hmax : ((o ++ wK_.take i).length + 1) * 16 ≤ maxRoom := by simp [maxRoom]; omega
      have ih' := ih h
      rw [take_get wK_ [] (by omega), ← List.append_assoc] at ih'
      simp only [w4_.t0, za', zb', zc', zd', ze', zf', zg', zh', zi', zj', zk', zl', zm', zn', zo', zp', zq', zr', zs', zt', hh, hmax, w1]
      exact ih'
    · have h2 : i = 10 := by omega
      subst h2
      have e : wK_.take 10 = wK_ := rfl
      rw [e]
      have hx : ¬ ((10 : Nat) : Int) < 10 := by decide
      simp only [w4_.t0, za', zb', zc', zd', ze', zf', zg', zh', zi', zj', zk', zl', zm', zn', zo', zp', zq', zr', zs', zt', hx]
def conn : List UInt8 := [67, 111, 110, 110, 101, 99, 116, 105, 111, 110]
def nominated (l : List Fld) : List (List UInt8) := partsOf (allOf l conn)
def few (l : List Fld) (m : Nat) : Prop := l.length ≤ m ∧ ∀ f ∈ l, small 500 f
theorem wdx {l : List Fld} {m : Nat} (h : few l m) (name : List UInt8) : (allOf l name).length ≤ m ∧ ∀ v ∈ allOf l name, v.length ≤ 500 := by
  refine ⟨?_, fun v hv => ?_⟩
  · have := List.length_filter_le (fun f : Fld => same f.1 name) l
    simp only [allOf, List.length_map]
    have := h.1
    omega
  · obtain ⟨f, hf, rfl⟩ := List.mem_map.1 hv
    exact (h.2 f (List.mem_filter.1 hf).1).2
theorem weA {l : List Fld} {m : Nat} (h : few l m) (hm : m ≤ 1000) : (nominated l).length ≤ 501000 ∧ ∀ v ∈ nominated l, v.length ≤ 500 := by
  obtain ⟨h1, h2⟩ := wdx h conn
  have h3 := wcC _ 500 h2
  refine ⟨?_, wdz _ 500 h2⟩
  have : (allOf l conn).length * (500 + 1) ≤ 1000 * 501 := Nat.mul_le_mul (by omega) (by omega)
  simp only [nominated]
  omega
theorem wcp {l : List Fld} {m : Nat} (h : few l m) (hm : m ≤ 1000) : l.length < 1000000 ∧ ∀ f ∈ l, f.1.length < 1000000 :=
  ⟨by have := h.1; omega, fun f hf => by have := (h.2 f hf).1; omega⟩
theorem wcN {K m : Nat} {l : List Fld} (h : few l m) (hm : m ≤ 1000) (hK : 1000000 ≤ K) : wn_ K l = some (nominated l) := by
  obtain ⟨h1, h2⟩ := wcp h hm
  obtain ⟨h3, h4⟩ := wdx h conn
  have hA := wck (K := K) (name := conn) h1 h2 (by decide) hK
  have hL := wcP (K := K) (allOf l conn) (by omega) (fun v hv => by have := h4 v hv; omega) hK
  simp only [conn] at hA hL
  simp only [wn_, wn_.tr, hA, hL, za', zb', zc', zd', ze', zf', zg', zh', zi', zj', zk', zl', zm', zn', zo', zp', zq', zr', zs', zt', nominated, conn]
theorem wdt {K m : Nat} {l : List Fld} (h : few l m) (hm : m ≤ 1000) (hK : 1000000 ≤ K) : w4_ K l = some (dropOf l (nominated l ++ wK_)) := by
  obtain ⟨h1, h2⟩ := wcp h hm
  obtain ⟨h3, h4⟩ := wdx h conn
  obtain ⟨h5, h6⟩ := weA h hm
  have hA := wck (K := K) (name := conn) h1 h2 (by decide) hK
  have hN := wcN (K := K) h hm hK
  have hL1 := wdD (K := K) l (nominated l) (by omega) hK
  have hD := wcl (K := K) (names := nominated l ++ wK_) h1 h2 (by
    have : wK_.length = 10 := rfl
    rw [List.length_append]; omega) (fun n hn => by
      rcases List.mem_append.1 hn with hn | hn
      · have := h6 n hn; omega
      · have : ∀ n ∈ wK_, n.length < 1000000 := by decide
        have := this n hn
        omega) hK
  simp only [w4_, w4_.tr, hN, hL1, hD, za', zb', zc', zd', ze', zf', zg', zh', zi', zj', zk', zl', zm', zn', zo', zp', zq', zr', zs', zt']
def isHop (name : List UInt8) : Bool := wK_.any fun n => same n name
theorem wdN {K : Nat} {name : List UInt8} (h : name.length < 1000000) (hK : 1000000 ≤ K) : wG_ K name = some (isHop name) := by
  have hn : wK_.length = 10 := rfl
  have hs : ∀ n ∈ wK_, n.length < 1000000 := by decide
  have H := idx_rule (l := wG_.l0 K) (wG_.t0 K) (fun _ _ => rfl) 10
    (fun i => ((name, (wK_, ((i : Int), ()))), ())) (fun i => if ((wK_.drop i).any fun n => same n name) = true then .inr ((true, ()), ()) else .inl ((), ())) ?_ K 0 (by omega) (by omega)
  · simp only [Int.natCast_zero, List.drop_zero] at H
    have H' : wG_ K name = (wG_.l0 K K ((name, (wK_, (0, ()))), ())).bind fun y5 => (match y5 with | .inl z6 => (some false) | .inr z7 => (some z7.1.1)) := rfl
    rw [H', H, isHop]
    by_cases c : (wK_.any fun n => same n name) = true
    · simp only [c, za', zb', zc', zd', ze', zf', zg', zh', zi', zj', zk', zl', zm', zn', zo', zp', zq', zr', zs', zt']
    · simp only [c, za', zb', zc', zd', ze', zf', zg', zh', zi', zj', zk', zl', zm', zn', zo', zp', zq', zr', zs', zt']
  · intro i rec hi ih
    by_cases h1 : i < 10
    · have hh : (i : Int) < 10 := by omega
      have w1 := wrapSucc (show i < 9223372036854775807 by omega)
      have hhl : (i : Int) < (wK_.length : Int) := by omega
      have hm := wcf wK_ [] (show i < wK_.length by omega)
      have hc := wcs (K := K) (a := wK_.getD i []) (b := name) (by have := hs _ hm; omega) (by have := hs _ hm; omega) (by omega) (by omega)
      have ih' := ih h1
      rw [drop_get wK_ [] (by omega)]
      simp only [wG_.t0, za', zb', zc', zd', ze', zf', zg', zh', zi', zj', zk', zl', zm', zn', zo', zp', zq', zr', zs', zt', hhl, hc, w1, List.any_cons]
      by_cases c : same (wK_.getD i []) name = true
      · simp only [c, za', zb', zc', zd', ze', zf', zg', zh', zi', zj', zk', zl', zm', zn', zo', zp', zq', zr', zs', zt', Bool.true_or]
      · simp only [c, za', zb', zc', zd', ze', zf', zg', zh', zi', zj', zk', zl', zm', zn', zo', zp', zq', zr', zs', zt', w1, Bool.false_or]
        exact ih'
    · have h2 : i = 10 := by omega
      subst h2
      have e : wK_.drop 10 = [] := rfl
      have hx : ¬ ((10 : Nat) : Int) < (wK_.length : Int) := by rw [hn]; decide
      rw [e]
      simp only [wG_.t0, za', zb', zc', zd', ze', zf', zg', zh', zi', zj', zk', zl', zm', zn', zo', zp', zq', zr', zs', zt', hx, List.any_nil]
theorem wcF {K m : Nat} {l : List Fld} (h : few l m) (hm : m ≤ 1000) (hK : 1000000 ≤ K) : wh_ K l = some (nominated l) := by
  obtain ⟨h1, h2⟩ := wcp h hm
  obtain ⟨h3, h4⟩ := wdx h conn
  have hA := wcu (K := K) (name := conn) h1 h2 (by decide) hK
  simp only [conn] at hA
  simp only [wh_, wh_.tr, hA, za', zb', zc', zd', ze', zf', zg', zh', zi', zj', zk', zl', zm', zn', zo', zp', zq', zr', zs', zt', nominated]
  change Option.bind (wh_.l0 K K (((), (allOf l conn, (0, ()))), ([], ([], ())))) _ = _
  generalize allOf l conn = vs at h3 h4
  have H := idx_rule (l := wh_.l0 K) (wh_.t0 K) (fun _ _ => rfl) vs.length
    (fun i => (((), (vs, ((i : Int), ()))), ([], (partsOf (vs.take i), ())))) (fun i => (((), ()), ([], (partsOf vs, ())))) ?_ K 0 (by omega) (by omega)
  · simp only [Int.natCast_zero, List.take_zero] at H
    rw [show partsOf [] = [] from rfl] at H
    rw [H]
    simp only [za', zb', zc', zd', ze', zf', zg', zh', zi', zj', zk', zl', zm', zn', zo', zp', zq', zr', zs', zt']
  · intro i rec hi ih
    by_cases h : i < vs.length
    · have hh : (i : Int) < (vs.length : Int) := by omega
      have w1 := wrapSucc (show i < 9223372036854775807 by omega)
      have hm := wcf vs [] h
      have hb := h4 _ hm
      have hc := wdg (K := K) (s := vs.getD i []) (by omega) (by omega)
      have hp := wcC (vs.take i) 500 (fun v hx => h4 v (List.mem_of_mem_take hx))
      have hq := wcv (vs.getD i [])
      have hp2 : (vs.take i).length * (500 + 1) ≤ 1000 * 501 := by
        have : (vs.take i).length ≤ 1000 := by simp; omega
        exact Nat.mul_le_mul this (by omega)
      have hmax : ((partsOf (vs.take i)).length + (splitS (vs.getD i [])).1.length) * 16 ≤ maxRoom := by simp only [maxRoom]; omega
      have ih' := ih h
      rw [take_get vs [] h, wcS] at ih'
      simp only [wh_.t0, za', zb', zc', zd', ze', zf', zg', zh', zi', zj', zk', zl', zm', zn', zo', zp', zq', zr', zs', zt', hh, hc, w1, hmax]
      exact ih'
    · have h2 : i = vs.length := by omega
      subst h2
      simp only [wh_.t0, za', zb', zc', zd', ze', zf', zg', zh', zi', zj', zk', zl', zm', zn', zo', zp', zq', zr', zs', zt', Int.lt_irrefl, List.take_length]
theorem wdd {K m : Nat} {l : List Fld} (h : few l m) (hm : m ≤ 1000) (hK : 1000000 ≤ K) : wv_ K l = some ((dropOf l (nominated l)).filter fun f => !isHop f.1) := by
  obtain ⟨h1, h2⟩ := wcp h hm
  obtain ⟨h5, h6⟩ := weA h hm
  have hD := wcq (K := K) (names := nominated l) h1 h2 (by omega) (fun n hn => by have := h6 n hn; omega) hK
  simp only [wv_, wv_.tr, wcF h hm hK, hD, za', zb', zc', zd', ze', zf', zg', zh', zi', zj', zk', zl', zm', zn', zo', zp', zq', zr', zs', zt']
  have hd : (dropOf l (nominated l)).length ≤ l.length := List.length_filter_le _ _
  have hdm : ∀ f ∈ dropOf l (nominated l), f.1.length < 1000000 := fun f hf => h2 f (List.mem_filter.1 hf).1
  generalize dropOf l (nominated l) = d at hd hdm
  have H := idx_rule (l := wv_.l0 K) (wv_.t0 K) (fun _ _ => rfl) d.length
    (fun i => (((), (d, ((i : Int), ()))), ([], ((d.take i).filter (fun f => !isHop f.1), ())))) (fun i => (((), ()), ([], (d.filter (fun f => !isHop f.1), ())))) ?_ K 0 (by omega) (by omega)
  · simp only [Int.natCast_zero, List.take_zero, List.filter_nil] at H
    rw [H]
    simp only [za', zb', zc', zd', ze', zf', zg', zh', zi', zj', zk', zl', zm', zn', zo', zp', zq', zr', zs', zt']
  · intro i rec hi ih
    by_cases h : i < d.length
    · have hh : (i : Int) < (d.length : Int) := by omega
      have w1 := wrapSucc (show i < 9223372036854775807 by omega)
      have hm := wcf d (([], [], ()) : Fld) h
      have hc := wdN (K := K) (hdm _ hm) hK
      have hlen : ((d.take i).filter (fun f => !isHop f.1)).length ≤ i := by
        have := List.length_filter_le (fun f : Fld => !isHop f.1) (d.take i); simp at this; omega
      have hmax : (((d.take i).filter (fun f => !isHop f.1)).length + 1) * 32 ≤ maxRoom := by simp only [maxRoom]; omega
      have ih' := ih h
      rw [take_get d (([], [], ()) : Fld) h, List.filter_append, List.filter_cons, List.filter_nil] at ih'
      simp only [wv_.t0, za', zb', zc', zd', ze', zf', zg', zh', zi', zj', zk', zl', zm', zn', zo', zp', zq', zr', zs', zt', hh, hc, w1]
      by_cases c : isHop (d.getD i (([], [], ()) : Fld)).1 = true
      · simp only [c, w1, za', zb', zc', zd', ze', zf', zg', zh', zi', zj', zk', zl', zm', zn', zo', zp', zq', zr', zs', zt', List.append_nil] at ih' ⊢
        exact ih'
      · simp only [c, w1, za', zb', zc', zd', ze', zf', zg', zh', zi', zj', zk', zl', zm', zn', zo', zp', zq', zr', zs', zt'] at ih' ⊢
        simp only [hh, hmax, w1, za', zb', zc', zd', ze', zf', zg', zh', zi', zj', zk', zl', zm', zn', zo', zp', zq', zr', zs', zt']
        exact ih'
    · have h2 : i = d.length := by omega
      subst h2
      simp only [wv_.t0, za', zb', zc', zd', ze', zf', zg', zh', zi', zj', zk', zl', zm', zn', zo', zp', zq', zr', zs', zt', Int.lt_irrefl, List.take_length]
/-! The plain laws. -/
theorem wdc (a : List UInt8) (x y : List (List UInt8)) : anySame a (x ++ y) = (anySame a x || anySame a y) := by simp [anySame]
theorem weJ (a : List UInt8) : isHop a = anySame a wK_ := by simp only [isHop, anySame, wew a]
theorem weH (l : List Fld) : dropOf l (nominated l ++ wK_) = (dropOf l (nominated l)).filter fun f => !isHop f.1 := by
  simp only [dropOf, List.filter_filter, wdc, weJ, Bool.not_or]
  congr 1
  funext f
  rw [Bool.and_comm]
theorem wch (l : List Fld) (n : List (List UInt8)) : (dropOf l n).length ≤ l.length := List.length_filter_le _ _
end Go.Proofs.X
