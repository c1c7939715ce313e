/-
  A part of the proof. No condition.
-/
import Derived.Test.YtkfffmpnmoiikaaGreatDoorUP3
/- Chapter 09 (fields): what each printed function gives. No condition but on sizes. -/
set_option linter.unusedSimpArgs false
set_option linter.unusedVariables false
namespace Go.Proofs.X
open Go Go.Dp
/-! Parse, Line. -/
theorem wem (s : List UInt8) (b : UInt8) : (cutAt s b).1.length ≤ s.length ∧ (cutAt s b).2.1.length ≤ s.length := by
  unfold cutAt
  split
  · have h1 := takeWhile_len s (· != b)
    have h2 := cutAt_join s b (by assumption)
    have h3 := congrArg List.length h2
    simp only [List.length_append, List.length_singleton] at h3
    exact ⟨h1, by simp only; omega⟩
  · exact ⟨Nat.le_refl _, by simp⟩
/-! Check. -/
def sized (l : List Fld) : Prop := l.length < 1000000 ∧ ∀ f ∈ l, f.1.length < 100000 ∧ f.2.1.length < 100000
/-! Join, Get. -/
theorem wgu (l : List (List UInt8)) (sep : List UInt8) (b : Nat) (h : ∀ v ∈ l, v.length ≤ b) : (Lib.join l sep).length ≤ l.length * (b + sep.length) := by
  cases l with
  | nil => simp [Lib.join_nil]
  | cons x r =>
    rw [Lib.join_cons]
    have ht : ∀ r : List (List UInt8), (∀ v ∈ r, v.length ≤ b) → (Lib.joinTail sep r).length ≤ r.length * (b + sep.length) := by
      intro r
      induction r with
      | nil => intro _; simp [Lib.joinTail]
      | cons y r ih =>
        intro hr
        have h1 := ih fun v hv => hr v (List.mem_cons_of_mem _ hv)
        have h2 := hr y List.mem_cons_self
        have e : Lib.joinTail sep (y :: r) = sep ++ y ++ Lib.joinTail sep r := by simp [Lib.joinTail]
        rw [e, List.length_append, List.length_append, List.length_cons, Nat.add_mul]
        omega
    have h1 := ht r fun v hv => h v (List.mem_cons_of_mem _ hv)
    have h2 := h x List.mem_cons_self
    rw [List.length_append, List.length_cons, Nat.add_mul]
    omega
theorem wgx {K : Nat} {l : List (List UInt8)} {sep : List UInt8} (hl : l.length ≤ 1000000) (b : Nat) (hb : b ≤ 1000000) (hs : sep.length ≤ 100) (h : ∀ v ∈ l, v.length ≤ b) : joinS K l sep = some (Lib.join l sep) := by
  have h1 := wgu l sep b h
  have h2 : l.length * (b + sep.length) ≤ 1000000 * 1000100 := Nat.mul_le_mul hl (by omega)
  have q1 : l.length ≤ 140737488355328 := by omega
  have q2 : (Lib.join l sep).length ≤ 140737488355328 := by omega
  simp only [joinS, joinF, q1, q2, za', zb', zc', zd', ze', zf', zg', zh', zi', zj', zk', zl', zm', zn', zo', zp', zq', zr', zs', zt']
def sep2 : List UInt8 := [44, 32]
def getOf (l : List Fld) (name : List UInt8) : List UInt8 × Bool × Unit := (Lib.join (allOf l name) sep2, decide ((allOf l name).length > 0), ())
theorem wdw (l : List Fld) (name : List UInt8) : (allOf l name).length ≤ l.length := by
  have := List.length_filter_le (fun f : Fld => same f.1 name) l
  simp only [allOf, List.length_map]; omega
theorem wdj {l : List Fld} {name : List UInt8} {b : Nat} (h : ∀ f ∈ l, f.2.1.length ≤ b) : ∀ v ∈ allOf l name, v.length ≤ b := by
  intro v hv
  obtain ⟨f, hf, rfl⟩ := List.mem_map.1 hv
  exact h f (List.mem_filter.1 hf).1
theorem wds {K : Nat} {l : List Fld} {name : List UInt8} (h : sized l) (h2 : name.length < 1000000) (hK : 1000000 ≤ K) : wcv K l name = some (getOf l name) := by
  have h3 := wdw l name
  have hd : decide (((allOf l name).length : Int) > 0) = decide ((allOf l name).length > 0) := decide_eq_decide.2 (by omega)
  have hb : ∀ v ∈ allOf l name, v.length ≤ 100000 := wdj fun f hf => by have := (h.2 f hf).2; omega
  have hj := wgx (K := K) (sep := [44, 32]) (by have := h.1; omega) 100000 (by omega) (by decide) hb
  simp only [wcv, wc5 h.1 (fun f hf => by have := (h.2 f hf).1; omega) h2 hK, za', zb', zc', zd', ze', zf', zg', zh', zi', zj', zk', zl', zm', zn', zo', zp', zq', zr', zs', zt', hj, getOf, hd, sep2]
/-! Has. -/
def itemIn (v item : List UInt8) : Bool := (splitS v).1.any fun x => same x item
theorem weP {K : Nat} {v item : List UInt8} (hv : v.length < 1000000) (hi : item.length < 1000000) (hK : 1000000 + 100 ≤ K) : wbv K v item = some (itemIn v item) := by
  have hc := wdd v
  have hit := wdm v
  simp only [wbv, wbv.tr, wdc (K := K) (s := v) (by omega) (by omega), za', zb', zc', zd', ze', zf', zg', zh', zi', zj', zk', zl', zm', zn', zo', zp', zq', zr', zs', zt', itemIn]
  generalize (splitS v).1 = xs at hc hit
  have H := idx_rule (l := wbv.l0 K) (wbv.t0 K) (fun _ _ => rfl) xs.length
    (fun i => ((item, (xs, ((xs.length : Int), ((i : Int), ())))), ())) (fun i => if (xs.drop i).any (fun x => same x item) then .inr ((true, ()), ()) else .inl ((), ())) ?_ K 0 (by omega) (by omega)
  · simp only [Int.natCast_zero, List.drop_zero] at H
    rw [H]
    cases xs.any (fun x => same x item) <;> simp only [za', zb', zc', zd', ze', zf', zg', zh', zi', zj', zk', zl', zm', zn', zo', zp', zq', zr', zs', zt']
  · intro i rec hi' ih
    by_cases h : i < xs.length
    · have hh : (i : Int) < (xs.length : Int) := by omega
      have w1 := wrapSucc (show i < 9223372036854775807 by omega)
      have hm := wc9 xs [] h
      have hb := hit _ hm
      have hs := wdN (K := K) (a := xs.getD i []) (b := item) (by omega) (by omega) (by omega) (by omega)
      have ih' := ih h
      rw [drop_get xs [] h, List.any_cons]
      simp only [wbv.t0, za', zb', zc', zd', ze', zf', zg', zh', zi', zj', zk', zl', zm', zn', zo', zp', zq', zr', zs', zt', hh, hs, w1]
      cases c : same (xs.getD i []) item with
      | true => simp only [za', zb', zc', zd', ze', zf', zg', zh', zi', zj', zk', zl', zm', zn', zo', zp', zq', zr', zs', zt', Bool.true_or]
      | false => simp only [za', zb', zc', zd', ze', zf', zg', zh', zi', zj', zk', zl', zm', zn', zo', zp', zq', zr', zs', zt', w1, Bool.false_or]; exact ih'
    · have h2 : i = xs.length := by omega
      subst h2
      simp only [wbv.t0, za', zb', zc', zd', ze', zf', zg', zh', zi', zj', zk', zl', zm', zn', zo', zp', zq', zr', zs', zt', Int.lt_irrefl, drop_len, List.any_nil]
def hasOf (l : List Fld) (name item : List UInt8) : Bool := (allOf l name).any fun v => itemIn v item
theorem wez {K : Nat} {l : List Fld} {name item : List UInt8} (h : sized l) (h2 : name.length < 1000000) (hi : item.length < 1000000) (hK : 1000000 + 100 ≤ K) : wbg K l name item = some (hasOf l name item) := by
  have h3 := wdw l name
  have hb : ∀ v ∈ allOf l name, v.length ≤ 100000 := wdj fun f hf => by have := (h.2 f hf).2; omega
  have hl := h.1
  simp only [wbg, wbg.tr, wc5 h.1 (fun f hf => by have := (h.2 f hf).1; omega) h2 (show 1000000 ≤ K by omega), za', zb', zc', zd', ze', zf', zg', zh', zi', zj', zk', zl', zm', zn', zo', zp', zq', zr', zs', zt', hasOf]
  generalize allOf l name = xs at h3 hb
  have H := idx_rule (l := wbg.l0 K) (wbg.t0 K) (fun _ _ => rfl) xs.length
    (fun i => ((item, (xs, ((xs.length : Int), ((i : Int), ())))), ())) (fun i => if (xs.drop i).any (fun v => itemIn v item) then .inr ((true, ()), ()) else .inl ((), ())) ?_ K 0 (by omega) (by omega)
  · simp only [Int.natCast_zero, List.drop_zero] at H
    rw [H]
    cases xs.any (fun v => itemIn v item) <;> simp only [za', zb', zc', zd', ze', zf', zg', zh', zi', zj', zk', zl', zm', zn', zo', zp', zq', zr', zs', zt']
  · intro i rec hi' ih
    by_cases h : i < xs.length
    · have hh : (i : Int) < (xs.length : Int) := by omega
      have w1 := wrapSucc (show i < 9223372036854775807 by omega)
      have hm := wc9 xs [] h
      have hs := weP (K := K) (v := xs.getD i []) (by have := hb _ hm; omega) hi hK
      have ih' := ih h
      rw [drop_get xs [] h, List.any_cons]
      simp only [wbg.t0, za', zb', zc', zd', ze', zf', zg', zh', zi', zj', zk', zl', zm', zn', zo', zp', zq', zr', zs', zt', hh, hs, w1]
      cases c : itemIn (xs.getD i []) item with
      | true => simp only [za', zb', zc', zd', ze', zf', zg', zh', zi', zj', zk', zl', zm', zn', zo', zp', zq', zr', zs', zt', Bool.true_or]
      | false => simp only [za', zb', zc', zd', ze', zf', zg', zh', zi', zj', zk', zl', zm', zn', zo', zp', zq', zr', zs', zt', w1, Bool.false_or]; exact ih'
    · have h2 : i = xs.length := by omega
      subst h2
      simp only [wbg.t0, za', zb', zc', zd', ze', zf', zg', zh', zi', zj', zk', zl', zm', zn', zo', zp', zq', zr', zs', zt', Int.lt_irrefl, drop_len, List.any_nil]
/-! Set. -/
/-! Same. -/
end Go.Proofs.X
