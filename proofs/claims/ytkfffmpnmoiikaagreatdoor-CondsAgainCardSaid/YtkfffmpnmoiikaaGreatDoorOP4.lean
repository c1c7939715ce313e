/-
  A part of the proof. No condition.
-/
import Derived.Test.YtkfffmpnmoiikaaGreatDoorOP3
/- Chapter 09 (fields): what each printed function gives. No condition but on sizes. -/
set_option linter.unusedSimpArgs false
set_option linter.unusedVariables false
namespace Go.Proofs.X
open Go Go.Dp
/-! Parse, Line. -/
/-! Check. -/
def sized (l : List Fld) : Prop := l.length < 1000000 ∧ ∀ f ∈ l, f.1.length < 100000 ∧ f.2.1.length < 100000
/-! Join, Get. -/
theorem wed (l : List (List UInt8)) (sep : List UInt8) (b : Nat) (h : ∀ v ∈ l, v.length ≤ b) : (Lib.join l sep).length ≤ l.length * (b + sep.length) := by
  cases l with
  | nil => simp [Lib.join_nil]
  | cons x r =>
    rw [Lib.join_cons]
    have ht : ∀ r : List (List UInt8), (∀ v ∈ r, v.length ≤ b) → (Lib.joinTail sep r).length ≤ r.length * (b + sep.length) := by
      intro r
      induction r with
      | nil => intro _; simp [Lib.joinTail]
      | cons y r ih =>
        intro hr
        have h1 := ih fun v hv => hr v (List.mem_cons_of_mem _ hv)
        have h2 := hr y List.mem_cons_self
        have e : Lib.joinTail sep (y :: r) = sep ++ y ++ Lib.joinTail sep r := by simp [Lib.joinTail]
        rw [e, List.length_append, List.length_append, List.length_cons, Nat.add_mul]
        omega
    have h1 := ht r fun v hv => h v (List.mem_cons_of_mem _ hv)
    have h2 := h x List.mem_cons_self
    rw [List.length_append, List.length_cons, Nat.add_mul]
    omega
theorem wd6 {K : Nat} {l : List (List UInt8)} {sep : List UInt8} (hl : l.length ≤ 1000000) (b : Nat) (hb : b ≤ 1000000) (hs : sep.length ≤ 100) (h : ∀ v ∈ l, v.length ≤ b) : joinS K l sep = some (Lib.join l sep) := by
  have h1 := wed l sep b h
  have h2 : l.length * (b + sep.length) ≤ 1000000 * 1000100 := Nat.mul_le_mul hl (by omega)
  have q1 : l.length ≤ 140737488355328 := by omega
  have q2 : (Lib.join l sep).length ≤ 140737488355328 := by omega
  simp only [joinS, joinF, q1, q2, za', zb', zc', zd', ze', zf', zg', zh', zi', zj', zk', zl', zm', zn', zo', zp', zq', zr', zs', zt']
def sep2 : List UInt8 := [44, 32]
def getOf (l : List Fld) (name : List UInt8) : List UInt8 × Bool × Unit := (Lib.join (allOf l name) sep2, decide ((allOf l name).length > 0), ())
theorem wdU (l : List Fld) (name : List UInt8) : (allOf l name).length ≤ l.length := by
  have := List.length_filter_le (fun f : Fld => same f.1 name) l
  simp only [allOf, List.length_map]; omega
theorem wdP {l : List Fld} {name : List UInt8} {b : Nat} (h : ∀ f ∈ l, f.2.1.length ≤ b) : ∀ v ∈ allOf l name, v.length ≤ b := by
  intro v hv
  obtain ⟨f, hf, rfl⟩ := List.mem_map.1 hv
  exact h f (List.mem_filter.1 hf).1
theorem wcm {K : Nat} {l : List Fld} {name : List UInt8} (h : sized l) (h2 : name.length < 1000000) (hK : 1000000 ≤ K) : wbA K l name = some (getOf l name) := by
  have h3 := wdU l name
  have hd : decide (((allOf l name).length : Int) > 0) = decide ((allOf l name).length > 0) := decide_eq_decide.2 (by omega)
  have hb : ∀ v ∈ allOf l name, v.length ≤ 100000 := wdP fun f hf => by have := (h.2 f hf).2; omega
  have hj := wd6 (K := K) (sep := [44, 32]) (by have := h.1; omega) 100000 (by omega) (by decide) hb
  simp only [wbA, wcn h.1 (fun f hf => by have := (h.2 f hf).1; omega) h2 hK, za', zb', zc', zd', ze', zf', zg', zh', zi', zj', zk', zl', zm', zn', zo', zp', zq', zr', zs', zt', hj, getOf, hd, sep2]
/-! Has. -/
/-! Set. -/
/-! Same. -/
end Go.Proofs.X
