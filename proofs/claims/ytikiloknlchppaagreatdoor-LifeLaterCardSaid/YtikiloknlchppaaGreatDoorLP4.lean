/-
  A part of the proof. No condition.
-/
import Derived.Test.YtikiloknlchppaaGreatDoorLP3
/- Chapter 09 (fields): what each printed function gives. No condition but on sizes. -/
set_option linter.unusedSimpArgs false
set_option linter.unusedVariables false
namespace Go.Proofs.X
open Go Go.Dp

theorem fld_eta (f : Fld) : ((f.1, (f.2.1, ())) : Fld) = f := rfl
theorem fld_beq (f g : Fld) : (f.1 == g.1 && (f.2.1 == g.2.1 && true)) = decide (f = g) := by
  obtain ⟨a, b, u⟩ := f
  obtain ⟨c, d, v⟩ := g
  simp only [Bool.and_true]
  by_cases h : a = c <;> by_cases h2 : b = d <;> simp [h, h2]

/-! Parse, Line. -/
theorem cutAt_lens (s : List UInt8) (b : UInt8) : (cutAt s b).1.length ≤ s.length ∧ (cutAt s b).2.1.length ≤ s.length := by
  unfold cutAt
  split
  · have h1 := takeWhile_len s (· != b)
    have h2 := cutAt_join s b (by assumption)
    have h3 := congrArg List.length h2
    simp only [List.length_append, List.length_singleton] at h3
    exact ⟨h1, by simp only; omega⟩
  · exact ⟨Nat.le_refl _, by simp⟩
def lineOf (f : Fld) : List UInt8 := f.1 ++ [58, 32] ++ f.2.1
theorem lineOf_len (f : Fld) : (lineOf f).length = f.1.length + 2 + f.2.1.length := by simp [lineOf]; omega
/-! Check. -/
def longF (f : Fld) : Bool := decide ((lineOf f).length > 8192)
def sized (l : List Fld) : Prop := l.length < 1000000 ∧ ∀ f ∈ l, f.1.length < 100000 ∧ f.2.1.length < 100000
/-! Join, Get. -/
theorem joinTail_snoc (sep : List UInt8) (r : List (List UInt8)) (y : List UInt8) : Lib.joinTail sep (r ++ [y]) = Lib.joinTail sep r ++ (sep ++ y) := by simp [Lib.joinTail]
theorem join_snoc (l : List (List UInt8)) (y sep : List UInt8) : Lib.join (l ++ [y]) sep = if l = [] then y else Lib.join l sep ++ sep ++ y := by
  cases l with
  | nil => simp [Lib.join_one]
  | cons x r => rw [List.cons_append, Lib.join_cons, joinTail_snoc, Lib.join_cons]; simp
theorem join_len (l : List (List UInt8)) (sep : List UInt8) (b : Nat) (h : ∀ v ∈ l, v.length ≤ b) : (Lib.join l sep).length ≤ l.length * (b + sep.length) := by
  cases l with
  | nil => simp [Lib.join_nil]
  | cons x r =>
    rw [Lib.join_cons]
    have ht : ∀ r : List (List UInt8), (∀ v ∈ r, v.length ≤ b) → (Lib.joinTail sep r).length ≤ r.length * (b + sep.length) := by
      intro r
      induction r with
      | nil => intro _; simp [Lib.joinTail]
      | cons y r ih =>
        intro hr
        have h1 := ih fun v hv => hr v (List.mem_cons_of_mem _ hv)
        have h2 := hr y List.mem_cons_self
        have e : Lib.joinTail sep (y :: r) = sep ++ y ++ Lib.joinTail sep r := by simp [Lib.joinTail]
        rw [e, List.length_append, List.length_append, List.length_cons, Nat.add_mul]
        omega
    have h1 := ht r fun v hv => h v (List.mem_cons_of_mem _ hv)
    have h2 := h x List.mem_cons_self
    rw [List.length_append, List.length_cons, Nat.add_mul]
    omega
theorem joinS_eq {K : Nat} {l : List (List UInt8)} {sep : List UInt8} (hl : l.length ≤ 1000000) (b : Nat) (hb : b ≤ 1000000) (hs : sep.length ≤ 100) (h : ∀ v ∈ l, v.length ≤ b) : joinS K l sep = some (Lib.join l sep) := by
  have h1 := join_len l sep b h
  have h2 : l.length * (b + sep.length) ≤ 1000000 * 1000100 := Nat.mul_le_mul hl (by omega)
  have q1 : l.length ≤ 140737488355328 := by omega
  have q2 : (Lib.join l sep).length ≤ 140737488355328 := by omega
  simp only [joinS, joinF, q1, q2, za', zb', zc', zd', ze', zf', zg', zh', zi', zj', zk', zl', zm', zn', zo', zp', zq', zr', zs', zt']
def sep2 : List UInt8 := [44, 32]
def getOf (l : List Fld) (name : List UInt8) : List UInt8 × Bool × Unit := (Lib.join (allOf l name) sep2, decide ((allOf l name).length > 0), ())
theorem allOf_len (l : List Fld) (name : List UInt8) : (allOf l name).length ≤ l.length := by
  have := List.length_filter_le (fun f : Fld => same f.1 name) l
  simp only [allOf, List.length_map]; omega
theorem allOf_mem {l : List Fld} {name : List UInt8} {b : Nat} (h : ∀ f ∈ l, f.2.1.length ≤ b) : ∀ v ∈ allOf l name, v.length ≤ b := by
  intro v hv
  obtain ⟨f, hf, rfl⟩ := List.mem_map.1 hv
  exact h f (List.mem_filter.1 hf).1
theorem fields_Get_ok {K : Nat} {l : List Fld} {name : List UInt8} (h : sized l) (h2 : name.length < 1000000) (hK : 1000000 ≤ K) : fields_Get K l name = some (getOf l name) := by
  have h3 := allOf_len l name
  have hd : decide (((allOf l name).length : Int) > 0) = decide ((allOf l name).length > 0) := decide_eq_decide.2 (by omega)
  have hb : ∀ v ∈ allOf l name, v.length ≤ 100000 := allOf_mem fun f hf => by have := (h.2 f hf).2; omega
  have hj := joinS_eq (K := K) (sep := [44, 32]) (by have := h.1; omega) 100000 (by omega) (by decide) hb
  simp only [fields_Get, fields_All_ok h.1 (fun f hf => by have := (h.2 f hf).1; omega) h2 hK, za', zb', zc', zd', ze', zf', zg', zh', zi', zj', zk', zl', zm', zn', zo', zp', zq', zr', zs', zt', hj, getOf, hd, sep2]
/-! Has. -/
def itemIn (v item : List UInt8) : Bool := (splitS v).1.any fun x => same x item
def hasOf (l : List Fld) (name item : List UInt8) : Bool := (allOf l name).any fun v => itemIn v item
/-! Set. -/
def keep1 (name : List UInt8) : Bool → List Fld → List Fld
  | _, [] => []
  | b, x :: r => if same x.1 name then (if b then x :: keep1 name false r else keep1 name false r) else x :: keep1 name b r
def rep (f : Fld) : List Fld → List Fld
  | [] => [f]
  | x :: r => if same x.1 f.1 then f :: r else x :: rep f r
def sr (f : Fld) : Bool → List Fld → List Fld
  | put, [] => if put then [] else [f]
  | put, x :: r => if same x.1 f.1 then (if put then sr f put r else f :: sr f true r) else x :: sr f put r
theorem keep1_false (f : Fld) (l : List Fld) : keep1 f.1 false l = sr f true l := by
  induction l with
  | nil => rfl
  | cons x r ih => simp only [keep1, sr, ih, if_true, if_false, Bool.false_eq_true]
theorem rep_keep (f : Fld) (l : List Fld) : rep f (keep1 f.1 true l) = sr f false l := by
  induction l with
  | nil => rfl
  | cons x r ih =>
    simp only [keep1, sr, if_true, Bool.false_eq_true, if_false]
    by_cases h : same x.1 f.1 = true
    · simp only [h, if_true, rep, keep1_false]
    · simp only [h, if_false, rep, ih, Bool.false_eq_true]
theorem keep1_len (name : List UInt8) (l : List Fld) : ∀ b, (keep1 name b l).length ≤ l.length := by
  induction l with
  | nil => intro b; simp [keep1]
  | cons x r ih =>
    intro b
    have h1 := ih b
    have h2 := ih false
    simp only [keep1]
    split
    · split <;> simp <;> omega
    · simp; omega
theorem keep1_mem (name : List UInt8) (l : List Fld) : ∀ b, ∀ f ∈ keep1 name b l, f ∈ l := by
  induction l with
  | nil => intro b f hf; cases hf
  | cons x r ih =>
    intro b f hf
    simp only [keep1] at hf
    split at hf
    · split at hf
      · rcases List.mem_cons.1 hf with rfl | hf
        · exact List.mem_cons_self
        · exact List.mem_cons_of_mem _ (ih _ f hf)
      · exact List.mem_cons_of_mem _ (ih _ f hf)
    · rcases List.mem_cons.1 hf with rfl | hf
      · exact List.mem_cons_self
      · exact List.mem_cons_of_mem _ (ih _ f hf)
theorem keep1_cons (name : List UInt8) (b : Bool) (x : Fld) (r : List Fld) : keep1 name b (x :: r) = if same x.1 name then (if b then x :: keep1 name false r else keep1 name false r) else x :: keep1 name b r := rfl

theorem rep_append (f : Fld) (a b : List Fld) (h : ∀ x ∈ a, same x.1 f.1 = false) : rep f (a ++ b) = a ++ rep f b := by
  induction a with
  | nil => rfl
  | cons x a ih => rw [List.cons_append, rep, if_neg (by rw [h x List.mem_cons_self]; simp), ih fun y hy => h y (List.mem_cons_of_mem _ hy)]; rfl
/-! Same. -/
def sameL : List Fld → List Fld → Bool
  | [], [] => true
  | x :: a, y :: b => same x.1 y.1 && (x.2.1 == y.2.1) && sameL a b
  | _, _ => false
theorem sameL_self (l : List Fld) : sameL l l = true := by
  induction l with
  | nil => rfl
  | cons x l ih => simp [sameL, ih]
theorem sameL_len : ∀ (a b : List Fld), a.length ≠ b.length → sameL a b = false := by
  intro a
  induction a with
  | nil => intro b h; cases b <;> simp_all [sameL]
  | cons x a ih => intro b h; cases b <;> simp_all [sameL]
end Go.Proofs.X

