/-
  A part of the proof. No condition.
-/
import Derived.Test.YtkfffmpnmoiikaaGreatDoorUPa
import Derived.Test.YtkfffmpnmoiikaaGreatDoorUP8
import Derived.Test.YtkfffmpnmoiikaaGreatDoorFc
/- Chapter 13 (control): the reference's side. No condition but on sizes. -/
set_option linter.unusedSimpArgs false
set_option linter.unusedVariables false
namespace Go.Proofs.X
open Go Go.Dp
theorem wfW (s : List UInt8) (h : (secOf s).2.1 = false) : (secOf s).1 = 0 := by
  unfold secOf at h ⊢
  by_cases c : s.all isDig = true
  · simp only [c, if_true] at h ⊢
    have : s = [] := by simpa using h
    subst this
    rfl
  · simp only [c, Bool.false_eq_true, if_false]
abbrev El := List UInt8 × List UInt8
def hasE (es : List El) (nm : List UInt8) : Bool := es.any fun p => p.1 == nm
def leastE (es : List El) (nm : List UInt8) (n : Int) : Int := es.foldl (fun n p => if (p.1 == nm) = true then leastI n (secV p.2 0) else n) n
def greatE (es : List El) (nm : List UInt8) (n : Int) : Int := es.foldl (fun n p => if (p.1 == nm) = true then (if secV p.2 2147483648 > n then secV p.2 2147483648 else n) else n) n
theorem bcomm (a b : List UInt8) : (a == b) = (b == a) := by
  by_cases h : a = b
  · rw [h]
  · have h1 : (a == b) = false := by simpa using h
    have h2 : (b == a) = false := by simpa using Ne.symm h
    rw [h1, h2]
theorem b5 : ∀ c a b x y : Bool, ((c || a || b) || (x || y)) = (c || ((a || x) || (b || y))) := by decide
theorem wft : ∀ (es : List El) (c : Ctl), es.foldl stepC c = (c.1 || hasE es nm0, c.2.1 || hasE es nm1, c.2.2.1 || hasE es nm2, c.2.2.2.1 || hasE es nm3, c.2.2.2.2.1 || (hasE es nm4 || hasE es nm5), c.2.2.2.2.2.1 || hasE es nm6, leastE es nm7 c.2.2.2.2.2.2.1, leastE es nm8 c.2.2.2.2.2.2.2.1, greatE es nm9 c.2.2.2.2.2.2.2.2.1, ()) := by
  intro es
  induction es with
  | nil => intro c; simp [hasE, leastE, greatE]
  | cons p es ih =>
    intro c
    rw [List.foldl_cons, ih, wgA]
    simp only [bcomm _ p.1]
    simp only [hasE, leastE, greatE, List.any_cons, List.foldl_cons, Bool.or_assoc]
    refine congrArg (Prod.mk _) (congrArg (Prod.mk _) (congrArg (Prod.mk _) (congrArg (Prod.mk _) ?_)))
    have := b5 c.2.2.2.2.1 (p.1 == nm4) (p.1 == nm5) (es.any fun p => p.1 == nm4) (es.any fun p => p.1 == nm5)
    simp only [Bool.or_assoc] at this
    rw [this]
def elsV (vs : List (List UInt8)) : List El := vs.flatMap fun v => elemsOf (splitS v).1
theorem wf8 : ∀ (vs : List (List UInt8)) (c : Ctl), foldV c vs = (elsV vs).foldl stepC c := by
  intro vs
  induction vs with
  | nil => intro c; rfl
  | cons v vs ih =>
    intro c
    have e : elsV (v :: vs) = elemsOf (splitS v).1 ++ elsV vs := by simp [elsV]
    rw [e, List.foldl_append, ← ih]
    rfl
def refV (vs : List (List UInt8)) : Ctl :=
  (!fineV vs || hasE (elsV vs) nm0, !fineV vs || hasE (elsV vs) nm1, hasE (elsV vs) nm2, hasE (elsV vs) nm3, hasE (elsV vs) nm4 || hasE (elsV vs) nm5, hasE (elsV vs) nm6, leastE (elsV vs) nm7 (-1), leastE (elsV vs) nm8 (-1), greatE (elsV vs) nm9 (-1), ())
theorem weZ (vs : List (List UInt8)) : parseV vs = refV vs := by
  unfold parseV refV
  rw [wf8, wft]
  cases fineV vs <;> simp [ctl0]
/-! The reference's loops. -/
end Go.Proofs.X
