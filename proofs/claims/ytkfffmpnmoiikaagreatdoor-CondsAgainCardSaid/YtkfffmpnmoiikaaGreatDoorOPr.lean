/-
  A part of the proof. No condition.
-/
import Derived.Test.YtkfffmpnmoiikaaGreatDoorOPq
/- Chapter 19 (conds): asking, merging, selecting, being satisfied. No condition but on sizes. -/
set_option linter.unusedSimpArgs false
set_option linter.unusedVariables false
namespace Go.Proofs.X
open Go Go.Dp
/-! Merging. -/
def stripO (l : List Fld) : List Fld := dropOf l (nominated l ++ wbF)
def ceN : List (List UInt8) := [[67, 111, 110, 116, 101, 110, 116, 45, 69, 110, 99, 111, 100, 105, 110, 103], [67, 111, 110, 116, 101, 110, 116, 45, 84, 121, 112, 101], [67, 111, 110, 116, 101, 110, 116, 45, 82, 97, 110, 103, 101]]
def comeO (l : List Fld) : List Fld := dropOf (stripO l) ceN
def ageDate : List (List UInt8) := [[65, 103, 101], [68, 97, 116, 101]]
def namesM (come : List Fld) : List (List UInt8) := ageDate ++ come.map (·.1)
def mergeF (s n : List Fld) : List Fld := dropOf s (namesM (comeO n)) ++ comeO n
def mergeO (s : Sto) (n : Rep) (now : Int) : Sto := ((s.1.1, s.1.2.1, s.1.2.2.1, mergeF s.1.2.2.2.1 n.2.2.2.1, s.1.2.2.2.2.1, ()), now, s.2.2.1, ())
theorem wco {l : List Fld} {ns : List (List UInt8)} {f : Fld} (h : f ∈ dropOf l ns) : f ∈ l := (List.mem_filter.1 h).1
theorem wcw {l : List Fld} {f : Fld} (h : f ∈ comeO l) : f ∈ l := wco (wco h)
theorem wcW (l : List Fld) : (comeO l).length ≤ l.length := Nat.le_trans (wcl _ _) (wcl _ _)
theorem wcO {l : List Fld} {m : Nat} (h : few l m) (hm : m ≤ 1000) : sized l := ⟨by have := h.1; omega, fun f hf => by obtain ⟨h1, h2⟩ := h.2 f hf; exact ⟨by omega, by omega⟩⟩
theorem wd1 {n : List Fld} {m : Nat} (h : few n m) (hm : m ≤ 1000) : (namesM (comeO n)).length < 1000000 ∧ ∀ x ∈ namesM (comeO n), x.length ≤ 500 := by
  have h1 := wcW n
  have h2 := h.1
  refine ⟨by simp only [namesM, List.length_append, List.length_map, ageDate, List.length_cons, List.length_nil]; omega, fun x hx => ?_⟩
  rcases List.mem_append.1 hx with hx | hx
  · have : ∀ x ∈ ageDate, x.length ≤ 500 := by decide
    exact this x hx
  · obtain ⟨f, hf, rfl⟩ := List.mem_map.1 hx
    exact (h.2 f (wcw hf)).1
theorem wea {K : Nat} (now : Int) (s : Sto) (come : List Fld) (hl : come.length < 100000) (hK : 1000000 ≤ K) :
    wJ_.l0 K K ((now, (0, (0, (come, ((), (come, ((come.length : Int), (0, ())))))))), (s, (((0, ([], (0, ([], ([], ()))))), (0, ([], ()))), ([[65, 103, 101], [68, 97, 116, 101]], ())))) = some ((now, (0, (0, (come, ((), ()))))), (s, (((0, ([], (0, ([], ([], ()))))), (0, ([], ()))), (namesM come, ())))) := by
  have H := idx_rule (l := wJ_.l0 K) (wJ_.t0 K) (fun _ _ => rfl) come.length
    (fun i => ((now, ((0 : Nat), ((0 : Nat), (come, ((), (come, ((come.length : Int), ((i : Int), ())))))))), (s, (((((0 : Int), (([] : List UInt8), ((0 : Int), (([] : List Fld), (([] : List UInt8), ()))))), ((0 : Int), (([] : List Pk), ()))) : Sto), (namesM (come.take i), ())))))
    (fun _ => ((now, (0, (0, (come, ((), ()))))), (s, (((0, ([], (0, ([], ([], ()))))), (0, ([], ()))), (namesM come, ()))))) ?_ K 0 (by omega) (by omega)
  · have e0 : namesM [] = [[65, 103, 101], [68, 97, 116, 101]] := rfl
    simpa only [List.take_zero, Int.natCast_zero, e0] using H
  · intro i rec hi ih
    by_cases h : i < come.length
    · have hh : (i : Int) < (come.length : Int) := by omega
      have w1 := wrapSucc (show i < 9223372036854775807 by omega)
      have hmax : ((namesM (come.take i)).length + 1) * 16 ≤ maxRoom := by simp only [namesM, List.length_append, List.length_map, ageDate, List.length_cons, List.length_nil, List.length_take, maxRoom]; omega
      have e : namesM (come.take (i + 1)) = namesM (come.take i) ++ [(come.getD i (([], [], ()) : Fld)).1] := by
        simp only [namesM, take_get come (([], [], ()) : Fld) h, List.map_append, List.map_cons, List.map_nil, List.append_assoc]
      have ih' := ih h
      rw [e] at ih'
      simp only [wJ_.t0, za', zb', zc', zd', ze', zf', zg', zh', zi', zj', zk', zl', zm', zn', zo', zp', zq', zr', zs', zt', hh, hmax, w1]
      exact ih'
    · have h2 : i = come.length := by omega
      subst h2
      simp only [wJ_.t0, za', zb', zc', zd', ze', zf', zg', zh', zi', zj', zk', zl', zm', zn', zo', zp', zq', zr', zs', zt', Int.lt_irrefl, List.take_length]
theorem wcq {K m : Nat} {s : Sto} {n : Rep} (now : Int) (hs : sized s.1.2.2.2.1) (hn : few n.2.2.2.1 m) (hm : m ≤ 1000) (hp : s.2.2.1.length ≤ 1000000) (hK : 1000000 + 100 ≤ K) : wJ_ K s n now = some (mergeO s n now) := by
  obtain ⟨g1, g2⟩ := wcS hn hm
  have hS := wc6 (K := K) hn hm (by omega)
  have hSl := wcl n.2.2.2.1 (nominated n.2.2.2.1 ++ wbF)
  have hD : wU_ K (dropOf n.2.2.2.1 (nominated n.2.2.2.1 ++ wbF)) [[67, 111, 110, 116, 101, 110, 116, 45, 69, 110, 99, 111, 100, 105, 110, 103], [67, 111, 110, 116, 101, 110, 116, 45, 84, 121, 112, 101], [67, 111, 110, 116, 101, 110, 116, 45, 82, 97, 110, 103, 101]] = some (comeO n.2.2.2.1) :=
    wch (names := ceN) (by omega) (fun f hf => g2 f (wco hf)) (by decide) (fun x hx => by
      have : ∀ x ∈ ceN, x.length < 100 := by decide
      have := this x hx
      omega) (by omega)
  have hc := wcW n.2.2.2.1
  have hL := wea (K := K) now s (comeO n.2.2.2.1) (by have := hn.1; omega) (by omega)
  obtain ⟨n1, n2⟩ := wd1 hn hm
  have hD2 := wch (K := K) (l := s.1.2.2.2.1) (names := namesM (comeO n.2.2.2.1)) hs.1 (fun f hf => by have := (hs.2 f hf).1; omega) n1 (fun x hx => by have := n2 x hx; omega) (by omega)
  have hdl := wcl s.1.2.2.2.1 (namesM (comeO n.2.2.2.1))
  have m1 : (0 + s.2.2.1.length) * 40 ≤ maxRoom := by simp only [maxRoom]; omega
  have m2 : ((dropOf s.1.2.2.2.1 (namesM (comeO n.2.2.2.1))).length + (comeO n.2.2.2.1).length) * 32 ≤ maxRoom := by have := hs.1; simp only [maxRoom]; omega
  simp only [wJ_, wJ_.tr, hS, hD, hL, hD2, za', zb', zc', zd', ze', zf', zg', zh', zi', zj', zk', zl', zm', zn', zo', zp', zq', zr', zs', zt', m1, m2, List.nil_append]
  rfl
/-! Selecting. -/
/-! Being satisfied. -/
end Go.Proofs.X
