/-
  A part of the proof. No condition.
-/
import Derived.Test.YtkfffmpnmoiikaaGreatDoorOPd
import Derived.Test.YtkfffmpnmoiikaaGreatDoorOPm
/- Chapter 17 (life): what each printed function of the program and of the reference gives. No condition but on sizes. -/
set_option linter.unusedSimpArgs false
set_option linter.unusedVariables false
namespace Go.Proofs.X
open Go Go.Dp
open Classical in
noncomputable def parD (s : List UInt8) : Int × Int × Unit := if h : ∃ r, ParseR s r then Classical.choose h else (0, 0, ())
theorem wfv {s : List UInt8} {r : Int × Int × Unit} (h : ParseR s r) : parD s = r := by
  have h2 : ∃ r, ParseR s r := ⟨r, h⟩
  unfold parD
  rw [dif_pos h2]
  exact weD (Classical.choose_spec h2) h
theorem wf5 {K : Nat} {s : List UInt8} (hs : s.length < 10000000) (hK : 20000 ≤ K) : wb3 K s = some (parD s) := by
  obtain ⟨r, h1, h2⟩ := wgl (K := K) s hs hK
  rw [h1, wfv h2]
theorem wfd {K : Nat} {s : List UInt8} (hs : s.length < 10000000) (hK : 10000005 ≤ K) : ws_ K s = some (parD s) := by
  obtain ⟨r, h1, h2⟩ := we2 (K := K) s hs hK
  rw [h1, wfv h2]
noncomputable def whenV (vs : List (List UInt8)) : Int × Bool × Unit := if vs.length = 1 then ((parD (vs.getD 0 [])).1, decide ((parD (vs.getD 0 [])).2.1 = 0), ()) else (0, false, ())
noncomputable def whenO (l : List Fld) (n : List UInt8) : Int × Bool × Unit := whenV (allOf l n)
theorem wc9 {K : Nat} {l : List Fld} {n : List UInt8} (h : sized l) (h2 : n.length < 1000000) (hK : 1000000 + 100 ≤ K) : wb2 K l n = some (whenO l n) := by
  have hb : ∀ v ∈ allOf l n, v.length ≤ 99999 := wcm fun f hf => by have := (h.2 f hf).2; omega
  have hA : wR_ K l n = some (allOf l n) := wcv h.1 (fun f hf => by have := (h.2 f hf).1; omega) h2 (by omega)
  simp only [wb2, hA, za', zb', zc', zd', ze', zf', zg', zh', zi', zj', zk', zl', zm', zn', zo', zp', zq', zr', zs', zt']
  unfold whenO whenV
  by_cases c : (allOf l n).length = 1
  · have c1 : ((allOf l n).length : Int) = 1 := by omega
    have hd := wf5 (K := K) (s := (allOf l n).getD 0 []) (by have := hb _ (wce (allOf l n) [] (i := 0) (by omega)); omega) (by omega)
    have c3 : (0 : Int) < ((allOf l n).length : Int) := by omega
    rw [if_pos c]
    simp only [decide_eq_true c1, c3, za', zb', zc', zd', ze', zf', zg', zh', zi', zj', zk', zl', zm', zn', zo', zp', zq', zr', zs', zt', hd, Int.le_refl]
    rfl
  · have c1 : ¬ ((allOf l n).length : Int) = 1 := by omega
    rw [if_neg c]
    simp only [decide_eq_false c1, za', zb', zc', zd', ze', zf', zg', zh', zi', zj', zk', zl', zm', zn', zo', zp', zq', zr', zs', zt']
theorem wct {K : Nat} {l : List Fld} {n : List UInt8} (h : sized l) (h2 : n.length < 1000000) (hK : 10000000 + 100 ≤ K) : wbi K l n = some (whenO l n) := by
  have hb : ∀ v ∈ allOf l n, v.length ≤ 99999 := wcm fun f hf => by have := (h.2 f hf).2; omega
  have hA : ww_ K l n = some (allOf l n) := wcD h.1 (fun f hf => by have := (h.2 f hf).1; omega) h2 (by omega)
  simp only [wbi, hA, za', zb', zc', zd', ze', zf', zg', zh', zi', zj', zk', zl', zm', zn', zo', zp', zq', zr', zs', zt']
  unfold whenO whenV
  by_cases c : (allOf l n).length = 1
  · have c1 : ((allOf l n).length : Int) = 1 := by omega
    have hd := wfd (K := K) (s := (allOf l n).getD 0 []) (by have := hb _ (wce (allOf l n) [] (i := 0) (by omega)); omega) (by omega)
    have c3 : (0 : Int) < ((allOf l n).length : Int) := by omega
    rw [if_pos c]
    simp only [decide_eq_true c1, c3, za', zb', zc', zd', ze', zf', zg', zh', zi', zj', zk', zl', zm', zn', zo', zp', zq', zr', zs', zt', hd, Int.le_refl]
    rfl
  · have c1 : ¬ ((allOf l n).length : Int) = 1 := by omega
    rw [if_neg c]
    simp only [decide_eq_false c1, za', zb', zc', zd', ze', zf', zg', zh', zi', zj', zk', zl', zm', zn', zo', zp', zq', zr', zs', zt']
/-! How old it says that it is. -/
abbrev Rep := Int × List UInt8 × Int × List Fld × List UInt8 × Unit
def nMod : List UInt8 := [76, 97, 115, 116, 45, 77, 111, 100, 105, 102, 105, 101, 100]
/-! Date, age, lifetime. -/
def usual (c : Int) : Bool := ([200, 203, 204, 300, 301, 308, 404, 405, 410, 414, 501] : List Int).any fun x => decide (x = c)
end Go.Proofs.X
