/-
  A part of the proof. No condition.
-/
import Derived.Test.YtkfffmpnmoiikaaGreatDoorOPn
import Derived.Test.YtkfffmpnmoiikaaGreatDoorOP7
import Derived.Test.YtkfffmpnmoiikaaGreatDoorOPp
/- Chapter 19 (conds): what a client has, what the cache asks, what a 304 changes. No condition but on sizes. -/
set_option linter.unusedSimpArgs false
set_option linter.unusedVariables false
namespace Go.Proofs.X
open Go Go.Dp
def nTag : List UInt8 := [69, 84, 97, 103]
def tagO (l : List Fld) : Tg × Bool × Unit := if (allOf l nTag).length = 1 then parT ((allOf l nTag).getD 0 []) else ((false, [], ()), false, ())
theorem wdQ {K : Nat} {r : Rep} (h : sized r.2.2.2.1) (hK : 1000000 + 100 ≤ K) : wb3 K r = some (tagO r.2.2.2.1) := by
  have hA : wR_ K r.2.2.2.1 [69, 84, 97, 103] = some (allOf r.2.2.2.1 nTag) := wck h.1 (fun f hf => by have := (h.2 f hf).1; omega) (name := nTag) (by decide) (by omega)
  have hb : ∀ v ∈ allOf r.2.2.2.1 nTag, v.length ≤ 99999 := wcH fun f hf => by have := (h.2 f hf).2; omega
  simp only [wb3, hA, za', zb', zc', zd', ze', zf', zg', zh', zi', zj', zk', zl', zm', zn', zo', zp', zq', zr', zs', zt']
  unfold tagO
  by_cases c : (allOf r.2.2.2.1 nTag).length = 1
  · have hm := hb _ (wcf (allOf r.2.2.2.1 nTag) [] (i := 0) (by omega))
    have hP := wdv (K := K) (s := (allOf r.2.2.2.1 nTag).getD 0 []) (by omega) (by omega)
    have c1 : ((allOf r.2.2.2.1 nTag).length : Int) = 1 := by omega
    have c2 : (0 : Int) < ((allOf r.2.2.2.1 nTag).length : Int) := by omega
    rw [if_pos c]
    simp only [c1, za', zb', zc', zd', ze', zf', zg', zh', zi', zj', zk', zl', zm', zn', zo', zp', zq', zr', zs', zt', Nat.zero_le, Nat.le_refl, Int.le_refl, show (0 : Int) < 1 by decide, hP]
  · have c1 : ¬ ((allOf r.2.2.2.1 nTag).length : Int) = 1 := by omega
    rw [if_neg c]
    simp only [c1, za', zb', zc', zd', ze', zf', zg', zh', zi', zj', zk', zl', zm', zn', zo', zp', zq', zr', zs', zt']
theorem wcR {K : Nat} {r : Rep} (h : sized r.2.2.2.1) (hK : 1000000 + 100 ≤ K) : wbf K r = some (tagO r.2.2.2.1) := by
  have hA : wu_ K r.2.2.2.1 [69, 84, 97, 103] = some (allOf r.2.2.2.1 nTag) := wcu h.1 (fun f hf => by have := (h.2 f hf).1; omega) (name := nTag) (by decide) (by omega)
  have hb : ∀ v ∈ allOf r.2.2.2.1 nTag, v.length ≤ 99999 := wcH fun f hf => by have := (h.2 f hf).2; omega
  simp only [wbf, hA, za', zb', zc', zd', ze', zf', zg', zh', zi', zj', zk', zl', zm', zn', zo', zp', zq', zr', zs', zt']
  unfold tagO
  by_cases c : (allOf r.2.2.2.1 nTag).length = 1
  · have hm := hb _ (wcf (allOf r.2.2.2.1 nTag) [] (i := 0) (by omega))
    have hP := wdh (K := K) (s := (allOf r.2.2.2.1 nTag).getD 0 []) (by omega) (by omega)
    have c1 : ((allOf r.2.2.2.1 nTag).length : Int) = 1 := by omega
    have c2 : (0 : Int) < ((allOf r.2.2.2.1 nTag).length : Int) := by omega
    rw [if_pos c]
    simp only [c1, za', zb', zc', zd', ze', zf', zg', zh', zi', zj', zk', zl', zm', zn', zo', zp', zq', zr', zs', zt', Nat.zero_le, Nat.le_refl, Int.le_refl, show (0 : Int) < 1 by decide, hP]
  · have c1 : ¬ ((allOf r.2.2.2.1 nTag).length : Int) = 1 := by omega
    rw [if_neg c]
    simp only [c1, za', zb', zc', zd', ze', zf', zg', zh', zi', zj', zk', zl', zm', zn', zo', zp', zq', zr', zs', zt']
/-! What a client is told. -/
end Go.Proofs.X
