/-
  A part of the proof. No condition.
-/
import Derived.Test.YtohbjikggmkkhaaGreatDoorUB1
import Derived.Test.YtohbjikggmkkhaaGreatDoorFc
import Derived.Test.YtohbjikggmkkhaaGreatDoorFe
/- Blank bytes: what the printed functions give. No condition. -/
set_option linter.unusedSimpArgs false
set_option linter.unusedVariables false
namespace Go.Proofs.Y
open Go Go.Dp

theorem set_at (n i : Nat) (h : i < n) : (List.replicate i (255 : Int) ++ List.replicate (n - i) 0).set i 255 = List.replicate (i + 1) 255 ++ List.replicate (n - (i + 1)) 0 := by
  rw [List.set_append_right _ _ (by simp), List.length_replicate, Nat.sub_self, show n - i = (n - (i + 1)) + 1 by omega, List.replicate_succ, List.set_cons_zero]
  rw [List.replicate_succ', List.append_assoc, List.singleton_append]

theorem blank_pure (n : Int) (h0 : 0 < n) (h1 : n ≤ 65536) : flash_blank 70000 n = some (List.replicate n.toNat 255) := by
  obtain ⟨m, rfl⟩ : ∃ m : Nat, n = (m : Int) := ⟨n.toNat, by omega⟩
  have H := idx_rule (l := flash_blank.l0 70000) (flash_blank.t0 70000) (fun _ _ => rfl) m
    (fun i => (((), ((m : Int), ((i : Int), ()))), ([], (List.replicate i (255 : Int) ++ List.replicate (m - i) 0, ()))))
    (fun _ => (((), ()), ([], (List.replicate m (255 : Int), ())))) ?_ 70000 0 (by omega) (by omega)
  · have hm : m * 1 ≤ maxRoom := by unfold maxRoom; omega
    have H' : flash_blank.l0 70000 70000 (((), ((m : Int), (0, ()))), ([], (List.replicate m (0 : Int), ()))) = some (((), ()), ([], (List.replicate m (255 : Int), ()))) := by simpa using H
    have hm' : m ≤ maxRoom := by omega
    simp [flash_blank, flash_blank.tr, hm', H']
  · intro i rec hi ih
    by_cases h : i < m
    · have hh : (i : Int) < (m : Int) := by omega
      have ih := ih h
      have hl : i + (m - i) = m := by omega
      simp only [flash_blank.t0, Int.toNat_natCast, set_at m i h]
      simp [hh, hl, wrapSucc (show i < 9223372036854775807 by omega)]
      simpa using ih
    · obtain rfl : i = m := by omega
      simp [flash_blank.t0]

def allF : List UInt8 → Bool
  | [] => true
  | x :: r => bif Nat.beq x.toNat 255 then allF r else false
def blF (bs : List UInt8) : Option Cm.CV := bif Nat.ble bs.length 65536 then some (.b (allF bs)) else none
theorem allF_cons (x : UInt8) (r : List UInt8) : allF (x :: r) = if (x.toNat : Int) = 255 then allF r else false := by
  simp only [allF]
  by_cases h : (x.toNat : Int) = 255
  · rw [if_pos h, show Nat.beq x.toNat 255 = true from by rw [Nat.beq_eq]; omega]; rfl
  · rw [if_neg h]
    cases hb : Nat.beq x.toNat 255 with
    | true => exact absurd (by have := Nat.eq_of_beq_eq_true hb; omega) h
    | false => rfl

theorem pageBlank_pure (bs : List UInt8) (h1 : bs.length ≤ 65536) : page_Blank 70000 (intsOf bs) = some (allF bs) := by
  have H := idx_rule (l := page_Blank.l0 70000) (page_Blank.t0 70000) (fun _ _ => rfl) bs.length
    (fun i => ((intsOf bs, ((bs.length : Int), ((i : Int), ()))), ()))
    (fun i => if allF (bs.drop i) = true then .inl ((), ()) else .inr ((false, ()), ())) ?_ 70000 0 (by omega) (by omega)
  · have H' : page_Blank.l0 70000 70000 ((intsOf bs, ((bs.length : Int), (0, ()))), ()) = some (if allF bs = true then .inl ((), ()) else .inr ((false, ()), ())) := by simpa using H
    simp only [page_Blank, page_Blank.tr, length_intsOf, H', bind_some']
    by_cases h : allF bs = true <;> simp [h]
  · intro i rec hi ih
    by_cases h : i < bs.length
    · have hh : (i : Int) < (bs.length : Int) := by omega
      have ih := ih h
      simp only [page_Blank.t0, Int.toNat_natCast, length_intsOf, hh, getD_intsOf bs h, drop_get bs 0 h, allF_cons]
      by_cases h2 : ((bs.getD i 0).toNat : Int) = 255
      · simp only [h2, if_true, wrapSucc (show i < 9223372036854775807 by omega)]
        simpa using ih
      · simp [-List.getD_eq_getElem?_getD, h2]
    · obtain rfl : i = bs.length := by omega
      simp [page_Blank.t0, allF]

theorem blF_ok (bs : List UInt8) (v : Cm.CV) (h : blF bs = some v) : ∃ K b, page_Blank K (bs.map fun x => (x.toNat : Int)) = some b ∧ v = .b b := by
  unfold blF at h
  obtain ⟨h1, h⟩ := bif_some h
  cases h
  exact ⟨70000, allF bs, pageBlank_pure bs (Nat.le_of_ble_eq_true h1), rfl⟩
theorem blank_ok (n : Int) (h0 : 0 < n) (h1 : n ≤ 65536) : ∃ K, flash_blank K n = some (List.replicate n.toNat 255) := ⟨70000, blank_pure n h0 h1⟩
end Go.Proofs.Y

