/-
  A part of the proof. No condition.
-/
import Derived.Test.YtkfffmpnmoiikaaGreatDoorFc
import Derived.Shelf.SortM.Plain
import Derived.Shelf.SortM.SortNone
import Derived.Sort.OwnSorted
import Derived.Lib.Replace
import Derived.Lib.IndexMore
import Derived.Lib.CountLaws
/- Go's library: strings.Contains, strings.ReplaceAll, slices.Sort of strings. -/
set_option autoImplicit false
set_option linter.unusedVariables false
set_option linter.unusedSimpArgs false
namespace Go.Dp
open Go.RowKit Go.Sort Go.Proofs Go.Shelf
def sortF (l : List (List UInt8)) : Option (List (List UInt8)) := bif decide (l.length < 4611686018427387904) then some (l.mergeSort fun x y => decide (x ≤ y)) else none
def sortM : MSpec := { e := .str, F := fun _ l => sortF l }
theorem wfE {P : Program} {f : Nat} (hent : EnterOK' P f)
    (hc : ∀ (blk off cap : Nat) (ss : List (List UInt8)) (w : World), Holds encStr w blk off ss.toArray → blk < w.heap.size → ss.length < 4611686018427387904 →
      Calls P f #[.slice (some ⟨blk, off, none⟩) ss.length cap] w fun e w' => e = .returned (.tuple #[]) ∧ ∃ n os, w' = grow (putRow encStr (Sort.ahead w n) blk off (ss.mergeSort fun x y => decide (x ≤ y)).toArray) os)
    (hn : ∀ (p : Option Addr) (cap : Nat) (w : World), Calls P f #[.slice p 0 cap] w fun e w' => e = .returned (.tuple #[]) ∧ w' = w) : MContract P f sortM := by
  have hnil : ∀ (zs : List (List UInt8)), sortF [] = some zs → zs = [] ∧ ∀ w : World, Calls P f #[.slice none 0 0] w fun e w' => (∃ v, e = .returned v) ∧ Below w.heap.size w w' := by
    intro zs h
    obtain ⟨_, h⟩ := bif_some h
    cases h
    refine ⟨by simp, fun w => (hn none 0 w).mono ?_⟩
    rintro e w' ⟨rfl, rfl⟩
    exact ⟨⟨_, rfl⟩, ⟨rfl, rfl, rfl, Nat.le_refl _, fun _ _ => rfl⟩⟩
  have hrow : ∀ (ys zs : List (List UInt8)), sortF ys = some zs → zs.length = ys.length ∧ ∀ (w : World) (b cap : Nat) (arr : Array Value) (el : TypeId) (fr : Nat × Nat), w.heap[b]? = some (.cells arr el fr) → arr.size = cap * 1 → ys.length ≤ cap → (∀ j, j < arr.size → ¬ (fr.1 ≤ j ∧ j < fr.2)) →
    (∀ i (h : i < ys.length), ∃ cs, cs = [Value.string ⟨ys[i].toArray⟩] ∧ ∀ j (h : j < cs.length), arr[i * 1 + j]? = some cs[j]) →
    Calls P f #[.slice (some ⟨b, 0, none⟩) ys.length cap] w fun e w' => (∃ v, e = .returned v) ∧ w'.os = w.os ∧ w'.output = w.output ∧ w'.tape = w.tape ∧ w.heap.size ≤ w'.heap.size ∧ (∀ c, c < w.heap.size → c ≠ b → w'.heap[c]? = w.heap[c]?) ∧
      ∃ arr', w'.heap[b]? = some (.cells arr' el fr) ∧ arr'.size = arr.size ∧ ∀ i (h : i < zs.length), ∃ cs, cs = [Value.string ⟨zs[i].toArray⟩] ∧ ∀ j (h : j < cs.length), arr'[i * 1 + j]? = some cs[j] := by
    intro ys zs h
    obtain ⟨h1, h⟩ := bif_some h
    cases h
    have h1 : ys.length < 4611686018427387904 := of_decide_eq_true h1
    refine ⟨List.length_mergeSort _, fun w b cap arr el fr hb hsz hcap hfr he => ?_⟩
    have hbl : b < w.heap.size := (Array.getElem?_eq_some_iff.1 hb).1
    have hH : Holds encStr w b 0 ys.toArray := by
      intro j hj
      have hj' : j < ys.length := by simpa using hj
      obtain ⟨cs, h2, h3⟩ := he j hj'
      subst h2
      have h4 := h3 0 (by simp)
      simp only [Nat.mul_one, Nat.add_zero, List.getElem_cons_zero] at h4
      refine ⟨?_, ?_⟩
      · simp only [World.cell?, hb, Nat.zero_add, Option.isSome_none, Bool.false_eq_true, if_false]
        rw [h4]
        simp [encStr, hj']
      · have h5 := hfr j (by omega)
        simp only [World.frozen?, hb, Nat.zero_add]
        simpa using h5
    refine (hc b 0 cap ys w hH hbl h1).mono ?_
    rintro e w' ⟨rfl, n, os, rfl⟩
    have hgr := grownBy_sorted (w := w) (g := b) (n := n) (os := os) (ys.mergeSort fun x y => decide (x ≤ y)).toArray
    refine ⟨⟨_, rfl⟩, hgr.os, hgr.output, hgr.tape, hgr.size, fun c hc hne => hgr.block c hc (fun e => hne (Option.some.inj e)), _, heap_sorted _ hb, by simp [putCells], fun i hi => ?_⟩
    have hl : (ys.mergeSort fun x y => decide (x ≤ y)).length = ys.length := List.length_mergeSort _
    refine ⟨_, rfl, fun j hj => ?_⟩
    obtain rfl : j = 0 := by simpa using hj
    have h6 := take_putCells arr (ys.mergeSort fun x y => decide (x ≤ y)) (by rw [hl]; omega)
    have h7 := congrArg (fun l => l[i]?) h6
    rw [List.getElem?_take_of_lt hi, Array.getElem?_toList] at h7
    simp only [Nat.mul_one, Nat.add_zero, List.getElem_cons_zero]
    rw [h7]
    simp [encStr, List.getElem?_eq_getElem hi]
  refine ⟨rfl, hent, fun K zs h => hnil zs h, fun K ys zs h => ?_⟩
  have := hrow ys zs h
  simpa only [EncM, Ty.csize, sortM] using this
end Go.Dp
