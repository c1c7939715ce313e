/-
  A part of the proof. No condition.
-/
import Derived.Test.YtikiloknlchppaaGreatDoorFc
import Derived.Shelf.SortM.Plain
import Derived.Shelf.SortM.SortNone
import Derived.Sort.OwnSorted
import Derived.Lib.Replace
import Derived.Lib.IndexMore
import Derived.Lib.CountLaws
/- Go's library: strings.Contains, strings.ReplaceAll, slices.Sort of strings. -/
set_option autoImplicit false
set_option linter.unusedVariables false
set_option linter.unusedSimpArgs false
namespace Go.Dp
open Go.RowKit Go.Sort Go.Proofs Go.Shelf

/-- A variable that holds some number. -/
theorem sint_of_glob {gl : List (Nat × TV)} {w : World} {U : Nat → Prop} {g : Nat} {k : IntKind} (hg : GlobOK gl w U) (hl : lookTV gl g = ⟨.ref (.sint k), ()⟩) : ∃ m, w.cell? ⟨g, 0, none⟩ = some (.int k m) := by
  rcases hg g _ hl with h | ⟨_, _, h⟩
  · cases h
  have h1 := h.enc
  have h2 := h.whole
  simp only [EncM] at h1
  obtain ⟨b, off, cs, e, hb, ⟨n, rfl⟩, hj⟩ := h1
  cases e
  exact ⟨n, hj 0 (by simp)⟩

def containsF (s sub : List UInt8) : Option Bool := bif decide (s.length < 4294967281) then some (Lib.contains s sub) else none
def containsSpec : Spec := { args := .scons .str (.scons .str .snil), res := .bool, own := false, F := fun _ x => containsF x.1 x.2.1 }
theorem contains_contract {P : Program} {gl : List (Nat × TV)} {f g : Nat} (hent : EnterOK P f) (hl : lookTV gl g = ⟨.ref (.sint .i64), ()⟩)
    (hc : ∀ (s sub : ByteArray) (m : Int) (w : World), s.size < 4294967281 → w.cell? ⟨g, 0, none⟩ = some (.int .i64 m) →
      Calls P f #[.string s, .string sub] w fun e w' => e = .returned (.bool (Lib.contains s.data.toList sub.data.toList)) ∧ w' = w) : Contract P gl f containsSpec := by
  refine ⟨rfl, rfl, fun K x r hx w U vals hU hg he => .inl ⟨hent, ?_⟩⟩
  obtain ⟨s, t, u⟩ := x
  obtain ⟨h1, hx⟩ := bif_some hx
  cases hx
  have h1 : s.length < 4294967281 := of_decide_eq_true h1
  simp only [containsSpec, EncM] at he
  obtain ⟨v, l2, hv, h4, v2, l3, rfl, h5, rfl⟩ := he
  have e1 : v = .string ⟨s.toArray⟩ := EncV.str (w := w) (U := U) (β := noB) (H := []) h4
  subst e1
  have e2 : v2 = .string ⟨t.toArray⟩ := EncV.str (w := w) (U := U) (β := noB) (H := []) h5
  subst e2
  have e3 : vals = #[.string ⟨s.toArray⟩, .string ⟨t.toArray⟩] := by apply Array.ext'; simpa using hv
  subst e3
  obtain ⟨m, hm⟩ := sint_of_glob hg hl
  refine (hc ⟨s.toArray⟩ ⟨t.toArray⟩ m w (by simpa [ByteArray.size] using h1) hm).mono ?_
  rintro e w' ⟨rfl, rfl⟩
  exact ⟨_, U, rfl, ⟨rfl, rfl, rfl, Nat.le_refl _, fun _ _ => rfl⟩, fun b => ⟨.inl, fun h => h.elim (fun h => h) fun h => h.2.2⟩, .inr ⟨rfl, by simp [containsSpec, EncM, Value.cells]⟩⟩

def replaceF (s old new : List UInt8) : Option (List UInt8) := bif decide (s.length < 4294967281) && decide (1 ≤ old.length) && decide (s.length + (s.length + 1) * new.length ≤ 140737488355328) then some (Lib.replaceAll s old new) else none
def replaceSpec : Spec := { args := .scons .str (.scons .str (.scons .str .snil)), res := .str, own := false, F := fun _ x => replaceF x.1 x.2.1 x.2.2.1 }
theorem replace_contract {P : Program} {gl : List (Nat × TV)} {f g : Nat} (hent : EnterOK P f) (hl : lookTV gl g = ⟨.ref (.sint .i64), ()⟩)
    (hc : ∀ (s old new : ByteArray) (m : Int) (w : World), s.size < 4294967281 → w.cell? ⟨g, 0, none⟩ = some (.int .i64 m) → 1 ≤ old.size → s.size + Lib.countB s old * new.size ≤ 140737488355328 →
      Calls P f #[.string s, .string old, .string new] w fun e w' => e = .returned (.string ⟨(Lib.replaceAll s.data.toList old.data.toList new.data.toList).toArray⟩) ∧ Below w.heap.size w w') : Contract P gl f replaceSpec := by
  refine ⟨rfl, rfl, fun K x r hx w U vals hU hg he => .inl ⟨hent, ?_⟩⟩
  obtain ⟨s, t, z, u⟩ := x
  obtain ⟨h1, hx⟩ := bif_some hx
  cases hx
  obtain ⟨h1, h3⟩ := and2 h1
  obtain ⟨h1, h2⟩ := and2 h1
  have h1 : s.length < 4294967281 := of_decide_eq_true h1
  have h2 : 1 ≤ t.length := of_decide_eq_true h2
  have h3 : s.length + (s.length + 1) * z.length ≤ 140737488355328 := of_decide_eq_true h3
  simp only [replaceSpec, EncM] at he
  obtain ⟨v, l2, hv, h4, v2, l3, rfl, h5, v3, l4, rfl, h6, rfl⟩ := he
  have e1 : v = .string ⟨s.toArray⟩ := EncV.str (w := w) (U := U) (β := noB) (H := []) h4
  subst e1
  have e2 : v2 = .string ⟨t.toArray⟩ := EncV.str (w := w) (U := U) (β := noB) (H := []) h5
  subst e2
  have e2 : v3 = .string ⟨z.toArray⟩ := EncV.str (w := w) (U := U) (β := noB) (H := []) h6
  subst e2
  have e3 : vals = #[.string ⟨s.toArray⟩, .string ⟨t.toArray⟩, .string ⟨z.toArray⟩] := by apply Array.ext'; simpa using hv
  subst e3
  obtain ⟨m, hm⟩ := sint_of_glob hg hl
  have hcnt := Lib.count_le s t
  refine (hc ⟨s.toArray⟩ ⟨t.toArray⟩ ⟨z.toArray⟩ m w (by simpa [ByteArray.size] using h1) hm (by simpa [ByteArray.size] using h2) ?_).mono ?_
  · have e4 : (⟨s.toArray⟩ : ByteArray).size = s.length := by simp [ByteArray.size]
    have e5 : (⟨z.toArray⟩ : ByteArray).size = z.length := by simp [ByteArray.size]
    rw [e4, e5]
    show s.length + Lib.count s t * z.length ≤ _
    have := Nat.mul_le_mul_right z.length hcnt
    omega
  · rintro e w' ⟨rfl, hb⟩
    exact ⟨_, U, rfl, hb, fun b => ⟨.inl, fun h => h.elim (fun h => h) fun h => h.2.2⟩, .inr ⟨rfl, by simp [replaceSpec, EncM, Value.cells]⟩⟩

def sortF (l : List (List UInt8)) : Option (List (List UInt8)) := bif decide (l.length < 4611686018427387904) then some (l.mergeSort fun x y => decide (x ≤ y)) else none
def sortM : MSpec := { e := .str, F := fun _ l => sortF l }
theorem sort_turns {P : Program} {f : Nat} (hent : EnterOK' P f)
    (hc : ∀ (blk off cap : Nat) (ss : List (List UInt8)) (w : World), Holds encStr w blk off ss.toArray → blk < w.heap.size → ss.length < 4611686018427387904 →
      Calls P f #[.slice (some ⟨blk, off, none⟩) ss.length cap] w fun e w' => e = .returned (.tuple #[]) ∧ ∃ n os, w' = grow (putRow encStr (Sort.ahead w n) blk off (ss.mergeSort fun x y => decide (x ≤ y)).toArray) os)
    (hn : ∀ (p : Option Addr) (cap : Nat) (w : World), Calls P f #[.slice p 0 cap] w fun e w' => e = .returned (.tuple #[]) ∧ w' = w) : MContract P f sortM := by
  have hnil : ∀ (zs : List (List UInt8)), sortF [] = some zs → zs = [] ∧ ∀ w : World, Calls P f #[.slice none 0 0] w fun e w' => (∃ v, e = .returned v) ∧ Below w.heap.size w w' := by
    intro zs h
    obtain ⟨_, h⟩ := bif_some h
    cases h
    refine ⟨by simp, fun w => (hn none 0 w).mono ?_⟩
    rintro e w' ⟨rfl, rfl⟩
    exact ⟨⟨_, rfl⟩, ⟨rfl, rfl, rfl, Nat.le_refl _, fun _ _ => rfl⟩⟩
  have hrow : ∀ (ys zs : List (List UInt8)), sortF ys = some zs → zs.length = ys.length ∧ ∀ (w : World) (b cap : Nat) (arr : Array Value) (el : TypeId) (fr : Nat × Nat), w.heap[b]? = some (.cells arr el fr) → arr.size = cap * 1 → ys.length ≤ cap → (∀ j, j < arr.size → ¬ (fr.1 ≤ j ∧ j < fr.2)) →
    (∀ i (h : i < ys.length), ∃ cs, cs = [Value.string ⟨ys[i].toArray⟩] ∧ ∀ j (h : j < cs.length), arr[i * 1 + j]? = some cs[j]) →
    Calls P f #[.slice (some ⟨b, 0, none⟩) ys.length cap] w fun e w' => (∃ v, e = .returned v) ∧ w'.os = w.os ∧ w'.output = w.output ∧ w'.tape = w.tape ∧ w.heap.size ≤ w'.heap.size ∧ (∀ c, c < w.heap.size → c ≠ b → w'.heap[c]? = w.heap[c]?) ∧
      ∃ arr', w'.heap[b]? = some (.cells arr' el fr) ∧ arr'.size = arr.size ∧ ∀ i (h : i < zs.length), ∃ cs, cs = [Value.string ⟨zs[i].toArray⟩] ∧ ∀ j (h : j < cs.length), arr'[i * 1 + j]? = some cs[j] := by
    intro ys zs h
    obtain ⟨h1, h⟩ := bif_some h
    cases h
    have h1 : ys.length < 4611686018427387904 := of_decide_eq_true h1
    refine ⟨List.length_mergeSort _, fun w b cap arr el fr hb hsz hcap hfr he => ?_⟩
    have hbl : b < w.heap.size := (Array.getElem?_eq_some_iff.1 hb).1
    have hH : Holds encStr w b 0 ys.toArray := by
      intro j hj
      have hj' : j < ys.length := by simpa using hj
      obtain ⟨cs, h2, h3⟩ := he j hj'
      subst h2
      have h4 := h3 0 (by simp)
      simp only [Nat.mul_one, Nat.add_zero, List.getElem_cons_zero] at h4
      refine ⟨?_, ?_⟩
      · simp only [World.cell?, hb, Nat.zero_add, Option.isSome_none, Bool.false_eq_true, if_false]
        rw [h4]
        simp [encStr, hj']
      · have h5 := hfr j (by omega)
        simp only [World.frozen?, hb, Nat.zero_add]
        simpa using h5
    refine (hc b 0 cap ys w hH hbl h1).mono ?_
    rintro e w' ⟨rfl, n, os, rfl⟩
    have hgr := grownBy_sorted (w := w) (g := b) (n := n) (os := os) (ys.mergeSort fun x y => decide (x ≤ y)).toArray
    refine ⟨⟨_, rfl⟩, hgr.os, hgr.output, hgr.tape, hgr.size, fun c hc hne => hgr.block c hc (fun e => hne (Option.some.inj e)), _, heap_sorted _ hb, by simp [putCells], fun i hi => ?_⟩
    have hl : (ys.mergeSort fun x y => decide (x ≤ y)).length = ys.length := List.length_mergeSort _
    refine ⟨_, rfl, fun j hj => ?_⟩
    obtain rfl : j = 0 := by simpa using hj
    have h6 := take_putCells arr (ys.mergeSort fun x y => decide (x ≤ y)) (by rw [hl]; omega)
    have h7 := congrArg (fun l => l[i]?) h6
    rw [List.getElem?_take_of_lt hi, Array.getElem?_toList] at h7
    simp only [Nat.mul_one, Nat.add_zero, List.getElem_cons_zero]
    rw [h7]
    simp [encStr, List.getElem?_eq_getElem hi]
  refine ⟨rfl, hent, fun K zs h => hnil zs h, fun K ys zs h => ?_⟩
  have := hrow ys zs h
  simpa only [EncM, Ty.csize, sortM] using this
end Go.Dp
