/-
  A part of the proof's own groundwork: a small machine beside the model, and that what it computes the model computes. No condition.
-/
import Derived.Test.YtohbjikggmkkhaaGreatDoorFa
import Derived.Great.BuildSlice
import Derived.Laws.Tables
import Derived.Laws.IdiomCopy
import Derived.Laws.RangeString
import Derived.Laws.BytesArg
import Derived.Laws.Append
import Derived.Lib.ConvBytes
import Derived.MapKept
/- How the world may change under the small machine. -/
set_option autoImplicit false
set_option linter.unusedVariables false
set_option linter.unusedSimpArgs false
namespace Go.Dp
open Go.RowKit

section
variable {S : Base} {n : Nat} {U U' : Nat → Prop} {β β' : Nat → Blk} {H H' : Heap} {w w' : World} {app : List Nat}

theorem WRel.blk_lt (h : WRel S U β H w) {id b : Nat} (hi : id < H.length) (hb : (β id).blk = some b) : b < w.heap.size ∧ S.w0.heap.size ≤ b ∧ ¬ U b := by
  have ho := h.heap.obj id hi
  have key : ∀ {o : Obj}, w.heap[b]? = some o → b < w.heap.size := fun {o} e => (Array.getElem?_eq_some_iff.1 e).1
  unfold ObjAt at ho
  split at ho
  · obtain ⟨_, ho⟩ := ho
    rcases ho with ⟨e, _⟩ | ⟨b', arr, el, fr, e, h1, h2, h3, _⟩
    · rw [hb] at e; cases e
    · obtain rfl : b' = b := by rw [hb] at e; exact (Option.some.inj e).symm
      exact ⟨key h3, h1, h2⟩
  · obtain ⟨b', e, h1, h2, h3⟩ := ho
    obtain rfl : b' = b := by rw [hb] at e; exact (Option.some.inj e).symm
    exact ⟨key h3, h1, h2⟩
  · obtain ⟨_, _, b', es, clock, e, h1, h2, h3, _⟩ := ho
    obtain rfl : b' = b := by rw [hb] at e; exact (Option.some.inj e).symm
    exact ⟨key h3, h1, h2⟩
  · obtain ⟨b', cs, el, fr, e, h1, h2, h3, _⟩ := ho
    obtain rfl : b' = b := by rw [hb] at e; exact (Option.some.inj e).symm
    exact ⟨key h3, h1, h2⟩

/-- Names no row of a list of objects: an object's content. -/
def avoidsO (app : List Nat) : Ty → Prop
  | .row _ => True
  | .iter => True
  | .mobj _ _ => True
  | t => avoids app t

theorem elem_pure {t : Ty} (h : t.elem = true) : t.pure = true := by
  unfold Ty.elem at h
  cases hp : t.pure <;> simp_all
theorem elem_noTup {t : Ty} (h : t.elem = true) : t.noTup = true := by
  unfold Ty.elem at h
  cases hp : t.noTup <;> simp_all

/-- An object that nothing happened to. -/
theorem ObjAt.advC {B id : Nat} (hA : AdvC w U β H w' U' β' H' app) (h : ObjAt w U β H B id) (hg : hget H' id = hget H id) (hb : β' id = β id) (hs : ∀ b, (β id).blk = some b → w'.heap[b]? = w.heap[b]? ∧ ¬ U' b)
    (ha : avoidsO app (hget H id).t) : ObjAt w' U' β' H' B id := by
  unfold ObjAt at h ⊢
  rw [hg]
  generalize hget H id = z at *
  obtain ⟨t, v⟩ := z
  cases t with
  | row e =>
    obtain ⟨hp, h⟩ := h
    refine ⟨hp, ?_⟩
    rw [hb]
    rcases h with h | ⟨b, arr, el, fr, h1, h2, h3, h4, h5, h6, h7, h8⟩
    · exact .inl h
    · refine .inr ⟨b, arr, el, fr, h1, h2, (hs b h1).2, (hs b h1).1.trans h4, h5, h6, h7, fun i hi => ?_⟩
      obtain ⟨cs, h9, h10⟩ := h8 i hi
      exact ⟨cs, h9.advC hA _ _ _ _ (avoids_of_pure _ _ (elem_pure hp)), h10⟩
  | iter =>
    obtain ⟨b, h1, h2, h3, h4⟩ := h
    exact ⟨b, by rw [hb]; exact h1, h2, (hs b h1).2, (hs b h1).1.trans h4⟩
  | mobj K V =>
    obtain ⟨hk, hv, b, es, clock, h1, h2, h3, h4, h5, h6⟩ := h
    refine ⟨hk, hv, b, es, clock, by rw [hb]; exact h1, h2, (hs b h1).2, (hs b h1).1.trans h4, h5, fun i hi => ?_⟩
    obtain ⟨en, e1, e2, e3⟩ := h6 i hi
    exact ⟨en, e1, e2.advC hA (avoids_of_pure _ _ (elem_pure hk)), e3.advC hA (avoids_of_pure _ _ (elem_pure hv))⟩
  | _ =>
    obtain ⟨b, cs, el, fr, h1, h2, h3, h4, h5, h6, h7⟩ := h
    exact ⟨b, cs, el, fr, by rw [hb]; exact h1, h2, (hs b h1).2, (hs b h1).1.trans h4, h5, h6.advC hA _ _ _ _ ha, by rw [hb]; exact h7⟩

theorem ObjAt.adv {B id : Nat} (hA : Adv w U β H w' U' β' H' app) (h : ObjAt w U β H B id) (hg : hget H' id = hget H id) (hb : β' id = β id) (hs : ∀ b, (β id).blk = some b → w'.heap[b]? = w.heap[b]? ∧ ¬ U' b)
    (ha : avoidsO app (hget H id).t) : ObjAt w' U' β' H' B id := h.advC hA.toAdvC hg hb hs ha

theorem avoidsO_nil (t : Ty) : avoidsO [] t := by
  cases t <;> first | trivial | exact avoids_nil _

theorem Adv.grow (hs : ∀ b, b < w.heap.size → w'.heap[b]? = w.heap[b]?) (hU : ∀ b, U b → b < w.heap.size) (hU' : ∀ b, U b → U' b) (hUn : ∀ b, b < w.heap.size → U' b → U b) : Adv w U β H w' U' β H app :=
  ⟨⟨hU', fun b h => hs b (hU b h), Nat.le_refl _, fun _ _ xs _ h => ⟨xs, h, fun _ => ⟨rfl, rfl⟩⟩, fun _ _ h => ⟨rfl, rfl, h⟩⟩, fun b hb hu hn => ⟨hs b hb, fun h => hu (hUn b hb h), hn⟩⟩

theorem un_of (hU : ∀ b, U' b ↔ U b ∨ (w.heap.size ≤ b ∧ b < w'.heap.size ∧ U' b)) : ∀ b, b < w.heap.size → U' b → U b :=
  fun b hb h => ((hU b).1 h).elim id fun h => absurd h.1 (by omega)

/-- The world has grown; some of what is new may be read. -/
theorem WRel.grow (h : WRel S U β H w) (hb : Below w.heap.size w w') (hU : ∀ b, U' b ↔ U b ∨ (w.heap.size ≤ b ∧ b < w'.heap.size ∧ U' b)) : WRel S U' β H w' := by
  have hA : Adv w U β H w' U' β H [] := Adv.grow hb.block h.uin (fun b hb' => (hU b).2 (.inl hb')) (un_of hU)
  have hsz : S.w0.heap.size ≤ w.heap.size := h.below.size
  refine ⟨⟨fun id hi => ?_, h.heap.inj⟩, h.below.trans (hb.mono hsz), fun b hb' => ?_, fun b hb' => ?_, fun g x hx => ?_⟩
  · refine (h.heap.obj id hi).adv hA rfl rfl (fun b hbl => ?_) (avoidsO_nil _)
    obtain ⟨h1, h2, h3⟩ := h.blk_lt hi hbl
    refine ⟨hb.block b h1, fun hu => ?_⟩
    rcases (hU b).1 hu with hu | ⟨hu, _⟩
    · exact h3 hu
    · omega
  · rcases (hU b).1 hb' with hu | ⟨_, hu, _⟩
    · exact Nat.lt_of_lt_of_le (h.uin b hu) hb.size
    · exact hu
  · rw [hU b, ← h.uold b hb']
    constructor
    · rintro (hu | ⟨hu, _⟩)
      · exact hu
      · omega
    · exact .inl
  · rcases h.globs g x hx with e | ⟨e1, e2, e3⟩
    · exact .inl e
    · exact .inr ⟨e1, e2, e3.adv hA (avoids_nil _)⟩

theorem FRel.grow {s : St} {a : Act} (h : FRel S n U β s a w) (hb : Below w.heap.size w w') (hU : ∀ b, U' b ↔ U b ∨ (w.heap.size ≤ b ∧ b < w'.heap.size ∧ U' b)) : FRel S n U' β s a w' := by
  have hA : Adv w U β s.heap w' U' β s.heap [] := Adv.grow hb.block h.wrel.uin (fun b hb' => (hU b).2 (.inl hb')) (un_of hU)
  exact ⟨h.defers, h.size, fun i => (h.regs i).adv hA (avoids_nil _), h.wrel.grow hb hU⟩

theorem below_new (w : World) (o : Obj) : Below w.heap.size w (w.alloc o) := (Below.refl _ _).alloc (Nat.le_refl _) o

theorem size_alloc (w : World) (o : Obj) : (w.alloc o).heap.size = w.heap.size + 1 := by simp
theorem heap_alloc_at (w : World) (o : Obj) : (w.alloc o).heap[w.heap.size]? = some o := by
  show (w.heap.push o)[w.heap.size]? = some o
  simp

/-- With one new block that may be read. -/
def withB (U : Nat → Prop) (b : Nat) (x : Nat) : Prop := U x ∨ x = b

theorem withB_un (w : World) (U : Nat → Prop) : ∀ b, b < w.heap.size → withB U w.heap.size b → U b := by
  rintro b hb (h | rfl)
  · exact h
  · omega

theorem withB_grow (w : World) (o : Obj) (U : Nat → Prop) : ∀ b, withB U w.heap.size b ↔ U b ∨ (w.heap.size ≤ b ∧ b < (w.alloc o).heap.size ∧ withB U w.heap.size b) := by
  intro b
  unfold withB
  rw [size_alloc]
  constructor
  · rintro (h | rfl)
    · exact .inl h
    · exact .inr ⟨Nat.le_refl _, by omega, .inr rfl⟩
  · rintro (h | ⟨h1, h2, h⟩)
    · exact .inl h
    · exact h

theorem hget_append_lt {H : Heap} {x : TV} {id : Nat} (h : id < H.length) : hget (H ++ [x]) id = hget H id := by
  induction H generalizing id with
  | nil => simp at h
  | cons y l ih =>
    cases id with
    | zero => rfl
    | succ id => simp only [List.cons_append, hget]; exact ih (by simpa using h)
theorem hget_append_at {H : Heap} {x : TV} : hget (H ++ [x]) H.length = x := by
  induction H with
  | nil => rfl
  | cons y l ih => simp only [List.cons_append, List.length_cons, hget]; exact ih

def setB (β : Nat → Blk) (id : Nat) (x : Blk) (i : Nat) : Blk := if i = id then x else β i

theorem Adv.push (hU : ∀ b, U b → b < w.heap.size) (hb : Below w.heap.size w w') (x : TV) (bl : Blk) (hbl : ∀ b, bl.blk = some b → w.heap.size ≤ b) : Adv w U β H w' U (setB β H.length bl) (H ++ [x]) app where
  use _ h := h
  same b h := hb.block b (hU b h)
  len := by simp
  row id e xs hl he := ⟨xs, by rw [hget_append_lt hl]; exact he, fun _ => ⟨rfl, by simp [setB, Nat.ne_of_lt hl]⟩⟩
  box id hl hn := ⟨by simp [setB, Nat.ne_of_lt hl], by rw [hget_append_lt hl], by rw [hget_append_lt hl]; exact hn⟩
  keep b hlt hu hn := ⟨hb.block b hlt, hu, fun id hi h => by
    simp only [setB] at h
    split at h
    · have := hbl b h; omega
    · simp at hi
      exact hn id (by omega) h⟩

theorem AdvC.push (x : TV) (bl : Blk) : AdvC w U β H w U (setB β H.length bl) (H ++ [x]) app where
  use _ h := h
  same _ _ := rfl
  len := by simp
  row id e xs hl he := ⟨xs, by rw [hget_append_lt hl]; exact he, fun _ => ⟨rfl, by simp [setB, Nat.ne_of_lt hl]⟩⟩
  box id hl hn := ⟨by simp [setB, Nat.ne_of_lt hl], by rw [hget_append_lt hl], by rw [hget_append_lt hl]; exact hn⟩

/-- An object that lies there already, in a block that nothing knows. -/
theorem WRel.adopt (h : WRel S U β H w) {x : TV} {bl : Blk} (hbl : ∀ b, bl.blk = some b → ∀ id, id < H.length → (β id).blk ≠ some b) (ho : ObjAt w U (setB β H.length bl) (H ++ [x]) S.w0.heap.size H.length) :
    WRel S U (setB β H.length bl) (H ++ [x]) w := by
  have hA : AdvC w U β H w U (setB β H.length bl) (H ++ [x]) [] := AdvC.push x bl
  refine ⟨⟨fun id hi => ?_, fun id id' b hi hi' h1 h2 => ?_⟩, h.below, h.uin, h.uold, fun g x hx => ?_⟩
  · by_cases e : id = H.length
    · subst e; exact ho
    · have hlt : id < H.length := by simp at hi; omega
      refine (h.heap.obj id hlt).advC hA (hget_append_lt hlt) (by simp [setB, e]) (fun b hbl' => ?_) (avoidsO_nil _)
      exact ⟨rfl, (h.blk_lt hlt hbl').2.2⟩
  · simp only [List.length_append, List.length_singleton] at hi hi'
    simp only [setB] at h1 h2
    split at h1 <;> split at h2
    · omega
    · exact absurd h2 (hbl b h1 id' (by omega))
    · exact absurd h1 (hbl b h2 id (by omega))
    · exact h.heap.inj id id' b (by omega) (by omega) h1 h2
  · rcases h.globs g x hx with e | ⟨e1, e2, e3⟩
    · exact .inl e
    · exact .inr ⟨e1, e2, e3.advC hA (avoids_nil _)⟩

/-- A new object in a new block (or, for an empty row, in none). -/
theorem WRel.push (h : WRel S U β H w) (hb : Below w.heap.size w w') {x : TV} {bl : Blk} (hbl : ∀ b, bl.blk = some b → w.heap.size ≤ b) (ho : ObjAt w' U (setB β H.length bl) (H ++ [x]) S.w0.heap.size H.length) :
    WRel S U (setB β H.length bl) (H ++ [x]) w' := by
  have hA : Adv w U β H w' U (setB β H.length bl) (H ++ [x]) [] := Adv.push h.uin hb x bl hbl
  have hsz : S.w0.heap.size ≤ w.heap.size := h.below.size
  refine ⟨⟨fun id hi => ?_, fun id id' b hi hi' h1 h2 => ?_⟩, h.below.trans (hb.mono hsz), fun b hb' => Nat.lt_of_lt_of_le (h.uin b hb') hb.size, h.uold, fun g x hx => ?_⟩
  · by_cases e : id = H.length
    · subst e; exact ho
    · have hlt : id < H.length := by simp at hi; omega
      refine (h.heap.obj id hlt).adv hA (hget_append_lt hlt) (by simp [setB, e]) (fun b hbl' => ?_) (avoidsO_nil _)
      obtain ⟨h1, _, h3⟩ := h.blk_lt hlt hbl'
      exact ⟨hb.block b h1, h3⟩
  · simp only [List.length_append, List.length_singleton] at hi hi'
    simp only [setB] at h1 h2
    split at h1 <;> split at h2
    · omega
    · have := (h.blk_lt (by omega) h2).1
      have := hbl b h1
      omega
    · have := (h.blk_lt (by omega) h1).1
      have := hbl b h2
      omega
    · exact h.heap.inj id id' b (by omega) (by omega) h1 h2
  · rcases h.globs g x hx with e | ⟨e1, e2, e3⟩
    · exact .inl e
    · exact .inr ⟨e1, e2, e3.adv hA (avoids_nil _)⟩

theorem FRel.push {s : St} {a : Act} (h : FRel S n U β s a w) (hb : Below w.heap.size w w') {x : TV} {bl : Blk} (hbl : ∀ b, bl.blk = some b → w.heap.size ≤ b)
    (ho : ObjAt w' U (setB β s.heap.length bl) (s.heap ++ [x]) S.w0.heap.size s.heap.length) : FRel S n U (setB β s.heap.length bl) ⟨s.regs, s.heap ++ [x], s.app⟩ a w' :=
  ⟨h.defers, h.size, fun i => (h.regs i).adv (Adv.push (app := []) h.wrel.uin hb x bl hbl) (avoids_nil _), h.wrel.push hb hbl ho⟩
end
end Go.Dp
/- Structs and slices by their parts; new variables. -/
set_option autoImplicit false
set_option linter.unusedVariables false
set_option linter.unusedSimpArgs false
namespace Go.Dp
open Go.RowKit

section
variable {P : Program} {E : Env} {w : World} {U : Nat → Prop} {β : Nat → Blk} {H : Heap}

theorem foldl_splice (l1 m l2 vs : List Value) (h : m.length = vs.length) : ∀ (pre : List Value) (rest : List Value), vs = pre ++ rest →
    (rest.zipIdx pre.length).foldl (fun cs (x : Value × Nat) => cs.setIfInBounds (l1.length + x.2) x.1) (l1 ++ (pre ++ m.drop pre.length) ++ l2).toArray = (l1 ++ vs ++ l2).toArray := by
  intro pre rest
  induction rest generalizing pre with
  | nil =>
    intro e
    simp at e
    subst e
    simp [List.drop_eq_nil_of_le (Nat.le_of_eq h)]
  | cons v rest ih =>
    intro e
    simp only [List.zipIdx_cons, List.foldl_cons]
    have hlen : pre.length < m.length := by rw [h, e]; simp
    have e2 : (l1 ++ (pre ++ m.drop pre.length) ++ l2).toArray.setIfInBounds (l1.length + pre.length) v = (l1 ++ ((pre ++ [v]) ++ m.drop (pre ++ [v]).length) ++ l2).toArray := by
      rw [List.setIfInBounds_toArray]
      congr 1
      rw [List.append_assoc, List.append_assoc, List.set_append_right _ _ (by omega), Nat.add_sub_cancel_left, List.append_assoc, List.set_append_right _ _ (Nat.le_refl _), Nat.sub_self]
      have e3 : m.drop pre.length = m[pre.length] :: m.drop (pre.length + 1) := List.drop_eq_getElem_cons hlen
      rw [e3, List.cons_append, List.set_cons_zero]
      simp
    rw [e2]
    have := ih (pre ++ [v]) (by simp [e])
    simpa using this

theorem fill_step {place : Nat → Option (Nat × Nat)} {f off size : Nat} {v : Value} {l1 m l2 : List Value} {rest : List (Nat × Value)} (hp : place f = some (off, size)) (ho : l1.length = off) (hm : m.length = size) (hv : v.cells.size = size) :
    Instr.fill place (l1 ++ m ++ l2).toArray ((f, v) :: rest) = Instr.fill place (l1 ++ v.cells.toList ++ l2).toArray rest := by
  subst ho
  simp only [Instr.fill, hp]
  rw [if_neg (by simp [hv, ← hm])]
  congr 1
  rw [← Array.foldl_toList, Array.toList_zipIdx]
  have := foldl_splice l1 m l2 v.cells.toList (by rw [hm, ← hv]; simp) [] v.cells.toList rfl
  simpa using this

theorem replicate_part (l : List Value) : ∀ (n i : Nat), i < n → ((List.replicate n l).flatten.drop (i * l.length)).take l.length = l := by
  intro n
  induction n with
  | zero => intro i h; omega
  | succ n ih =>
    intro i h
    cases i with
    | zero => simp [List.replicate_succ]
    | succ i =>
      rw [List.replicate_succ, List.flatten_cons, Nat.succ_mul, List.drop_append, List.drop_eq_nil_of_le (by omega), List.nil_append, Nat.add_sub_cancel]
      exact ih i (by omega)

theorem zOK_pure {T : Ty} : T.zOK = true → T.pure = true := by
  induction T <;> simp_all [Ty.zOK, Ty.pure]

theorem zcells_ok : ∀ T : Ty, T.zOK = true → EncM w U β H false T T.dflt (zcells T) := by
  intro T
  induction T with
  | scons a r iha ihr =>
    intro h
    simp only [Ty.zOK, Bool.and_eq_true] at h
    simp only [EncM, zcells, Ty.dflt]
    exact ⟨_, _, rfl, iha h.1, ihr h.2⟩
  | arr n e ih =>
    intro h
    simp only [Ty.zOK] at h
    have he := ih h
    have hl := he.len
    simp only [EncM, zcells, Ty.dflt]
    refine ⟨zOK_pure h, ?_, List.length_replicate, fun i hi => ?_⟩
    · simp [List.length_flatten, hl]
    · have hi' : i < n := by simpa using hi
      rw [List.getElem_replicate, ← hl, replicate_part _ n i hi']
      exact he
  | int k => intro h; simp [EncM, zcells, Ty.dflt]
  | bool => intro h; simp [EncM, zcells, Ty.dflt]
  | str => intro h; simp [EncM, zcells, Ty.dflt]
  | list e ih => intro h; simp [EncM, zcells, Ty.dflt]
  | nilf => intro h; simp [EncM, zcells]
  | nilp => intro h; simp [EncM, zcells]
  | nili => intro h; simp [EncM, zcells]
  | snil => intro h; simp [EncM, zcells]
  | _ => intro h; simp [Ty.zOK] at h

theorem zval_cells (T : Ty) (h : T.zOK = true) : (zval T).cells.toList = zcells T := by
  unfold zval
  cases hg : T.isAgg with
  | true => simp [Value.cells]
  | false => cases T <;> simp [Ty.isAgg, Ty.zOK] at hg h <;> simp [zcells, Value.cells]

theorem zval_ok (T : Ty) (h : T.zOK = true) : EncV w U β H ⟨T, T.dflt⟩ (zval T) := by
  refine .inr ⟨?_, by rw [zval_cells T h]; exact zcells_ok T h⟩
  unfold zval
  cases hg : T.isAgg with
  | true => rfl
  | false => cases T <;> simp [Ty.isAgg, Ty.zOK] at hg h <;> rfl

/-- The places of a struct's fields. -/
theorem places_ok (hT : TIok P E) : ∀ (F : List Field), (F.all fun f => (look E.ti f.type).isSome) = true →
    F.mapM (fun f => (P.info? f.type).map fun i => (f.offset, i.size)) = some (F.map fun f => (f.offset, (tiOf E f.type).size)) := by
  intro F
  induction F with
  | nil => intro _; rfl
  | cons f F ih =>
    intro h
    simp only [List.all_cons, Bool.and_eq_true] at h
    obtain ⟨i, hi⟩ := Option.isSome_iff_exists.1 h.1
    obtain ⟨info, d, h1, _, _, h4, _⟩ := hT.ok _ i hi
    simp only [List.mapM_cons, h1, ih h.2, Option.map_some, Option.bind_eq_bind, Option.bind_some, Option.pure_def, List.map_cons]
    simp [tiOf, hi, h4]

theorem chSet_agg : ∀ (T : Ty) (v : T.den) (f : Nat) (y : TV), f < chLen T → (chSet T v f y).t.isAgg = true := by
  intro T v f y h
  cases T with
  | scons a r => cases f <;> rfl
  | _ => simp [chLen] at h

variable {α : Type} {r : α} {s : St} {S : Base} {n : Nat} {a : Act}

/-- A struct's zero with a row of one's own for an empty list. -/
theorem own_init {e : Ty} {id : Nat} (hs : EncM w U β H false (.slw id) () [.slice none 0 0]) : ∀ (T : Ty) (f : Nat), T.zOK = true → f < chLen T → tyGet T f = .list e →
    EncM w U β H false (chSet T T.dflt f ⟨.slw id, ()⟩).t (chSet T T.dflt f ⟨.slw id, ()⟩).v (zcells T) := by
  intro T
  induction T with
  | scons a r iha ihr =>
    intro f hz hf he
    simp only [Ty.zOK, Bool.and_eq_true] at hz
    cases f with
    | zero =>
      simp only [tyGet] at he
      subst he
      simp only [chSet, EncM, zcells]
      exact ⟨_, _, rfl, hs, zcells_ok _ hz.2⟩
    | succ f =>
      simp only [chSet, EncM, zcells]
      exact ⟨_, _, rfl, zcells_ok _ hz.1, ihr f hz.2 (by simp only [chLen] at hf; omega) he⟩
  | _ => intro f hz hf he; simp [chLen] at hf

/-- Parts put into an aggregate. -/
theorem fill_go (hR : FRel S n U β s a w) {k : TV → Option α} {fs : List (Nat × Nat)} {place : Nat → Option (Nat × Nat)} (hpl : ∀ f ft off, fs[f]? = some (ft, off) → place f = some (off, (tiOf S.E ft).size)) :
    ∀ (parts : List (Nat × Operand)) (T : Ty) (v : T.den) (cs : List Value), T.isAgg = true → EncM w U β s.heap false T v cs → buildC.go S.E s k fs T v parts = some r →
        ∃ z cells, k z = some r ∧ z.t.isAgg = true ∧ EncM w U β s.heap false z.t z.v cells.toList ∧ Instr.fill place cs.toArray (parts.map fun (i, x) => (i, a.eval x)) = some cells := by
  intro parts
  induction parts with
  | nil =>
    intro T v cs hg hv h
    simp only [buildC.go] at h
    exact ⟨⟨T, v⟩, cs.toArray, h, hg, by simpa using hv, by simp [Instr.fill]⟩
  | cons p parts ih =>
    obtain ⟨f, x⟩ := p
    intro T v cs hg hv h
    simp only [buildC.go] at h
    split at h
    · rename_i ft off hf
      obtain ⟨h1, h⟩ := bif_some h
      obtain ⟨h1, h2⟩ := and2 h1
      obtain ⟨h1, h3⟩ := and2 h1
      obtain ⟨h1, h10⟩ := and2 h1
      obtain ⟨h4, h5, h6⟩ := and3 h1
      obtain ⟨l1, m, l2, rfl, h7, h8, h9⟩ := chGet_split T v f cs (bltN h5) hv
      have he := hR.ev ft x
      have hu : (ev S.E s ft x).t.isUnk = false := by simpa using h2
      have hx := (he.resolve_left (by rw [hu]; simp)).2
      have hlenv := hx.len
      have hsz : (a.eval x).cells.size = (tiOf S.E ft).size := by rw [← beqN h6, ← hlenv]; simp
      have hsplit := h9 _ _ hx
      have hm : m.length = (tiOf S.E ft).size := by
        rw [h8.len, chGet_ty]
        exact beqN h10
      obtain ⟨z, cells, g1, g2, g3, g4⟩ := ih _ _ _ (chSet_agg T v f _ (bltN h5)) hsplit h
      refine ⟨z, cells, g1, g2, g3, ?_⟩
      rw [List.map_cons, fill_step (l1 := l1) (m := m) (l2 := l2) (off := off) (size := (tiOf S.E ft).size) (hpl f ft off hf) (by rw [h7]; exact beqN h4) hm hsz]
      exact g4
    · cases h

theorem buildC_ok (hT : TIok S.P S.E) (hR : FRel S n U β s a w) {t : Nat} {init : TV} {parts : List (Nat × Operand)} {k : TV → Option α} (h : buildC S.E s t init parts k = some r)
    (hi : (tiOf S.E t).ty.isAgg = true → (tiOf S.E t).ty.zOK = true → init.t.isAgg = true ∧ EncM w U β s.heap false init.t init.v (zcells (tiOf S.E t).ty)) :
    ∃ z v, k z = some r ∧ EncV w U β s.heap z v ∧ (Instr.build t (parts.map fun (i, x) => (i, a.eval x)).toArray).run S.P w = .ok v w := by
  unfold buildC at h
  split at h
  · rename_i fs htd
    obtain ⟨h1, h⟩ := bif_some h
    obtain ⟨hz, hall⟩ := and2 h1
    obtain ⟨info, d, hK⟩ := hT.known_td (t := t) (by rw [htd]; simp)
    obtain ⟨F, rfl, hF⟩ := td_struct (hK.td.trans htd)
    have hp := places_ok hT F.toList (by
      rw [← hF] at hall
      simpa [List.all_map] using hall)
    have hzero := hK.zero hz
    obtain ⟨z, cells, h1, h2, h3, h4⟩ := fill_go (a := a) hR (place := ((F.toList.map fun f => (f.offset, (tiOf S.E f.type).size)).toArray[·]?)) (fun f ft off hf => by
      obtain ⟨fl, hfl, rfl, rfl⟩ := field_at hF hf
      simp [hfl]) parts _ _ _ (hi (by rw [← hK.agg]; rfl) hz).1 (hi (by rw [← hK.agg]; rfl) hz).2 h
    refine ⟨z, .agg cells, h1, .inr ⟨by rw [h2]; rfl, h3⟩, ?_⟩
    apply run_build
    unfold Program.built
    rw [hK.inf, hK.und]
    simp only [hzero, hp]
    rw [show (zval (tiOf S.E t).ty).cells = (zcells (tiOf S.E t).ty).toArray from by rw [← zval_cells _ hz]]
    exact h4
  · rename_i m e htd
    obtain ⟨h1, h⟩ := bif_some h
    obtain ⟨hz, hsome⟩ := and2 h1
    obtain ⟨info, d, hK⟩ := hT.known_td (t := t) (by rw [htd]; simp)
    obtain rfl := td_arr (hK.td.trans htd)
    obtain ⟨i', hi'⟩ := Option.isSome_iff_exists.1 hsome
    obtain ⟨info', d', q1, _, _, q4, _⟩ := hT.ok _ _ hi'
    have hsz : info'.size = (tiOf S.E e).size := by simp [tiOf, hi', q4]
    have hzero := hK.zero hz
    obtain ⟨z, cells, h1, h2, h3, h4⟩ := fill_go (a := a) hR (place := fun i => some (i * info'.size, info'.size)) (fun f ft off hf => by
      unfold arrFs at hf
      by_cases hlt : f < m
      · simp [List.getElem?_map, List.getElem?_range hlt] at hf
        obtain ⟨rfl, rfl⟩ := hf
        rw [hsz]
      · simp [List.getElem?_map, List.getElem?_eq_none (show (List.range m).length ≤ f by simpa using Nat.not_lt.1 hlt)] at hf) parts _ _ _ (hi (by rw [← hK.agg]; rfl) hz).1 (hi (by rw [← hK.agg]; rfl) hz).2 h
    refine ⟨z, .agg cells, h1, .inr ⟨by rw [h2]; rfl, h3⟩, ?_⟩
    apply run_build
    unfold Program.built
    rw [hK.inf, hK.und]
    simp only [hzero, q1]
    rw [show (zval (tiOf S.E t).ty).cells = (zcells (tiOf S.E t).ty).toArray from by rw [← zval_cells _ hz]]
    exact h4
  · cases h
end
end Go.Dp
/- New variables, new rows. -/
set_option autoImplicit false
set_option linter.unusedVariables false
set_option linter.unusedSimpArgs false
namespace Go.Dp
open Go.RowKit

section
variable {S : Base} {n : Nat} {U : Nat → Prop} {β : Nat → Blk} {s : St} {a : Act} {w : World} {α : Type} {k : St → Option α} {r : α} {h : Hint} {Q : Exit → Act → World → Prop} {o : Oper}

theorem run_newVar (P : Program) (w : World) (t : TypeId) (v : Value) : (newVar t v).run P w = .ok ⟨w.heap.size, 0, none⟩ (w.alloc (.cells v.cells t)) := by
  simp [newVar, newRow, newObj, Sem.run]

theorem zOK_notObj {T : Ty} (h : T.zOK = true) : T.isObj = false := by
  cases T <;> simp_all [Ty.zOK, Ty.isObj]

/-- A variable of the machine's own, in a block of its own. -/
theorem ObjAt.new {β' : Nat → Blk} {H' : Heap} {B id : Nat} {x : TV} {v : Value} {el : TypeId} (hU : ∀ b, U b → b < w.heap.size) (hB : B ≤ w.heap.size) (hg : hget H' id = x) (hx : x.t.isObj = false) (hb : (β' id).blk = some w.heap.size) (hc : (β' id).cap = el)
    (he : EncM (w.alloc (.cells v.cells el)) U β' H' false x.t x.v v.cells.toList) : ObjAt (w.alloc (.cells v.cells el)) U β' H' B id := by
  unfold ObjAt
  rw [hg]
  obtain ⟨t, y⟩ := x
  have key : ∃ b cs el' fr, (β' id).blk = some b ∧ B ≤ b ∧ ¬ U b ∧ (w.alloc (.cells v.cells el)).heap[b]? = some (.cells cs el' fr) ∧ (∀ j, j < cs.size → ¬ (fr.1 ≤ j ∧ j < fr.2)) ∧ EncM (w.alloc (.cells v.cells el)) U β' H' false t y cs.toList ∧ (β' id).cap = el' :=
    ⟨w.heap.size, v.cells, el, (0, 0), hb, hB, fun hu => by have := hU _ hu; omega, heap_alloc_at w _, fun j _ => by simp, he, hc⟩
  cases t <;> first | (simp [Ty.isObj] at hx; done) | exact key

/-- The step to a new variable. -/
theorem new_ok (hn : h.n = n) (hR : FRel S n U β s a w) {x : TV} {v : Value} {el : TypeId} (hx : EncV w U β s.heap x v) (hu : x.t.isUnk = false) (ho : x.t.isObj = false)
    (hrun : (execOp a.eval o).run S.P w = .ok (.value (.pointer (some ⟨w.heap.size, 0, none⟩))) (w.alloc (.cells v.cells el)))
    (hk : putC h ⟨s.regs, s.heap ++ [x], s.app⟩ o.dst ⟨.loc s.heap.length false [], (0 : Nat)⟩ k = some r) : o.wp S.P a w (Handed S n U β s w k r) Q := by
  unfold Oper.wp
  rw [hrun]
  have hbel := below_new w (.cells v.cells el)
  have hA : Adv w U β s.heap (w.alloc (.cells v.cells el)) U (setB β s.heap.length ⟨some w.heap.size, el⟩) (s.heap ++ [x]) s.app := Adv.push hR.wrel.uin hbel x _ (fun b e => by cases e; exact Nat.le_refl _)
  have hnr : ∀ e xs, x ≠ ⟨.row e, xs⟩ := fun e xs e' => by rw [e'] at ho; cases ho
  have hP := hR.push hbel (x := x) (bl := ⟨some w.heap.size, el⟩) (fun b e => by cases e; exact Nat.le_refl _)
    (ObjAt.new hR.wrel.uin hR.wrel.below.size hget_append_at ho (by simp [setB]) (by simp [setB])
      ((hx.resolve_left (by rw [hu]; simp)).2.adv (Adv.push (app := []) hR.wrel.uin hbel x ⟨some w.heap.size, el⟩ (fun b e => by cases e; exact Nat.le_refl _)) _ _ _ _ (avoids_nil _)))
  refine putC_ok hn hP (.inr ⟨rfl, ?_⟩) hA (fun _ _ h => h) hk
  simp only [EncM, Value.cells]
  refine ⟨w.heap.size, 0, rfl, by simp, by simp [setB], ?_⟩
  rw [hget_append_at]
  exact ⟨hnr, rfl, rfl⟩

/-- The step to a new variable: its value is read where it lies. -/
theorem new_ok' (hn : h.n = n) (hR : FRel S n U β s a w) {x : TV} {v : Value} {el : TypeId} (hx : EncM (w.alloc (.cells v.cells el)) U (setB β s.heap.length ⟨some w.heap.size, el⟩) (s.heap ++ [x]) false x.t x.v v.cells.toList) (ho : x.t.isObj = false)
    (hrun : (execOp a.eval o).run S.P w = .ok (.value (.pointer (some ⟨w.heap.size, 0, none⟩))) (w.alloc (.cells v.cells el)))
    (hk : putC h ⟨s.regs, s.heap ++ [x], s.app⟩ o.dst ⟨.loc s.heap.length false [], (0 : Nat)⟩ k = some r) : o.wp S.P a w (Handed S n U β s w k r) Q := by
  unfold Oper.wp
  rw [hrun]
  have hbel := below_new w (.cells v.cells el)
  have hA : Adv w U β s.heap (w.alloc (.cells v.cells el)) U (setB β s.heap.length ⟨some w.heap.size, el⟩) (s.heap ++ [x]) s.app := Adv.push hR.wrel.uin hbel x _ (fun b e => by cases e; exact Nat.le_refl _)
  have hnr : ∀ e xs, x ≠ ⟨.row e, xs⟩ := fun e xs e' => by rw [e'] at ho; cases ho
  have hP := hR.push hbel (x := x) (bl := ⟨some w.heap.size, el⟩) (fun b e => by cases e; exact Nat.le_refl _)
    (ObjAt.new hR.wrel.uin hR.wrel.below.size hget_append_at ho (by simp [setB]) (by simp [setB])
      hx)
  refine putC_ok hn hP (.inr ⟨rfl, ?_⟩) hA (fun _ _ h => h) hk
  simp only [EncM, Value.cells]
  refine ⟨w.heap.size, 0, rfl, by simp, by simp [setB], ?_⟩
  rw [hget_append_at]
  exact ⟨hnr, rfl, rfl⟩

theorem box_ok (hn : h.n = n) (hR : FRel S n U β s a w) {e : TypeId} {x : Operand} (hop : o.op = .box e x) (hu : (ev S.E s e x).t.isUnk = false) (ho : (ev S.E s e x).t.isObj = false)
    (hk : putC h ⟨s.regs, s.heap ++ [ev S.E s e x], s.app⟩ o.dst ⟨.loc s.heap.length false [], (0 : Nat)⟩ k = some r) : o.wp S.P a w (Handed S n U β s w k r) Q :=
  new_ok hn hR (hR.ev e x) hu ho (el := e) (by simp only [execOp, hop, Instr.box, Sem.run_bind, run_newVar, Result.andThen_ok, Sem.run_pure]) hk

theorem alloc_ok (hT : TIok S.P S.E) (hn : h.n = n) (hR : FRel S n U β s a w) {e : TypeId} (hop : o.op = .alloc e) (hc : (tiOf S.E e).ty.csize = (tiOf S.E e).size) (hz : (tiOf S.E e).ty.zOK = true) (hkn : ∃ info d, Known S.P S.E e info d)
    (hk : putC h ⟨s.regs, s.heap ++ [⟨(tiOf S.E e).ty, (tiOf S.E e).ty.dflt⟩], s.app⟩ o.dst ⟨.loc s.heap.length false [], (0 : Nat)⟩ k = some r) : o.wp S.P a w (Handed S n U β s w k r) Q := by
  obtain ⟨info, d, hK⟩ := hkn
  refine new_ok hn hR (zval_ok _ hz) (by generalize (tiOf S.E e).ty = T at *; cases T <;> simp_all [Ty.zOK, Ty.isUnk]) (zOK_notObj hz) (el := e) ?_ hk
  simp only [execOp, hop, Instr.alloc, zeroValue, Sem.run_bind, hK.runT, Result.andThen_ok, hK.zero hz, Sem.run_pure, run_newVar]

/-- A value in a new block that may only be read. -/
theorem boxImm_ok (hn : h.n = n) (hR : FRel S n U β s a w) {e : TypeId} {x : Operand} (hop : o.op = .box e x) (hu : (ev S.E s e x).t.isUnk = false) (hp : (ev S.E s e x).t.pure = true)
    (hk : putC h s o.dst ⟨.ref (ev S.E s e x).t, (ev S.E s e x).v⟩ k = some r) : o.wp S.P a w (Handed S n U β s w k r) Q := by
  unfold Oper.wp
  have hrun : (execOp a.eval o).run S.P w = .ok (.value (.pointer (some ⟨w.heap.size, 0, none⟩))) (w.alloc (.cells (a.eval x).cells e)) := by
    simp only [execOp, hop, Instr.box, Sem.run_bind, run_newVar, Result.andThen_ok, Sem.run_pure]
  rw [hrun]
  have hbel := below_new w (.cells (a.eval x).cells e)
  have hG := hR.grow hbel (withB_grow w (.cells (a.eval x).cells e) U)
  have hA : Adv w U β s.heap (w.alloc (.cells (a.eval x).cells e)) (withB U w.heap.size) β s.heap s.app := Adv.grow hbel.block hR.wrel.uin (fun b hb => .inl hb) (withB_un w U)
  refine putC_ok hn hG (.inr ⟨rfl, ?_⟩) hA (fun _ _ h => h) hk
  simp only [EncM, Value.cells]
  refine ⟨w.heap.size, 0, (a.eval x).cells.toList, rfl, .inr rfl, ?_, cellsAt_block (heap_alloc_at w _)⟩
  exact ((hR.ev e x).resolve_left (by rw [hu]; simp)).2.adv (app := []) (Adv.grow hbel.block hR.wrel.uin (fun b hb => .inl hb) (withB_un w U)) _ _ _ _ (avoids_nil _)

/-- A string's iterator. -/
theorem range_ok (hT : TIok S.P S.E) (hn : h.n = n) (hR : FRel S n U β s a w) {t : TypeId} {x : Operand} {b : List UInt8} (hop : o.op = .range t x) (htd : (tiOf S.E t).td = .str) (hx : ev S.E s t x = ⟨.str, b⟩)
    (hk : putC h ⟨s.regs, s.heap ++ [⟨.iter, (b, 0)⟩], s.app⟩ o.dst ⟨.loc s.heap.length false [], (0 : Nat)⟩ k = some r) : o.wp S.P a w (Handed S n U β s w k r) Q := by
  obtain ⟨info, d, hK⟩ := hT.known_td (t := t) (by rw [htd]; simp)
  obtain rfl := td_str (hK.td.trans htd)
  have hv := hR.ev t x
  rw [hx] at hv
  have hv := hv.str
  unfold Oper.wp
  have hrun : (execOp a.eval o).run S.P w = .ok (.value (.pointer (some ⟨w.heap.size, 0, none⟩))) (w.alloc (.stringIter ⟨b.toArray⟩ 0)) := by
    simp only [execOp, hop, hv, Instr.range, Sem.run_bind, hK.runU, Result.andThen_ok, Sem.run_pure, newObj, Sem.run]
    rfl
  rw [hrun]
  have hbel := below_new w (.stringIter ⟨b.toArray⟩ 0)
  have hA : Adv w U β s.heap (w.alloc (.stringIter ⟨b.toArray⟩ 0)) U (setB β s.heap.length ⟨some w.heap.size, 0⟩) (s.heap ++ [⟨.iter, (b, 0)⟩]) s.app := Adv.push hR.wrel.uin hbel _ _ (fun b e => by cases e; exact Nat.le_refl _)
  have hP := hR.push hbel (x := ⟨.iter, (b, 0)⟩) (bl := ⟨some w.heap.size, 0⟩) (fun b e => by cases e; exact Nat.le_refl _) (by
    unfold ObjAt
    rw [hget_append_at]
    exact ⟨w.heap.size, by simp [setB], hR.wrel.below.size, fun hu => by have := hR.wrel.uin _ hu; omega, heap_alloc_at w _⟩)
  refine putC_ok hn hP (.inr ⟨rfl, ?_⟩) hA (fun _ _ h => h) hk
  simp only [EncM, Value.cells]
  refine ⟨w.heap.size, 0, rfl, by simp, by simp [setB], ?_⟩
  rw [hget_append_at]
  exact ⟨fun e xs e' => (by cases e'), rfl, rfl⟩

theorem parts_zip : ∀ (parts : List (Nat × Operand)) (i : Nat), partsInOrder i parts = true → parts.map (fun (p : Nat × Operand) => (p.1, a.eval p.2)) = ((parts.map fun p => a.eval p.2).zipIdx i).map fun x => (x.2, x.1) := by
  intro parts
  induction parts with
  | nil => intro i _; rfl
  | cons p parts ih =>
    obtain ⟨j, x⟩ := p
    intro i h
    simp only [partsInOrder, Bool.and_eq_true] at h
    have := beqN h.1
    subst this
    simp only [List.map_cons, List.zipIdx_cons]
    rw [ih _ h.2]

theorem cast_some {t : Ty} {x : TV} {y : t.den} (h : cast t x = some y) : x = ⟨t, y⟩ := by
  unfold cast at h
  split at h
  · rename_i e
    obtain ⟨u, v⟩ := x
    subst e
    cases h
    rfl
  · cases h

theorem rowOf_ok {e : Ty} : ∀ (l : List TV) (ys : List e.den), rowOf e l = some ys → l = ys.map fun y => (⟨e, y⟩ : TV) := by
  intro l
  induction l with
  | nil => intro ys h; simp [rowOf] at h; subst h; rfl
  | cons x l ih =>
    intro ys h
    simp only [rowOf] at h
    split at h
    · rename_i y ys' h1 h2
      cases h
      rw [List.map_cons, ← ih _ h2, ← cast_some h1]
    · cases h

/-- The cells of a slice's parts side by side. -/
theorem flat_cells {c : Nat} : ∀ (vs : List Value), (∀ v ∈ vs, v.cells.size = c) → ∀ (i : Nat) (hi : i < vs.length) (j : Nat), j < c → (vs.flatMap fun v => v.cells.toList)[i * c + j]? = (vs[i]).cells.toList[j]? := by
  intro vs
  induction vs with
  | nil => intro _ i hi; simp at hi
  | cons v vs ih =>
    intro hc i hi j hj
    have hv : v.cells.toList.length = c := by simpa using hc v List.mem_cons_self
    rw [List.flatMap_cons]
    cases i with
    | zero => rw [List.getElem?_append_left (by omega)]; simp
    | succ i =>
      rw [List.getElem?_append_right (by rw [hv, Nat.succ_mul]; omega), hv, Nat.succ_mul]
      have e : i * c + c + j - c = i * c + j := by omega
      rw [e, ih (fun u hu => hc u (List.mem_cons_of_mem _ hu)) i (by simpa using hi) j hj]
      simp

theorem flat_len {c : Nat} : ∀ (vs : List Value), (∀ v ∈ vs, v.cells.size = c) → (vs.flatMap fun v => v.cells.toList).length = vs.length * c := by
  intro vs
  induction vs with
  | nil => intro _; simp
  | cons v vs ih =>
    intro hc
    have hv : v.cells.toList.length = c := by simpa using hc v List.mem_cons_self
    rw [List.flatMap_cons, List.length_append, hv, ih fun u hu => hc u (List.mem_cons_of_mem _ hu), List.length_cons, Nat.succ_mul]
    omega

theorem zval_size {T : Ty} (h : T.zOK = true) : (zval T).cells.size = T.csize := by
  have := (zcells_ok (w := default) (U := fun _ => False) (β := fun _ => ⟨none, 0⟩) (H := []) T h).len
  rw [← Array.length_toList, zval_cells T h, this]

/-- The model's own step at a slice by its parts. -/
theorem run_slice_parts (hT : TIok S.P S.E) {t len et : Nat} {vs : List Value} (htd : (tiOf S.E t).td = .slice et) (hz : (tiOf S.E et).ty.zOK = true) (h0 : 0 < (tiOf S.E et).size) (hl : vs.length = len) (hsmall : len * (tiOf S.E et).size ≤ 16777216)
    (hkn : ∃ info d, Known S.P S.E et info d) (hcs : (tiOf S.E et).ty.csize = (tiOf S.E et).size) (hc : ∀ v ∈ vs, v.cells.size = (tiOf S.E et).size) (w : World) :
    (Instr.buildSlice t len ((vs.zipIdx 0).map fun x => (x.2, x.1)).toArray).run S.P w = .ok (.slice (some ⟨w.heap.size, 0, none⟩) len len) (w.alloc (.cells (vs.flatMap fun v => v.cells.toList).toArray et)) := by
  obtain ⟨info, d, hK⟩ := hT.known_td (t := t) (by rw [htd]; simp)
  obtain rfl := td_slice (hK.td.trans htd)
  obtain ⟨info', d', hK'⟩ := hkn
  by_cases hlen : len = 0
  · subst hlen
    have : vs = [] := List.eq_nil_of_length_eq_zero hl
    subst this
    simp only [Instr.buildSlice, Sem.run_bind, hK.runU, Result.andThen_ok, hK'.runS, Nat.zero_mul, Sem.run_ite]
    have e0 : Array.range 0 = #[] := by apply Array.ext' ; simp
    simp [Instr.fill, newRow, newObj, Sem.run, e0]
  · have hpos : 0 < len * (tiOf S.E et).size := Nat.mul_pos (by omega) h0
    refine run_buildSlice w t et len _ _ info' _ hK.und hK'.inf (hK'.zero hz) (by rw [hK'.size]; omega) (by rw [hK'.size]; omega) ?_
    rw [hK'.size]
    refine Great.fill_whole h0 vs _ hc ?_
    simp [hl]
end
end Go.Dp
/- Slices by their parts. -/
set_option autoImplicit false
set_option linter.unusedVariables false
set_option linter.unusedSimpArgs false
namespace Go.Dp
open Go.RowKit

section
variable {S : Base} {n : Nat} {U : Nat → Prop} {β : Nat → Blk} {s : St} {a : Act} {w : World} {α : Type} {k : St → Option α} {r : α} {h : Hint} {Q : Exit → Act → World → Prop} {o : Oper}

theorem chMk_chain {w : World} {U : Nat → Prop} {β : Nat → Blk} {H : Heap} : ∀ (l : List TV) (vs : List Value), l.length = vs.length → (∀ i (h : i < l.length) (h' : i < vs.length), EncV w U β H l[i] vs[i]) → EncM w U β H true (chMk l).t (chMk l).v vs := by
  intro l
  induction l with
  | nil =>
    intro vs hl _
    have : vs = [] := List.eq_nil_of_length_eq_zero hl.symm
    subst this
    simp [chMk, EncM]
  | cons x l ih =>
    intro vs hl hx
    cases vs with
    | nil => simp at hl
    | cons v vs =>
      simp only [chMk, EncM]
      exact ⟨v, vs, rfl, hx 0 (by simp) (by simp), ih vs (by simpa using hl) fun i h h' => hx (i + 1) (by simpa using h) (by simpa using h')⟩

theorem chMk_len : ∀ l : List TV, chLen (chMk l).t = l.length := by
  intro l
  induction l with
  | nil => rfl
  | cons x l ih => simp [chMk, chLen, ih]

theorem ty_unk_of_zOK {T : Ty} (h : T.zOK = true) : T.isUnk = false := by
  cases T <;> simp_all [Ty.zOK, Ty.isUnk]

theorem idxN_ok : ∀ (fs : List Nat) (i f j : Nat), idxN fs i f = some j → i ≤ j ∧ fs[j - i]? = some f := by
  intro fs
  induction fs with
  | nil => intro i f j h; cases h
  | cons g fs ih =>
    intro i f j h
    simp only [idxN] at h
    cases hb : Nat.beq g f with
    | true =>
      rw [hb] at h
      cases h
      exact ⟨Nat.le_refl _, by rw [Nat.sub_self]; simp [beqN hb]⟩
    | false =>
      rw [hb] at h
      obtain ⟨h1, h2⟩ := ih _ _ _ h
      refine ⟨by omega, ?_⟩
      rw [show j - i = (j - (i + 1)) + 1 by omega]
      simpa using h2
theorem coeU_ok {w : World} {U : Nat → Prop} {β : Nat → Blk} {H : Heap} : ∀ (T u : Ty) (v : u.den) (y : T.den) (cs : List Value), coeU T u v = some y → EncM w U β H false u v cs → EncM w U β H false T y cs ∧ T.isAgg = u.isAgg := by
  have hc : ∀ (T u : Ty) (v : u.den) (y : T.den) (cs : List Value), cast T ⟨u, v⟩ = some y → EncM w U β H false u v cs → EncM w U β H false T y cs ∧ T.isAgg = u.isAgg := by
    intro T u v y cs h he
    have := cast_some h
    cases this
    exact ⟨he, rfl⟩
  intro T
  induction T with
  | fnu fs =>
    intro u v y cs h he
    cases u with
    | fn g c =>
      cases c with
      | snil =>
        obtain ⟨_, h2⟩ := idxN_ok _ _ _ _ h
        simp only [EncM] at he ⊢
        obtain ⟨vs, rfl, hvs⟩ := he
        have : vs = #[] := by apply Array.ext'; simpa [EncM] using hvs
        subst this
        exact ⟨⟨g, by simpa using h2, rfl⟩, rfl⟩
      | _ => exact hc _ _ _ _ _ h he
    | _ => exact hc _ _ _ _ _ h he
  | scons a r iha ihr =>
    intro u v y cs h he
    cases u with
    | scons b s =>
      simp only [coeU] at h
      split at h
      · rename_i x1 y1 h1 h2
        cases h
        simp only [EncM] at he ⊢
        obtain ⟨l1, l2, rfl, g1, g2⟩ := he
        exact ⟨⟨l1, l2, rfl, (iha _ _ _ _ h1 g1).1, (ihr _ _ _ _ h2 g2).1⟩, rfl⟩
      · cases h
    | _ => exact hc _ _ _ _ _ h he
  | _ => intro u v y cs h he; exact hc _ _ _ _ _ h he
theorem coeL_ok {w : World} {U : Nat → Prop} {β : Nat → Blk} {H : Heap} {T : Ty} (hT : T.isUnk = false) : ∀ (l : List TV) (ys : List T.den), coeL T l = some ys → ys.length = l.length ∧
    ∀ i (h1 : i < l.length) (h2 : i < ys.length) (v : Value), EncV w U β H l[i] v → l[i].t.isUnk = false → EncV w U β H ⟨T, ys[i]⟩ v := by
  intro l
  induction l with
  | nil => intro ys h; cases h; exact ⟨rfl, fun i h1 => absurd h1 (by simp)⟩
  | cons x l ih =>
    intro ys h
    simp only [coeL] at h
    split at h
    · rename_i y ys' h1 h2
      cases h
      obtain ⟨h3, h4⟩ := ih _ h2
      refine ⟨by simp [h3], fun i hi hi2 v hv hu => ?_⟩
      cases i with
      | zero =>
        rcases hv with hv | ⟨hv, hw⟩
        · simp only [List.getElem_cons_zero] at hu hv; rw [hu] at hv; cases hv
        · obtain ⟨g1, g2⟩ := coeU_ok _ _ _ _ _ h1 hw
          exact .inr ⟨hv.trans g2.symm, g1⟩
      | succ i => exact h4 i (by simpa using hi) (by simpa using hi2) v hv hu
    · cases h
theorem uniRow_ok {w : World} {U : Nat → Prop} {β : Nat → Blk} {H : Heap} {T : Ty} {l : List TV} {ys : List T.den} (hT : T.isUnk = false) (h : uniRow l = some ⟨T, ys⟩) : ys.length = l.length ∧
    ∀ i (h1 : i < l.length) (h2 : i < ys.length) (v : Value), EncV w U β H l[i] v → l[i].t.isUnk = false → EncV w U β H ⟨T, ys[i]⟩ v := by
  unfold uniRow at h
  split at h
  · cases h
  · split at h
    · split at h
      · rename_i ys' h2
        cases h
        exact coeL_ok hT _ _ h2
      · cases h
    · cases h

theorem buildSliceC_ok (hT : TIok S.P S.E) (hn : h.n = n) (hR : FRel S n U β s a w) {t len : Nat} {parts : Array (Nat × Operand)} (hop : o.op = .buildSlice t len parts)
    (hk : buildSliceC S.E h s o.dst t len parts.toList k = some r) : o.wp S.P a w (Handed S n U β s w k r) Q := by
  unfold buildSliceC at hk
  split at hk
  · rename_i et htd
    obtain ⟨h1, hk⟩ := bif_some hk
    obtain ⟨h1, hsm⟩ := and2 h1
    obtain ⟨h1, hpos⟩ := and2 h1
    obtain ⟨h1, hcs⟩ := and2 h1
    obtain ⟨h1, hz⟩ := and2 h1
    obtain ⟨hlen, hord⟩ := and2 h1
    have hlen := beqN hlen
    have hcs := beqN hcs
    have hpos := bltN hpos
    have hsm : len * (tiOf S.E et).size ≤ 16777216 := Nat.le_of_ble_eq_true hsm
    have hkn : ∃ info d, Known S.P S.E et info d := hT.known_size (by omega)
    let vs := parts.toList.map fun p => a.eval p.2
    have hvl : vs.length = len := by simpa [vs] using hlen
    have hparts : (parts.map fun (i, x) => (i, a.eval x)) = ((vs.zipIdx 0).map fun x => (x.2, x.1)).toArray := by
      rw [← parts_zip parts.toList 0 hord]
      apply Array.ext'
      simp
    have hev : ∀ i (h : i < vs.length) (h' : i < (parts.toList.map fun p => ev S.E s et p.2).length), EncV w U β s.heap (parts.toList.map fun p => ev S.E s et p.2)[i] vs[i] := by
      intro i h h'
      simp only [vs, List.getElem_map]
      exact hR.ev et _
    have hrun : ∀ (hc : ∀ v ∈ vs, v.cells.size = (tiOf S.E et).size), (execOp a.eval o).run S.P w = .ok (.value (.slice (some ⟨w.heap.size, 0, none⟩) len len)) (w.alloc (.cells (vs.flatMap fun v => v.cells.toList).toArray et)) := by
      intro hc
      simp only [execOp, hop, hparts, Sem.run_bind, run_slice_parts hT htd hz hpos hvl hsm hkn hcs hc w, Result.andThen_ok, Sem.run_pure]
    simp only at hk
    split at hk
    · rename_i ys hys
      obtain ⟨helem, hk⟩ := bif_none hk
      have helem : (tiOf S.E et).ty.elem = true := by simpa using helem
      have hl := rowOf_ok _ _ hys
      have hyl : ys.length = len := by rw [← hvl]; have := congrArg List.length hl; simpa [vs] using this.symm
      have hu := ty_unk_of_zOK hz
      have hel : ∀ i (hi : i < ys.length) (hi' : i < vs.length), EncM w U β s.heap false (tiOf S.E et).ty ys[i] (vs[i]).cells.toList := by
        intro i hi hi'
        have := hev i hi' (by rw [hl]; simpa using hi)
        simp only [hl, List.getElem_map] at this
        exact (this.resolve_left (by rw [hu]; simp)).2
      have hc : ∀ v ∈ vs, v.cells.size = (tiOf S.E et).size := by
        intro v hv
        obtain ⟨i, hi, rfl⟩ := List.getElem_of_mem hv
        have := (hel i (by omega) hi).len
        rw [← Array.length_toList, this, hcs]
      have hbel := below_new w (.cells (vs.flatMap fun v => v.cells.toList).toArray et)
      have hat : ∀ i (hi : i < ys.length) (hi' : i < vs.length) (j : Nat) (hj : j < (vs[i]).cells.toList.length), (vs.flatMap fun v => v.cells.toList).toArray[i * (tiOf S.E et).ty.csize + j]? = some (vs[i]).cells.toList[j] := by
        intro i hi hi' j hj
        have hj' : j < (tiOf S.E et).size := by rw [← hc _ (List.getElem_mem hi')]; simpa using hj
        rw [List.getElem?_toArray, hcs, flat_cells vs hc i hi' j hj', List.getElem?_eq_getElem hj]
      cases hown : h.isOwn o.dst with
      | true =>
        rw [hown] at hk
        simp only [cond_true] at hk
        unfold Oper.wp
        rw [hrun hc]
        have hA : Adv w U β s.heap (w.alloc (.cells (vs.flatMap fun v => v.cells.toList).toArray et)) U (setB β s.heap.length ⟨some w.heap.size, len⟩) (s.heap ++ [⟨.row (tiOf S.E et).ty, ys⟩]) s.app := Adv.push hR.wrel.uin hbel _ _ (fun b e => by cases e; exact Nat.le_refl _)
        have hP := hR.push hbel (x := ⟨.row (tiOf S.E et).ty, ys⟩) (bl := ⟨some w.heap.size, len⟩) (fun b e => by cases e; exact Nat.le_refl _) (by
          unfold ObjAt
          rw [hget_append_at]
          refine ⟨helem, .inr ⟨w.heap.size, _, et, (0, 0), by simp [setB], hR.wrel.below.size, fun hu => by have := hR.wrel.uin _ hu; omega, heap_alloc_at w _, ?_, by simp [setB]; omega, fun j _ => by simp, fun i hi => ?_⟩⟩
          · simp [setB, flat_len vs hc, hvl, hcs]
          · have hi' : i < vs.length := by omega
            exact ⟨_, (hel i hi hi').adv (app := []) (Adv.push hR.wrel.uin hbel _ _ (fun b e => by cases e; exact Nat.le_refl _)) _ _ _ _ (avoids_nil _), fun j hj => hat i hi hi' j hj⟩)
        refine putC_ok hn hP (.inr ⟨rfl, ?_⟩) hA (fun _ _ h => h) hk
        simp only [EncM, Value.cells]
        exact ⟨(tiOf S.E et).ty, ys, by simp, hget_append_at, by simp [setB, hyl]⟩
      | false =>
        rw [hown] at hk
        simp only [cond_false] at hk
        cases hfz : h.isFrz o.dst with
        | false =>
          rw [hfz] at hk
          simp only [cond_false] at hk
          unfold Oper.wp
          rw [hrun hc]
          have hG := hR.grow hbel (withB_grow w (.cells (vs.flatMap fun v => v.cells.toList).toArray et) U)
          have hA : ∀ app, Adv w U β s.heap (w.alloc (.cells (vs.flatMap fun v => v.cells.toList).toArray et)) (withB U w.heap.size) β s.heap app := fun app => Adv.grow hbel.block hR.wrel.uin (fun b hb => .inl hb) (withB_un w U)
          refine putC_ok hn hG (.inr ⟨rfl, ?_⟩) (hA _) (fun _ _ h => h) hk
          simp only [EncM, Value.cells]
          refine ⟨some ⟨w.heap.size, 0, none⟩, len, by rw [hyl], by omega, fun hp => ⟨w.heap.size, 0, rfl, .inr rfl, fun i hi => ?_⟩⟩
          have hi' : i < vs.length := by omega
          refine ⟨_, (hel i hi hi').adv (hA []) _ _ _ _ (avoids_nil _), fun j hj => ?_⟩
          simp only [World.cell?, heap_alloc_at, Nat.zero_add]
          exact hat i hi hi' j hj
        | true =>
          rw [hfz] at hk
          simp only [cond_true] at hk
          unfold Oper.wp
          rw [hrun hc]
          have hG := hR.grow hbel (withB_grow w (.cells (vs.flatMap fun v => v.cells.toList).toArray et) U)
          have hA : ∀ app, Adv w U β s.heap (w.alloc (.cells (vs.flatMap fun v => v.cells.toList).toArray et)) (withB U w.heap.size) β s.heap app := fun app => Adv.grow hbel.block hR.wrel.uin (fun b hb => .inl hb) (withB_un w U)
          refine putC_ok hn hG (.inr ⟨rfl, ?_⟩) (hA _) (fun _ _ h => h) hk
          simp only [EncM, Value.cells]
          refine ⟨some ⟨w.heap.size, 0, none⟩, len, by rw [hyl], by omega, fun hp => ⟨w.heap.size, 0, rfl, .inr rfl, fun i hi => ?_⟩⟩
          have hi' : i < vs.length := by omega
          refine ⟨_, (hel i hi hi').adv (hA []) _ _ _ _ (avoids_nil _), fun j hj => ?_⟩
          simp only [World.cell?, heap_alloc_at, Nat.zero_add]
          exact hat i hi hi' j hj
    · split at hk
      · rename_i T ys hU
        have hU : uniRow (parts.toList.map fun p => ev S.E s et p.2) = some ⟨T, ys⟩ := by
          cases hb : Nat.blt 1 (tiOf S.E et).size <;> rw [hb] at hU <;> first | exact hU | cases hU
        obtain ⟨h1, hk⟩ := bif_some hk
        obtain ⟨h1, hown⟩ := and2 h1
        obtain ⟨h1, hag⟩ := and2 h1
        obtain ⟨h1, hsz⟩ := and2 h1
        obtain ⟨helem, hunks⟩ := and2 h1
        have hsz := beqN hsz
        have hu : T.isUnk = false := by cases T <;> simp_all [Ty.isUnk, Ty.elem, Ty.pure]
        obtain ⟨hyl, hel0⟩ := uniRow_ok (w := w) (U := U) (β := β) (H := s.heap) hu hU
        have hyl : ys.length = len := by rw [hyl]; simpa using hlen
        have hel : ∀ i (hi : i < ys.length) (hi' : i < vs.length), EncM w U β s.heap false T ys[i] (vs[i]).cells.toList := by
          intro i hi hi'
          have hi2 : i < (parts.toList.map fun p => ev S.E s et p.2).length := by simpa [vs] using hi'
          have := hel0 i hi2 hi _ (hev i hi' hi2) (by have := List.all_eq_true.1 hunks _ (List.getElem_mem hi2); simpa using this)
          exact (this.resolve_left (by rw [hu]; simp)).2
        have hc : ∀ v ∈ vs, v.cells.size = (tiOf S.E et).size := by
          intro v hv
          obtain ⟨i, hi, rfl⟩ := List.getElem_of_mem hv
          have := (hel i (by omega) hi).len
          rw [← Array.length_toList, this, hsz]
        have hbel := below_new w (.cells (vs.flatMap fun v => v.cells.toList).toArray et)
        have hat : ∀ i (hi : i < ys.length) (hi' : i < vs.length) (j : Nat) (hj : j < (vs[i]).cells.toList.length), (vs.flatMap fun v => v.cells.toList).toArray[i * T.csize + j]? = some (vs[i]).cells.toList[j] := by
          intro i hi hi' j hj
          have hj' : j < (tiOf S.E et).size := by rw [← hc _ (List.getElem_mem hi')]; simpa using hj
          rw [List.getElem?_toArray, hsz, flat_cells vs hc i hi' j hj', List.getElem?_eq_getElem hj]
        unfold Oper.wp
        rw [hrun hc]
        have hG := hR.grow hbel (withB_grow w (.cells (vs.flatMap fun v => v.cells.toList).toArray et) U)
        have hA : ∀ app, Adv w U β s.heap (w.alloc (.cells (vs.flatMap fun v => v.cells.toList).toArray et)) (withB U w.heap.size) β s.heap app := fun app => Adv.grow hbel.block hR.wrel.uin (fun b hb => .inl hb) (withB_un w U)
        refine putC_ok hn hG (.inr ⟨rfl, ?_⟩) (hA _) (fun _ _ h => h) hk
        simp only [EncM, Value.cells]
        refine ⟨some ⟨w.heap.size, 0, none⟩, len, by rw [hyl], by omega, fun hp => ⟨w.heap.size, 0, rfl, .inr rfl, fun i hi => ?_⟩⟩
        have hi' : i < vs.length := by omega
        refine ⟨_, (hel i hi hi').adv (hA []) _ _ _ _ (avoids_nil _), fun j hj => ?_⟩
        simp only [World.cell?, heap_alloc_at, Nat.zero_add]
        exact hat i hi hi' j hj
      obtain ⟨h1, hk⟩ := bif_some hk
      obtain ⟨hall, hs1⟩ := and2 h1
      have hs1 := beqN hs1
      have hone : ∀ i (hi : i < vs.length), aggV vs[i] = false ∧ (vs[i]).cells = #[vs[i]] := by
        intro i hi
        have hi2 : i < (parts.toList.map fun p => ev S.E s et p.2).length := by simpa [vs] using hi
        have he := hev i hi hi2
        have hx := List.all_eq_true.1 hall _ (List.getElem_mem hi2)
        generalize (parts.toList.map fun p => ev S.E s et p.2)[i] = x at he hx
        obtain ⟨⟨hx1, hx2⟩, hx3⟩ := and2 hx |>.imp_left and2
        have hx2 : x.t.isAgg = false := by simpa using hx2
        have hx3 : x.t.isUnk = false := by simpa using hx3
        have := (he.resolve_left (by rw [hx3]; simp)).1
        rw [hx2] at this
        refine ⟨this, ?_⟩
        generalize vs[i] = v at this
        cases v <;> simp_all [aggV, Value.cells]
      have hc : ∀ v ∈ vs, v.cells.size = (tiOf S.E et).size := by
        intro v hv
        obtain ⟨i, hi, rfl⟩ := List.getElem_of_mem hv
        rw [(hone i hi).2, hs1]
        rfl
      have hflat : (vs.flatMap fun v => v.cells.toList) = vs := by
        have : ∀ v ∈ vs, v.cells.toList = [v] := by
          intro v hv
          obtain ⟨i, hi, rfl⟩ := List.getElem_of_mem hv
          rw [(hone i hi).2]
        clear_value vs
        clear hk hall hrun hev hparts hvl hone hc
        induction vs with
        | nil => rfl
        | cons v vs ih => rw [List.flatMap_cons, this v List.mem_cons_self, ih fun u hu => this u (List.mem_cons_of_mem _ hu)]; rfl
      have hbel := below_new w (.cells (vs.flatMap fun v => v.cells.toList).toArray et)
      unfold Oper.wp
      rw [hrun hc]
      have hG := hR.grow hbel (withB_grow w (.cells (vs.flatMap fun v => v.cells.toList).toArray et) U)
      have hA : ∀ app, Adv w U β s.heap (w.alloc (.cells (vs.flatMap fun v => v.cells.toList).toArray et)) (withB U w.heap.size) β s.heap app := fun app => Adv.grow hbel.block hR.wrel.uin (fun b hb => .inl hb) (withB_un w U)
      refine putC_ok hn hG (.inr ⟨rfl, ?_⟩) (hA _) (fun _ _ h => h) hk
      simp only [EncM]
      have hcl : chLen (chMk (parts.toList.map fun p => ev S.E s et p.2)).t = len := by rw [chMk_len]; simpa using hlen
      refine ⟨w.heap.size, 0, len, vs, by rw [hcl]; rfl, by omega, .inr rfl, ?_, ?_, ?_⟩
      · refine (chMk_chain (w := w) (U := U) (β := β) (H := s.heap) _ vs (by simp [vs]) fun i h h' => ?_).adv (hA []) _ _ _ _ (avoids_nil _)
        exact hev i h' h
      · intro v hv
        obtain ⟨i, hi, rfl⟩ := List.getElem_of_mem hv
        exact (hone i hi).1
      · have := cellsAt_block (heap_alloc_at w (.cells (vs.flatMap fun v => v.cells.toList).toArray et))
        rw [List.toList_toArray] at this
        intro j hj
        rw [this j (by rw [hflat]; exact hj)]
        exact congrArg some (List.getElem_of_eq hflat _)
  · cases hk

theorem size_zeros (z : Value) (n : Nat) : ((Array.range n).map fun i => (#[z] : Array Value)[i % (#[z] : Array Value).size]!) = Array.replicate n z := by
  apply Array.ext
  · simp
  · intro i h1 h2
    simp [Nat.mod_one]

theorem makeSliceC_ok (hT : TIok S.P S.E) (hn : h.n = n) (hR : FRel S n U β s a w) {t : Nat} {x y : Operand} (hop : o.op = .makeSlice t x y)
    (hk : makeSliceC S.E h s o.dst t (ev S.E s 0 x) (ev S.E s 0 y) k = some r) : o.wp S.P a w (Handed S n U β s w k r) Q := by
  have hx := hR.ev 0 x
  have hy := hR.ev 0 y
  generalize ev S.E s 0 x = X at hk hx
  generalize ev S.E s 0 y = Y at hk hy
  unfold makeSliceC at hk
  split at hk
  · rename_i et kn nn kc cc htd
    change Int at nn
    change Int at cc
    obtain ⟨h1, hk2⟩ := bif_some hk
    clear hk
    obtain ⟨h1, hby⟩ := and2 h1
    obtain ⟨h1, hsz⟩ := and2 h1
    obtain ⟨h1, hcs⟩ := and2 h1
    obtain ⟨h1, helem⟩ := and2 h1
    obtain ⟨h1, hz⟩ := and2 h1
    obtain ⟨h1, hroom⟩ := and2 h1
    obtain ⟨h1, hnn⟩ := and2 h1
    obtain ⟨hown, hnc⟩ := and2 h1
    have hnc : nn = cc := decT hnc
    subst hnc
    have hnn : (0 : Int) ≤ nn := decT hnn
    have hroom : nn.toNat * (tiOf S.E et).bytes ≤ maxRoom := decT hroom
    have hcs := beqN hcs
    have hsz := beqN hsz
    have hby := bltN hby
    obtain ⟨info, d, hK⟩ := hT.known_td (t := t) (by rw [htd]; simp)
    obtain rfl := td_slice (hK.td.trans htd)
    obtain ⟨info', d', hK'⟩ := hT.known_size (t := et) (by omega)
    have hzero := hK'.zero hz
    have e1 := hx.int
    have e2 := hy.int
    obtain ⟨z, hzc⟩ : ∃ z, zcells (tiOf S.E et).ty = [z] := by
      have := (zcells_ok (w := w) (U := U) (β := β) (H := s.heap) _ hz).len
      rw [hcs] at this
      exact List.length_eq_one_iff.1 this
    have hzv : (zval (tiOf S.E et).ty).cells = #[z] := by
      apply Array.ext'
      rw [zval_cells _ hz, hzc]
    have hcb : nn.toNat ≤ maxRoom := by
      have : nn.toNat * 1 ≤ nn.toNat * (tiOf S.E et).bytes := Nat.mul_le_mul_left _ hby
      omega
    unfold maxRoom at hcb hroom
    have w1 : IntKind.i64.wrap nn = nn := by rw [IntKind.wrap_i64]; omega
    have hcI : (info'.bytes : Int) * nn ≤ 140737488355328 := by
      rw [hK'.bytes]
      have e1 : nn = (nn.toNat : Int) := by omega
      rw [e1]
      have : ((nn.toNat * (tiOf S.E et).bytes : Nat) : Int) ≤ 140737488355328 := Int.ofNat_le.2 hroom
      rw [Int.natCast_mul] at this
      rw [Int.mul_comm]; exact this
    have hz0 : ∀ w : World, (zeroValue et).run S.P w = .ok (zval (tiOf S.E et).ty) w := fun w => by
      simp [zeroValue, typeInfo, hK'.inf, hzero]
    have hrun : (execOp a.eval o).run S.P w = .ok (.value (.slice (some ⟨w.heap.size, 0, none⟩) nn.toNat nn.toNat)) (w.alloc (.cells (Array.replicate nn.toNat z) et)) := by
      have c1 : ¬ (nn < 0) := by omega
      have c2 : ¬ ((info'.bytes : Int) * nn > 2 ^ 48) := by omega
      have c4 : ¬ (nn > nn) := by omega
      simp only [execOp, hop, e1, e2]
      simp only [Instr.makeSlice, Sem.run_bind, hK.runU, Result.andThen_ok, asInt, asIntOf, Sem.run_pure, run_typeInfo w hK'.inf, w1, Sem.run_ite]
      simp only [c1, c2, c4, decide_false, Bool.or_self, Bool.false_eq_true, if_false, run_askRoom, Result.andThen_ok, hK'.runS, hsz, Nat.mul_one]
      by_cases h0 : nn.toNat = 0
      · have hr0 : Array.map (fun _ => (default : Value)) (Array.range 0) = #[] := by apply Array.ext'; simp
        have hnr : ∀ c : Array Value, (newRow et c).run S.P w = .ok ⟨w.heap.size, 0, none⟩ (w.alloc (.cells c et)) := fun c => rfl
        simp [h0, hr0, hnr]
      · have hnr : ∀ c : Array Value, (newRow et c).run S.P w = .ok ⟨w.heap.size, 0, none⟩ (w.alloc (.cells c et)) := fun c => rfl
        simp only [h0, if_false, Sem.run_bind, hz0, Result.andThen_ok, Sem.run_pure, hzv, size_zeros, hnr]
    unfold Oper.wp
    rw [hrun]
    have hbel := below_new w (.cells (Array.replicate nn.toNat z) et)
    have hA : Adv w U β s.heap (w.alloc (.cells (Array.replicate nn.toNat z) et)) U (setB β s.heap.length ⟨some w.heap.size, nn.toNat⟩) (s.heap ++ [⟨.row (tiOf S.E et).ty, List.replicate nn.toNat (tiOf S.E et).ty.dflt⟩]) s.app := Adv.push hR.wrel.uin hbel _ _ (fun b e => by cases e; exact Nat.le_refl _)
    have hP := hR.push hbel (x := ⟨.row (tiOf S.E et).ty, List.replicate nn.toNat (tiOf S.E et).ty.dflt⟩) (bl := ⟨some w.heap.size, nn.toNat⟩) (fun b e => by cases e; exact Nat.le_refl _) (by
      unfold ObjAt
      rw [hget_append_at]
      refine ⟨helem, .inr ⟨w.heap.size, _, et, (0, 0), by simp [setB], hR.wrel.below.size, fun hu => by have := hR.wrel.uin _ hu; omega, heap_alloc_at w _, ?_, by simp [setB], fun j _ => by simp, fun i hi => ?_⟩⟩
      · simp [setB, hcs]
      · have hi' : i < nn.toNat := by simpa using hi
        refine ⟨[z], ?_, fun j hj => ?_⟩
        · rw [List.getElem_replicate, ← hzc]
          exact zcells_ok _ hz
        · obtain rfl : j = 0 := by simpa using hj
          rw [hcs]
          simp [hi'])
    refine putC_ok hn hP (.inr ⟨rfl, ?_⟩) hA (fun _ _ h => h) hk2
    simp only [EncM, Value.cells]
    exact ⟨(tiOf S.E et).ty, List.replicate nn.toNat (tiOf S.E et).ty.dflt, by simp, hget_append_at, by simp [setB]⟩
  · cases hk
end
end Go.Dp
/- Writing to the machine's own objects. -/
set_option autoImplicit false
set_option linter.unusedVariables false
set_option linter.unusedSimpArgs false
namespace Go.Dp
open Go.RowKit

theorem hget_hset_same : ∀ (H : Heap) (id : Nat) (x : TV), id < H.length → hget (hset H id x) id = x := by
  intro H
  induction H with
  | nil => intro id x h; simp at h
  | cons y l ih =>
    intro id x h
    cases id with
    | zero => rfl
    | succ id => simp only [hset, hget]; exact ih id x (by simpa using h)
theorem hget_hset_ne : ∀ (H : Heap) (id i : Nat) (x : TV), i ≠ id → hget (hset H id x) i = hget H i := by
  intro H
  induction H with
  | nil => intro id i x _; rfl
  | cons y l ih =>
    intro id i x h
    cases id with
    | zero =>
      cases i with
      | zero => exact absurd rfl h
      | succ i => rfl
    | succ id =>
      cases i with
      | zero => rfl
      | succ i => simp only [hset, hget]; exact ih id i x (by omega)
theorem length_hset : ∀ (H : Heap) (id : Nat) (x : TV), (hset H id x).length = H.length := by
  intro H
  induction H with
  | nil => intro id x; rfl
  | cons y l ih =>
    intro id x
    cases id with
    | zero => rfl
    | succ id => simp [hset, ih]

section
variable {S : Base} {n : Nat} {U U' : Nat → Prop} {β β' : Nat → Blk} {H H' : Heap} {w w' : World} {app : List Nat}

/-- What may replace an object's content: a row of as many elements of the kind, a variable of the same shape. -/
def Fits (x y : TV) : Prop := (∀ e xs, x = ⟨.row e, xs⟩ → ∃ ys, y = ⟨.row e, ys⟩ ∧ ys.length = xs.length) ∧ ((∀ e xs, x ≠ ⟨.row e, xs⟩) → y.t.shape = x.t.shape ∧ ∀ e ys, y ≠ ⟨.row e, ys⟩)

theorem Adv.set {id : Nat} {y : TV} (hid : id < H.length) (hU : ∀ b, U b → w'.heap[b]? = w.heap[b]?) (hk : ∀ c, c < w.heap.size → (β id).blk ≠ some c → w'.heap[c]? = w.heap[c]?) (hf : Fits (hget H id) y) : Adv w U β H w' U β (hset H id y) app where
  use _ h := h
  same b h := hU b h
  len := by rw [length_hset]; exact Nat.le_refl _
  row i e xs hl he := by
    by_cases e' : i = id
    · subst e'
      obtain ⟨ys, h1, h2⟩ := hf.1 e xs he
      exact ⟨ys, by rw [hget_hset_same _ _ _ hid]; exact h1, fun _ => ⟨h2, rfl⟩⟩
    · exact ⟨xs, by rw [hget_hset_ne _ _ _ _ e']; exact he, fun _ => ⟨rfl, rfl⟩⟩
  box i hl hn := by
    by_cases e' : i = id
    · subst e'
      obtain ⟨h1, h2⟩ := hf.2 hn
      rw [hget_hset_same _ _ _ hid]
      exact ⟨rfl, h1, h2⟩
    · rw [hget_hset_ne _ _ _ _ e']
      exact ⟨rfl, rfl, hn⟩
  keep b hb hu hn := ⟨hk b hb (hn id hid), hu, fun i hi => hn i (by rw [length_hset] at hi; exact hi)⟩

/-- One object's block is written. -/
theorem WRel.update (h : WRel S U β H w) {id b : Nat} {y : TV} (hid : id < H.length) (hb : (β id).blk = some b) (hbel : Below b w w') (hsame : ∀ c, c ≠ b → w'.heap[c]? = w.heap[c]?) (hf : Fits (hget H id) y)
    (ho : ObjAt w' U β (hset H id y) S.w0.heap.size id) : WRel S U β (hset H id y) w' ∧ ∀ app, Adv w U β H w' U β (hset H id y) app := by
  obtain ⟨hlt, hge, hnU⟩ := h.blk_lt hid hb
  have hU : ∀ c, U c → w'.heap[c]? = w.heap[c]? := fun c hc => hsame c fun e => hnU (e ▸ hc)
  have hA : ∀ app, Adv w U β H w' U β (hset H id y) app := fun app => Adv.set hid hU (fun c _ hc => hsame c fun e => hc (by rw [e]; exact hb)) hf
  refine ⟨⟨⟨fun i hi => ?_, ?_⟩, h.below.trans (hbel.mono hge), fun c hc => Nat.lt_of_lt_of_le (h.uin c hc) hbel.size, h.uold, fun g x hx => ?_⟩, hA⟩
  · rw [length_hset] at hi
    by_cases e : i = id
    · subst e; exact ho
    · refine (h.heap.obj i hi).adv (hA []) (hget_hset_ne _ _ _ _ e) rfl (fun c hc => ?_) (avoidsO_nil _)
      exact ⟨hsame c fun e' => e (h.heap.inj i id c hi hid hc (e' ▸ hb)), (h.blk_lt hi hc).2.2⟩
  · rw [length_hset]; exact h.heap.inj
  · rcases h.globs g x hx with e | ⟨e1, e2, e3⟩
    · exact .inl e
    · exact .inr ⟨e1, e2, e3.adv (hA []) (avoids_nil _)⟩

theorem noTup_cells {w : World} {U : Nat → Prop} {β : Nat → Blk} {H : Heap} : ∀ (t : Ty) (x : t.den) (l : List Value), t.noTup = true → EncM w U β H false t x l → ∀ v ∈ l, v.oneCell' = true := by
  intro t
  induction t with
  | scons a r iha ihr =>
    intro x l hn h v hv
    simp only [EncM] at h
    obtain ⟨l1, l2, rfl, h1, h2⟩ := h
    simp only [Ty.noTup, Bool.and_eq_true] at hn
    rcases List.mem_append.1 hv with hv | hv
    · exact iha _ _ hn.1 h1 v hv
    · exact ihr _ _ hn.2 h2 v hv
  | arr m e ih =>
    intro x l hn h v hv
    simp only [EncM] at h
    obtain ⟨_, h1, h2, h3⟩ := h
    simp only [Ty.noTup] at hn
    obtain ⟨i, hi, rfl⟩ := List.getElem_of_mem hv
    have hpos : 0 < e.csize := by
      rcases Nat.eq_zero_or_pos e.csize with h0 | h0
      · rw [h0, Nat.mul_zero] at h1; omega
      · exact h0
    have hd : i / e.csize < m := by
      rw [Nat.div_lt_iff_lt_mul hpos]; omega
    have := ih _ _ hn (h3 (i / e.csize) (by rw [h2]; exact hd)) l[i] ?_
    · exact this
    · have hm := Nat.div_add_mod i e.csize
      have hlt := Nat.mod_lt i hpos
      rw [List.mem_iff_getElem]
      have hle : i / e.csize * e.csize + e.csize ≤ l.length := by
        rw [h1, ← Nat.succ_mul]; exact Nat.mul_le_mul_right _ hd
      refine ⟨i % e.csize, by simp; omega, ?_⟩
      simp only [List.getElem_take, List.getElem_drop]
      congr 1
      rw [Nat.mul_comm]; omega
  | tup r ih => intro x l hn; simp [Ty.noTup] at hn
  | snil => intro x l hn h v hv; simp only [EncM] at h; subst h; simp at hv
  | unk => intro x l hn h v hv; simp only [EncM] at h; obtain ⟨v', rfl, h⟩ := h; simp at hv; subst hv; exact h
  | int k => intro x l hn h v hv; simp only [EncM] at h; subst h; simp at hv; subst hv; rfl
  | bool => intro x l hn h v hv; simp only [EncM] at h; subst h; simp at hv; subst hv; rfl
  | str => intro x l hn h v hv; simp only [EncM] at h; subst h; simp at hv; subst hv; rfl
  | nilf => intro x l hn h v hv; simp only [EncM] at h; subst h; simp at hv; subst hv; rfl
  | nilp => intro x l hn h v hv; simp only [EncM] at h; subst h; simp at hv; subst hv; rfl
  | nili => intro x l hn h v hv; simp only [EncM] at h; subst h; simp at hv; subst hv; rfl
  | nils => intro x l hn h v hv; simp only [EncM] at h; obtain ⟨c, rfl⟩ := h; simp at hv; subst hv; rfl
  | list e ih => intro x l hn h v hv; simp only [EncM] at h; obtain ⟨A, c, rfl, _⟩ := h; simp at hv; subst hv; rfl
  | xls e ih => intro x l hn h v hv; simp only [EncM] at h; obtain ⟨A, c, rfl, _⟩ := h; simp at hv; subst hv; rfl
  | hl r ih => intro x l hn h v hv; simp only [EncM] at h; obtain ⟨b, off, c, vs, rfl, _⟩ := h; simp at hv; subst hv; rfl
  | ref r ih => intro x l hn h v hv; simp only [EncM] at h; obtain ⟨b, off, cs, rfl, _⟩ := h; simp at hv; subst hv; rfl
  | fn f c ih => intro x l hn h v hv; simp only [EncM] at h; obtain ⟨vs, rfl, _⟩ := h; simp at hv; subst hv; rfl
  | iface t y ih => intro x l hn h v hv; simp only [EncM] at h; obtain ⟨y, rfl, _⟩ := h; simp at hv; subst hv; rfl
  | loc id ix p => intro x l hn h v hv; simp only [EncM] at h; obtain ⟨b, off, rfl, _⟩ := h; simp at hv; subst hv; rfl
  | selfp id T => intro x l hn h v hv; simp only [EncM] at h; obtain ⟨_, _, _, rfl | ⟨b, _, rfl⟩⟩ := h <;> (simp at hv; subst hv; rfl)
  | slw id => intro x l hn h v hv; simp only [EncM] at h; obtain ⟨e, xs, _, _, rfl⟩ := h; simp at hv; subst hv; rfl
  | slv id => intro x l hn h v hv; simp only [EncM] at h; obtain ⟨e, xs, A, c, _, _, rfl, _⟩ := h; simp at hv; subst hv; rfl
  | row e ih => intro x l hn h; simp [EncM] at h
  | mobj k v ihk ihv => intro x l hn h; simp [EncM] at h
  | sint k => intro x l hn h v hv; simp only [EncM] at h; obtain ⟨n, rfl⟩ := h; simp at hv; subst hv; rfl
  | fnu fs => intro x l hn h v hv; simp only [EncM] at h; obtain ⟨f, _, rfl⟩ := h; simp at hv; subst hv; rfl
  | bm f c ih => intro x l hn h v hv; simp only [EncM] at h; obtain ⟨vs, rfl, _⟩ := h; simp at hv; subst hv; rfl
  | mapp id => intro x l hn h v hv; simp only [EncM] at h; obtain ⟨_, _, b, _, rfl⟩ := h; simp at hv; subst hv; rfl
  | iter => intro x l hn h; simp [EncM] at h

/-- The cells of a block behind a row of stores. -/
theorem setCells_heap (b : Nat) : ∀ (vs : List Value) (o : Nat) (w : World) (arr : Array Value) (el : TypeId) (fr : Nat × Nat), w.heap[b]? = some (.cells arr el fr) →
    ∃ arr', (w.setCells b o vs).heap[b]? = some (.cells arr' el fr) ∧ arr'.size = arr.size ∧ (∀ i, arr'[i]? = if o ≤ i ∧ i < o + vs.length ∧ i < arr.size then vs[i - o]? else arr[i]?) ∧
      (∀ c, c ≠ b → (w.setCells b o vs).heap[c]? = w.heap[c]?) ∧ (w.setCells b o vs).heap.size = w.heap.size ∧ (w.setCells b o vs).os = w.os ∧ (w.setCells b o vs).tape = w.tape ∧ (w.setCells b o vs).output = w.output := by
  intro vs
  induction vs with
  | nil =>
    intro o w arr el fr h
    exact ⟨arr, h, rfl, fun i => by rw [if_neg (by simp; omega)], fun _ _ => rfl, rfl, rfl, rfl, rfl⟩
  | cons v vs ih =>
    intro o w arr el fr h
    have h1 : (w.setCell ⟨b, o, none⟩ v).heap[b]? = some (.cells (arr.setIfInBounds o v) el fr) := by
      simp [World.setCell, Array.getElem?_modify, h]
    obtain ⟨arr', h2, h3, h4, h5, h6, h7, h8, h9⟩ := ih (o + 1) (w.setCell ⟨b, o, none⟩ v) _ el fr h1
    refine ⟨arr', h2, by rw [h3]; simp, fun i => ?_, fun c hc => ?_, ?_, h7, h8, h9⟩
    · rw [h4]
      simp only [Array.size_setIfInBounds, List.length_cons]
      by_cases ho : o = i
      · subst ho
        rw [if_neg (by omega)]
        by_cases hi : o < arr.size
        · rw [if_pos ⟨Nat.le_refl _, by omega, hi⟩]; simp [hi]
        · rw [if_neg (by omega)]; simp [Array.getElem?_setIfInBounds, hi]
      · by_cases hi : o + 1 ≤ i ∧ i < o + 1 + vs.length ∧ i < arr.size
        · rw [if_pos hi, if_pos (by omega)]
          have : i - o = (i - (o + 1)) + 1 := by omega
          rw [this, List.getElem?_cons_succ]
        · rw [if_neg hi, if_neg (by omega), Array.getElem?_setIfInBounds_ne ho]
    · exact (h5 c hc).trans (Below.heap_setCell _ _ _ _ (by simpa using hc))
    · rw [show (w.setCells b o (v :: vs)) = (w.setCell ⟨b, o, none⟩ v).setCells b (o + 1) vs from rfl, h6]
      simp [World.setCell]
end
end Go.Dp
/- Stores. -/
set_option autoImplicit false
set_option linter.unusedVariables false
set_option linter.unusedSimpArgs false
namespace Go.Dp
open Go.RowKit

section
variable {S : Base} {n : Nat} {U : Nat → Prop} {β : Nat → Blk} {s : St} {a : Act} {w : World} {α : Type} {k : St → Option α} {r : α} {h : Hint} {Q : Exit → Act → World → Prop} {o : Oper}

theorem splice_toList {arr arr' : Array Value} {l1 m l2 vs : List Value} (ha : arr.toList = l1 ++ m ++ l2) (hm : vs.length = m.length) (hs : arr'.size = arr.size)
    (hg : ∀ i, arr'[i]? = if l1.length ≤ i ∧ i < l1.length + vs.length ∧ i < arr.size then vs[i - l1.length]? else arr[i]?) : arr'.toList = l1 ++ vs ++ l2 := by
  have hsz : arr.size = l1.length + m.length + l2.length := by rw [← Array.length_toList, ha]; simp; omega
  apply List.ext_getElem?
  intro i
  rw [Array.getElem?_toList, hg]
  by_cases h1 : i < l1.length
  · rw [if_neg (by omega), ← Array.getElem?_toList, ha, List.append_assoc, List.append_assoc, List.getElem?_append_left h1, List.getElem?_append_left h1]
  · by_cases h2 : i < l1.length + vs.length
    · rw [if_pos (by omega), List.append_assoc, List.getElem?_append_right (by omega), List.getElem?_append_left (by omega)]
    · rw [if_neg (by omega), ← Array.getElem?_toList, ha, List.append_assoc, List.append_assoc, List.getElem?_append_right (by omega), List.getElem?_append_right (by omega),
        List.getElem?_append_right (by omega), List.getElem?_append_right (by omega)]
      congr 1
      omega

theorem run_storeAt {P : Program} {E : Env} {t : Nat} {info : TypeInfo} {d : TypeDesc} (hK : Known P E t info d) {b off : Nat} {v : Value} (hv : v.cells.size = (tiOf E t).size) {arr : Array Value} {el : TypeId} {fr : Nat × Nat}
    (hb : w.heap[b]? = some (.cells arr el fr)) (hfr : ∀ j, j < arr.size → ¬ (fr.1 ≤ j ∧ j < fr.2)) (hfit : off + v.cells.size ≤ arr.size) (h1 : ∀ x ∈ v.cells.toList, x.oneCell' = true) :
    (Instr.storeAt t (.pointer (some ⟨b, off, none⟩)) v).run P w = .ok () (w.setCells b off v.cells.toList) := by
  have hst := run_storeCells_cells (P := P) b off v.cells.toList 0 w (fun j hj => by
    simp only [World.cell?, hb]
    simp at hj
    have : off + j < arr.size := by omega
    simp [this]) (fun j hj => by
    simp at hj
    have := hfr (off + j) (by omega)
    simp only [World.frozen?, hb]
    simp
    intro h2
    simp at this
    omega) h1
  simp only [Nat.add_zero] at hst
  simp only [Instr.storeAt, Sem.run_bind, asAddr_ptr, Result.andThen_ok, storeVar, hK.runS, ne_eq, hv, not_true_eq_false, if_false]
  simpa using hst

theorem storeC_ok (hT : TIok S.P S.E) (hn : h.n = n) (hR : FRel S n U β s a w) {t : Nat} {x y : Operand} (hop : o.op = .store t x y)
    (hk : storeC S.E s t (ev S.E s 0 x) (ev S.E s t y) (fun s => putC h s o.dst .unk k) = some r) : o.wp S.P a w (Handed S n U β s w k r) Q := by
  have hx := hR.ev 0 x
  have hy := hR.ev t y
  generalize ev S.E s 0 x = X at hx hk
  generalize ev S.E s t y = Y at hy hk
  unfold storeC at hk
  obtain ⟨h1, hk⟩ := bif_some hk
  obtain ⟨h1, hnt⟩ := and2 h1
  obtain ⟨h1, hu⟩ := and2 h1
  obtain ⟨hs, ha⟩ := and2 h1
  have hs := beqN hs
  have ha := beqB ha
  have hu : Y.t.isUnk = false := by simpa using hu
  obtain ⟨info, d, hK⟩ := hT.known_fit hs ha
  have hyE := (hy.resolve_left (by rw [hu]; simp)).2
  have hysz : (a.eval y).cells.size = (tiOf S.E t).size := by rw [← Array.length_toList, hyE.len, hs]
  have hone := noTup_cells _ _ _ hnt hyE
  obtain ⟨T, xx⟩ := X
  cases T with
  | loc id ix post =>
    change Nat at xx
    have hm := hx.one rfl rfl
    simp only [EncM] at hm
    obtain ⟨b, off, hv, hl⟩ := hm
    have hv := (List.cons.inj hv).1
    have hfin : ∀ {s' : St} {w' : World}, (Instr.storeAt t (.pointer (some ⟨b, off, none⟩)) (a.eval y)).run S.P w = .ok () w' → FRel S n U β s' a w' → Adv w U β s.heap w' U β s'.heap s'.app → s'.app = s.app → putC h s' o.dst .unk k = some r →
        o.wp S.P a w (Handed S n U β s w k r) Q := by
      intro s' w' hrun hR' hA happ hk
      unfold Oper.wp
      have : (execOp a.eval o).run S.P w = .ok .skip w' := by
        simp only [execOp, hop, hv, Sem.run_bind, hrun, Result.andThen_ok, Sem.run_pure]
      rw [this]
      exact putC_ok hn hR' (.unk _) hA (fun _ _ h => by rw [happ]; exact h) hk
    cases ix with
    | false =>
      simp only at hk
      obtain ⟨h1, hk⟩ := bif_some hk
      obtain ⟨hsh, hnp, hny⟩ := and3 h1
      have hsh := decT hsh
      have hnp : (partAt (hget s.heap id).t (hget s.heap id).v post).t.isObj = false := by simpa using hnp
      obtain ⟨hid, hb, hnr, hpo, hof⟩ := hl
      have hobj : (hget s.heap id).t.isObj = false := by
        rcases notRow_iter (hget s.heap id).t with ⟨e, he⟩ | (he | ⟨K, V, he⟩) | he
        · generalize hz : hget s.heap id = z at *
          obtain ⟨t, v⟩ := z
          simp only at he
          subst he
          exact absurd rfl (hnr e v)
        · cases post with
          | nil => simp only [partAt] at hnp; exact hnp
          | cons f p => rw [he] at hpo; simp [pathOK, chLen] at hpo
        · cases post with
          | nil => simp only [partAt] at hnp; exact hnp
          | cons f p => rw [he] at hpo; simp [pathOK, chLen] at hpo
        · exact he
      obtain ⟨b', cs, el, fr, h4, hge, hnU, h5, hfr, h6, hcap⟩ := (hR.wrel.heap.obj id hid).box hobj
      obtain rfl : b' = b := by rw [h4] at hb; exact Option.some.inj hb
      obtain ⟨l1, m, l2, h7, h8, h9, h10⟩ := partAt_split post _ _ _ hpo h6
      have hml : m.length = (a.eval y).cells.size := by
        rw [h9.len, hysz, ← hs, ← csize_shape, hsh, csize_shape]
      have hcsz : cs.size = l1.length + m.length + l2.length := by rw [← Array.length_toList, h7]; simp; omega
      have hrun := run_storeAt (w := w) hK (b := b') (off := off) hysz h5 hfr (by rw [hof, ← h8]; omega) hone
      obtain ⟨arr', g1, g2, g3, g4, g5, g6, g7, g8⟩ := setCells_heap b' (a.eval y).cells.toList off w cs el fr h5
      have htl : arr'.toList = l1 ++ (a.eval y).cells.toList ++ l2 := splice_toList h7 (by simpa using hml.symm) g2 (by rw [h8, ← hof]; exact g3)
      have hsetsh : (setAt post (hget s.heap id).t (hget s.heap id).v Y).t.shape = (hget s.heap id).t.shape := setAt_shape post _ _ Y hpo (by rw [← hsh, partAt_ty])
      have hsetobj : (setAt post (hget s.heap id).t (hget s.heap id).v Y).t.isObj = false := by
        cases post with
        | nil => simpa [setAt] using hny
        | cons f p =>
          have : (setAt (f :: p) (hget s.heap id).t (hget s.heap id).v Y).t.isAgg = true := by
            simp only [setAt]
            simp only [pathOK, Bool.and_eq_true] at hpo
            exact chSet_agg _ _ f _ (by simpa using hpo.1)
          generalize (setAt (f :: p) (hget s.heap id).t (hget s.heap id).v Y).t = T at this
          cases T <;> simp_all [Ty.isAgg, Ty.isObj]
      have hfits : Fits (hget s.heap id) (setAt post (hget s.heap id).t (hget s.heap id).v Y) := by
        refine ⟨fun e xs he => absurd he (hnr e xs), fun _ => ⟨hsetsh, fun e ys he => ?_⟩⟩
        rw [he] at hsetobj; cases hsetobj
      have hnew := h10 Y _ hyE
      have hbel : Below b' w (w.setCells b' off (a.eval y).cells.toList) := ⟨g6, g7, g8, by rw [g5]; exact Nat.le_refl _, fun c hc => g4 c (by omega)⟩
      have hAdv0 : Adv w U β s.heap (w.setCells b' off (a.eval y).cells.toList) U β (hset s.heap id (setAt post (hget s.heap id).t (hget s.heap id).v Y)) [] :=
        Adv.set hid (fun c hc => g4 c fun e => hnU (e ▸ hc)) (fun c _ hc => g4 c fun e => hc (by rw [e]; exact hb)) hfits
      obtain ⟨hW, hA⟩ := hR.wrel.update hid hb hbel g4 hfits (by
        unfold ObjAt
        rw [hget_hset_same _ _ _ hid]
        have key : ∃ b cs el fr, (β id).blk = some b ∧ S.w0.heap.size ≤ b ∧ ¬ U b ∧ (w.setCells b' off (a.eval y).cells.toList).heap[b]? = some (.cells cs el fr) ∧ (∀ j, j < cs.size → ¬ (fr.1 ≤ j ∧ j < fr.2)) ∧
            EncM (w.setCells b' off (a.eval y).cells.toList) U β (hset s.heap id (setAt post (hget s.heap id).t (hget s.heap id).v Y)) false (setAt post (hget s.heap id).t (hget s.heap id).v Y).t (setAt post (hget s.heap id).t (hget s.heap id).v Y).v cs.toList ∧ (β id).cap = el :=
          ⟨b', arr', el, fr, hb, hge, hnU, g1, by rw [g2]; exact hfr, by rw [htl]; exact hnew.adv hAdv0 _ _ _ _ (avoids_nil _), hcap⟩
        generalize setAt post (hget s.heap id).t (hget s.heap id).v Y = z at *
        obtain ⟨t, v⟩ := z
        cases t <;> first | (simp [Ty.isObj] at hsetobj; done) | exact key)
      exact hfin (s' := ⟨s.regs, hset s.heap id (setAt post (hget s.heap id).t (hget s.heap id).v Y), s.app⟩) hrun ⟨hR.defers, hR.size, fun i => (hR.regs i).adv (hA []) (avoids_nil _), hW⟩ (hA _) rfl hk
    | true =>
      simp only at hk
      split at hk
      · rename_i e xs he
        split at hk
        · rename_i z hz
          have hz := cast_some hz
          obtain ⟨hid, hb, e', xs', he', hi, hpo, hof⟩ := hl
          rw [he] at he'
          cases he'
          obtain ⟨helem, hrow⟩ := (hR.wrel.heap.obj id hid).row he
          rcases hrow with ⟨hb', _, _⟩ | ⟨b', arr, el, fr, hb', hge, hnU, hw, hsz, hcap, hfr, hel⟩
          · rw [hb'] at hb; cases hb
          · obtain rfl : b' = b := by rw [hb'] at hb; exact Option.some.inj hb
            have hgd : xs.getD xx e.dflt = xs[xx] := getD_at xs xx _ hi
            rw [hgd] at hz
            obtain ⟨cs, hcs, hat⟩ := hel xx hi
            obtain ⟨l1, m, l2, h7, h8, h9, h10⟩ := partAt_split post _ _ _ hpo hcs
            have hnew := h10 Y _ hyE
            rw [hz] at hnew
            have hnl : _ = e.csize := hnew.len
            have hcl : cs.length = e.csize := hcs.len
            have hlen7 : cs.length = l1.length + m.length + l2.length := by rw [h7]; simp; omega
            have hnl' : l1.length + (a.eval y).cells.size + l2.length = e.csize := by
              rw [← hnl]; simp; omega
            have hml : m.length = (a.eval y).cells.size := by omega
            have hle : xx * e.csize + e.csize ≤ arr.size := by
              rw [hsz, ← Nat.succ_mul]; exact Nat.mul_le_mul_right _ (by omega)
            have hrun := run_storeAt (w := w) hK (b := b') (off := off) hysz hw hfr (by rw [hof, ← h8]; omega) hone
            obtain ⟨arr', g1, g2, g3, g4, g5, g6, g7, g8⟩ := setCells_heap b' (a.eval y).cells.toList off w arr el fr hw
            have hfits : Fits (hget s.heap id) ⟨.row e, xs.set xx z⟩ := by
              rw [he]
              exact ⟨fun e'' xs'' he'' => by cases he''; exact ⟨_, rfl, by simp⟩, fun hn => absurd rfl (hn e xs)⟩
            have hbel : Below b' w (w.setCells b' off (a.eval y).cells.toList) := ⟨g6, g7, g8, by rw [g5]; exact Nat.le_refl _, fun c hc => g4 c (by omega)⟩
            have hAdv0 : Adv w U β s.heap (w.setCells b' off (a.eval y).cells.toList) U β (hset s.heap id ⟨.row e, xs.set xx z⟩) [] :=
              Adv.set hid (fun c hc => g4 c fun e => hnU (e ▸ hc)) (fun c _ hc => g4 c fun e => hc (by rw [e]; exact hb)) hfits
            obtain ⟨hW, hA⟩ := hR.wrel.update hid hb hbel g4 hfits (by
              unfold ObjAt
              rw [hget_hset_same _ _ _ hid]
              refine ⟨helem, .inr ⟨b', arr', el, fr, hb, hge, hnU, g1, by rw [g2]; exact hsz, by simpa using hcap, by rw [g2]; exact hfr, fun i hi' => ?_⟩⟩
              simp only [List.length_set] at hi'
              by_cases e' : xx = i
              · subst e'
                refine ⟨l1 ++ (a.eval y).cells.toList ++ l2, ?_, fun j hj => ?_⟩
                · have : (xs.set xx z)[xx]'(by simpa using hi') = z := by simp
                  rw [this]
                  exact hnew.adv hAdv0 _ _ _ _ (avoids_nil _)
                · rw [← List.getElem?_eq_getElem hj]
                  simp only [List.length_append, Array.length_toList] at hj
                  rw [g3, List.append_assoc]
                  by_cases hj1 : j < l1.length
                  · rw [if_neg (by rw [hof, ← h8]; omega), hat j (by omega), List.getElem?_append_left hj1, ← List.getElem?_eq_getElem (by omega), h7, List.append_assoc, List.getElem?_append_left hj1]
                  · by_cases hj2 : j < l1.length + (a.eval y).cells.size
                    · rw [if_pos ⟨by rw [hof, ← h8]; omega, by rw [hof, ← h8]; simp; omega, by omega⟩, List.getElem?_append_right (by omega), List.getElem?_append_left (by simp; omega)]
                      congr 1
                      rw [hof, ← h8]; omega
                    · rw [if_neg (by rw [hof, ← h8]; simp; omega), hat j (by omega), ← List.getElem?_eq_getElem (by omega), h7, List.append_assoc,
                        List.getElem?_append_right (by omega), List.getElem?_append_right (by omega), List.getElem?_append_right (by omega), List.getElem?_append_right (by simp; omega)]
                      congr 1
                      simp; omega
              · obtain ⟨cs', h11, h12⟩ := hel i hi'
                refine ⟨cs', ?_, fun j hj => ?_⟩
                · rw [List.getElem_set_ne e']
                  exact h11.adv hAdv0 _ _ _ _ (avoids_nil _)
                · rw [g3, if_neg, h12 j hj]
                  have hl' := h11.len
                  rw [hof, ← h8]
                  simp only [Array.length_toList]
                  intro hcon
                  rcases Nat.lt_or_gt_of_ne e' with hlt | hlt
                  · have : (xx + 1) * e.csize ≤ i * e.csize := Nat.mul_le_mul_right _ hlt
                    rw [Nat.succ_mul] at this
                    omega
                  · have : (i + 1) * e.csize ≤ xx * e.csize := Nat.mul_le_mul_right _ hlt
                    rw [Nat.succ_mul] at this
                    omega)
            exact hfin (s' := ⟨s.regs, hset s.heap id ⟨.row e, xs.set xx z⟩, s.app⟩) hrun ⟨hR.defers, hR.size, fun i => (hR.regs i).adv (hA []) (avoids_nil _), hW⟩ (hA _) rfl hk
        · cases hk
      · cases hk
  | _ => simp at hk
end
end Go.Dp
/- A string's iterator; bytes and strings. -/
set_option autoImplicit false
set_option linter.unusedVariables false
set_option linter.unusedSimpArgs false
namespace Go.Dp
open Go.RowKit

section
variable {S : Base} {n : Nat} {U : Nat → Prop} {β : Nat → Blk} {s : St} {a : Act} {w : World} {α : Type} {k : St → Option α} {r : α} {h : Hint} {Q : Exit → Act → World → Prop} {o : Oper}

theorem next_ok (hn : h.n = n) (hR : FRel S n U β s a w) {x : Operand} (hop : o.op = .next x true)
    (hk : nextC s (ev S.E s 0 x) (fun s v => putC h s o.dst v k) = some r) : o.wp S.P a w (Handed S n U β s w k r) Q := by
  have hx := hR.ev 0 x
  generalize ev S.E s 0 x = X at hx hk
  obtain ⟨T, xx⟩ := X
  unfold nextC at hk
  split at hk
  · rename_i x' id v' hX
    cases hX
    have hm := hx.one rfl rfl
    simp only [EncM] at hm
    obtain ⟨b, off, hv, hl⟩ := hm
    have hv := (List.cons.inj hv).1
    split at hk
    · rename_i v he
      obtain ⟨hid, hb, _, _, hof⟩ := hl
      have hof : off = 0 := by simpa [pathOff] using hof
      subst hof
      have hob := hR.wrel.heap.obj id hid
      unfold ObjAt at hob
      rw [he] at hob
      obtain ⟨b', hb', hge, hnU, hw⟩ := hob
      obtain rfl : b' = b := by rw [hb'] at hb; exact Option.some.inj hb
      have hsz : (⟨v.1.toArray⟩ : ByteArray).size = v.1.length := by simp [ByteArray.size]
      have hlt : b' < w.heap.size := (Array.getElem?_eq_some_iff.1 hw).1
      cases hd : decide (v.2 < v.1.length) with
      | true =>
        rw [hd] at hk
        simp only [cond_true] at hk
        have hd := decT hd
        let w' : World := { w with heap := w.heap.setIfInBounds b' (.stringIter ⟨v.1.toArray⟩ (v.2 + (Utf8.decode ⟨v.1.toArray⟩ v.2).2)) }
        have hrun : (execOp a.eval o).run S.P w = .ok (.value (.tuple #[.bool true, .int .i64 (v.2 : Int), .int .i32 ((Utf8.decode ⟨v.1.toArray⟩ v.2).1 : Int)])) w' := by
          simp only [execOp, hop, hv, Instr.next, getObj, setObj, Sem.run_bind, Sem.run, hw, Result.andThen_ok, hsz, hd, if_true, Sem.run_pure, goInt]
          rfl
        unfold Oper.wp
        rw [hrun]
        have hsame : ∀ c, c ≠ b' → w'.heap[c]? = w.heap[c]? := fun c hc => by
          show (w.heap.setIfInBounds b' _)[c]? = w.heap[c]?
          exact Array.getElem?_setIfInBounds_ne (by omega)
        have hbel : Below b' w w' := ⟨rfl, rfl, rfl, by simp [w'], fun c hc => hsame c (by omega)⟩
        have hfits : Fits (hget s.heap id) ⟨.iter, (v.1, v.2 + (Utf8.decode ⟨v.1.toArray⟩ v.2).2)⟩ := by
          rw [he]
          exact ⟨fun e xs h => (by cases h), fun _ => ⟨rfl, fun e ys h => (by cases h)⟩⟩
        obtain ⟨hW, hA⟩ := hR.wrel.update hid hb' hbel hsame hfits (by
          unfold ObjAt
          rw [hget_hset_same _ _ _ hid]
          refine ⟨b', hb', hge, hnU, ?_⟩
          show (w.heap.setIfInBounds b' _)[b']? = _
          simp [hlt])
        refine putC_ok (s1 := ⟨s.regs, hset s.heap id ⟨.iter, (v.1, v.2 + (Utf8.decode ⟨v.1.toArray⟩ v.2).2)⟩, s.app⟩) hn ⟨hR.defers, hR.size, fun i => (hR.regs i).adv (hA []) (avoids_nil _), hW⟩ (.inr ⟨rfl, ?_⟩) (hA _) (fun _ _ h => h) hk
        simp only [EncM, Value.cells]
        exact ⟨_, rfl, .bool true, _, rfl, .inr ⟨rfl, by simp [EncM, Value.cells]⟩, .int .i64 v.2, _, rfl, .inr ⟨rfl, by simp [EncM, Value.cells]⟩, _, _, rfl, .inr ⟨rfl, by simp [EncM, Value.cells]⟩, rfl⟩
      | false =>
        rw [hd] at hk
        simp only [cond_false] at hk
        have hd : ¬ v.2 < v.1.length := by simpa using hd
        have hrun : (execOp a.eval o).run S.P w = .ok (.value (.tuple #[.bool false])) w := by
          simp only [execOp, hop, hv, Instr.next, getObj, Sem.run_bind, Sem.run, hw, Result.andThen_ok, hsz, hd, if_false, Sem.run_pure]
        refine value_ok hn hR hrun (.inr ⟨rfl, ?_⟩) hk
        simp only [EncM, Value.cells]
        exact ⟨_, rfl, .bool false, _, rfl, .inr ⟨rfl, by simp [EncM, Value.cells]⟩, rfl⟩
    · cases hk
  · cases hk

/-- A row's cells as one list. -/
theorem rowCells {w : World} {U : Nat → Prop} {β : Nat → Blk} {H : Heap} {e : Ty} {xs : List e.den} {b off : Nat} (h : ∀ i (hi : i < xs.length), ∃ cs, EncM w U β H false e xs[i] cs ∧ cellsAt w b (off + i * e.csize) cs) :
    ∃ news : List Value, news.length = xs.length * e.csize ∧ cellsAt w b off news ∧ ∀ i (hi : i < xs.length), ∃ cs, EncM w U β H false e xs[i] cs ∧ ∀ j (hj : j < cs.length), news[i * e.csize + j]? = some cs[j] := by
  have hk : ∀ k, k < xs.length * e.csize → ∃ v, w.cell? ⟨b, off + k, none⟩ = some v := by
    intro k hk
    have hpos : 0 < e.csize := by
      rcases Nat.eq_zero_or_pos e.csize with h0 | h0
      · rw [h0, Nat.mul_zero] at hk; omega
      · exact h0
    obtain ⟨cs, h1, h2⟩ := h (k / e.csize) (by rw [Nat.div_lt_iff_lt_mul hpos]; exact hk)
    have h3 := h2 (k % e.csize) (by rw [h1.len]; exact Nat.mod_lt _ hpos)
    have h4 := Nat.div_add_mod k e.csize
    rw [Nat.add_assoc, Nat.mul_comm, h4] at h3
    exact ⟨_, h3⟩
  refine ⟨(List.range (xs.length * e.csize)).map fun k => (w.cell? ⟨b, off + k, none⟩).getD undef, by simp, fun j hj => ?_, fun i hi => ?_⟩
  · simp only [List.length_map, List.length_range] at hj
    obtain ⟨v, hv⟩ := hk j hj
    simp [hv]
  · obtain ⟨cs, h1, h2⟩ := h i hi
    refine ⟨cs, h1, fun j hj => ?_⟩
    have hl := h1.len
    have hlt : i * e.csize + j < xs.length * e.csize := by
      have : (i + 1) * e.csize ≤ xs.length * e.csize := Nat.mul_le_mul_right _ hi
      rw [Nat.succ_mul] at this
      omega
    have h3 := h2 j hj
    rw [Nat.add_assoc] at h3
    simp [hlt, h3]

theorem first_ok {P : Program} {w w' : World} {b off n c size : Nat} {news : List Value} (hl : news.length = n * size) (h : cellsAt w b off news) (hw : (∃ o, w.heap[b]? = some o) → w'.heap[b]? = w.heap[b]?) :
    (Builtin.firstCells size n (.slice (some ⟨b, off, none⟩) n c)).run P w' = .ok news.toArray w' := by
  have hb : ∀ j v, news[j]? = some v → w'.cell? ((⟨b, off, none⟩ : Addr).add j) = some v := by
    intro j v hj
    obtain ⟨hj', rfl⟩ := List.getElem?_eq_some_iff.1 hj
    rw [addr_add]
    have := h j hj'
    rw [← this]
    have hlt := World.block_lt_of_cell? w _ this
    exact World.cell?_of_block (hw ⟨_, Array.getElem?_eq_getElem hlt⟩)
  have := run_loadCells_list (P := P) w' _ _ hb
  rw [hl] at this
  simpa [Builtin.firstCells] using this

/-- The elements of what is appended or turned into a string: its length, and its cells, in the world and behind a draw. -/
theorem elemsC_ok {P : Program} {E : Env} {e : Ty} {X : TV} {vx : Value} {k : List e.den → Option α} {B : Nat} (hH : HRel w U β s.heap B) (hx : EncV w U β s.heap X vx) (h : elemsC s e X k = some r) :
    ∃ (ys : List e.den) (news : List Value) (m : Nat), k ys = some r ∧ ys.length = m ∧ (∀ w' : World, (Builtin.lenOf vx).run P w' = .ok m w') ∧ news.length = m * e.csize ∧
      (∀ w' : World, (∀ b : Nat, (∃ o, w.heap[b]? = some o) → w'.heap[b]? = w.heap[b]?) → (Builtin.firstCells e.csize m vx).run P w' = .ok news.toArray w') ∧
      ∀ i (hi : i < ys.length), ∃ cs, EncM w U β s.heap false e ys[i] cs ∧ ∀ j (hj : j < cs.length), news[i * e.csize + j]? = some cs[j] := by
  obtain ⟨T, x⟩ := X
  cases T with
  | nils =>
    simp only [elemsC] at h
    have hm := hx.one rfl rfl
    simp only [EncM] at hm
    obtain ⟨c, hv⟩ := hm
    obtain rfl := (List.cons.inj hv).1
    exact ⟨[], [], 0, h, rfl, fun w' => by simp [Builtin.lenOf], by simp, fun w' _ => by simp [Builtin.firstCells], fun i hi => absurd hi (by simp)⟩
  | list a =>
    simp only [elemsC] at h
    split at h
    · rename_i ys hc
      have hc := cast_some hc
      cases hc
      have hm := hx.one rfl rfl
      simp only [EncM] at hm
      obtain ⟨A, c, hv, hcap, hel⟩ := hm
      obtain rfl := (List.cons.inj hv).1
      by_cases h0 : 0 < List.length ys
      · obtain ⟨b, off, rfl, hU, hel⟩ := hel h0
        obtain ⟨news, h1, h2, h3⟩ := rowCells hel
        exact ⟨ys, news, _, h, rfl, fun w' => by simp [Builtin.lenOf], h1, fun w' hw' => first_ok h1 h2 (hw' b), h3⟩
      · have : ys = [] := List.eq_nil_of_length_eq_zero (by omega)
        subst this
        refine ⟨[], [], 0, h, rfl, fun w' => by simp [Builtin.lenOf], by simp, fun w' _ => ?_, fun i hi => absurd hi (by simp)⟩
        cases A with
        | none => simp [Builtin.firstCells]
        | some A => simpa [Builtin.firstCells] using run_loadCells_list (P := P) w' A [] (by simp)
    · cases h
  | str =>
    simp only [elemsC] at h
    split at h
    · rename_i ys hc
      have hc := cast_some hc
      cases hc
      obtain rfl := hx.str
      have hsz : (⟨List.toArray x⟩ : ByteArray).size = List.length x := by simp [ByteArray.size]
      refine ⟨_, x.map fun b => .int .u8 b.toNat, x.length, h, by simp [intsOf], fun w' => by simp [Builtin.lenOf, hsz], by simp [Ty.csize], fun w' _ => ?_, fun i hi => ?_⟩
      · have he : (⟨List.toArray x⟩ : ByteArray).extract 0 (List.length x) = ⟨List.toArray x⟩ := by
          rw [extract_cut]; simp [cut]
        simp only [Builtin.firstCells, he, Sem.run_pure]
        congr 1
        apply Array.ext'
        simp
      · simp only [intsOf, List.length_map] at hi
        refine ⟨[.int .u8 (x[i]).toNat], by simp [EncM, intsOf], fun j hj => ?_⟩
        obtain rfl : j = 0 := by simp at hj; omega
        simp [Ty.csize, hi]
    · cases h
  | slw id =>
    simp only [elemsC] at h
    split at h
    · rename_i a xs he
      split at h
      · rename_i ys hc
        have hc := cast_some hc
        cases hc
        have hm := hx.one rfl rfl
        simp only [EncM] at hm
        obtain ⟨a', xs', h0, he', hv⟩ := hm
        obtain rfl := (List.cons.inj hv).1
        rw [he] at he'
        cases he'
        obtain ⟨_, hrow⟩ := (hH.obj id h0).row he
        rcases hrow with ⟨hb, _, rfl⟩ | ⟨b, arr, el, fr, hb, _, _, hw, hsz, hcap, _, hel⟩
        · refine ⟨[], [], 0, h, rfl, fun w' => by simp [Builtin.lenOf], by simp, fun w' _ => ?_, fun i hi => absurd hi (by simp)⟩
          rw [hb]; simp [Builtin.firstCells]
        · obtain ⟨news, h1, h2, h3⟩ := rowCells (w := w) (b := b) (off := 0) (fun i hi => by
            obtain ⟨cs, h4, h5⟩ := hel i hi
            refine ⟨cs, h4, fun j hj => ?_⟩
            simp only [World.cell?, hw, Nat.zero_add]
            simpa using h5 j hj)
          refine ⟨ys, news, _, h, rfl, fun w' => by simp [Builtin.lenOf], h1, fun w' hw' => ?_, h3⟩
          rw [hb]
          exact first_ok h1 h2 (hw' b)
      · cases h
    · cases h
  | slv id =>
    simp only [elemsC] at h
    split at h
    · rename_i a xs he
      split at h
      · rename_i ys hc
        have hc := cast_some hc
        cases hc
        have hm := hx.one rfl rfl
        simp only [EncM] at hm
        obtain ⟨a', xs', A, c, h0, he', hv, hcap', hle, hA⟩ := hm
        obtain rfl := (List.cons.inj hv).1
        rw [he] at he'
        cases he'
        have hcl : (cut xs x.1 (x.1 + x.2)).length = x.2 := by rw [cut_length _ _ _ hle]; omega
        by_cases hpos : 0 < x.2
        · obtain ⟨b, hb, rfl⟩ := hA hpos
          obtain ⟨_, hrow⟩ := (hH.obj id h0).row he
          rcases hrow with ⟨hb', _, _⟩ | ⟨b', arr, el, fr, hb', _, _, hw, hsz, hcap, _, hel⟩
          · rw [hb'] at hb; cases hb
          · obtain rfl : b' = b := by rw [hb'] at hb; exact Option.some.inj hb
            obtain ⟨news, h1, h2, h3⟩ := rowCells (w := w) (xs := cut xs x.1 (x.1 + x.2)) (b := b') (off := x.1 * e.csize) (fun i hi => by
              obtain ⟨hi', hc'⟩ := cut_getElem xs x.1 (x.1 + x.2) i hi
              obtain ⟨cs, h4, h5⟩ := hel (x.1 + i) hi'
              refine ⟨cs, by rw [hc']; exact h4, fun j hj => ?_⟩
              simp only [World.cell?, hw]
              rw [← Nat.add_mul]
              simpa using h5 j hj)
            rw [hcl] at h1
            exact ⟨_, news, x.2, h, hcl, fun w' => by simp [Builtin.lenOf], h1, fun w' hw' => first_ok h1 h2 (hw' b'), h3⟩
        · have h2 : x.2 = 0 := by omega
          have hnil : cut xs x.1 (x.1 + x.2) = [] := List.eq_nil_of_length_eq_zero (by omega)
          rw [hnil] at h
          refine ⟨[], [], 0, h, rfl, fun w' => by simp [Builtin.lenOf, h2], by simp, fun w' _ => ?_, fun i hi => absurd hi (by simp)⟩
          cases A with
          | none => simp [Builtin.firstCells]
          | some A => simpa [Builtin.firstCells] using run_loadCells_list (P := P) w' A [] (by simp)
      · cases h
    · cases h
  | _ => simp [elemsC] at h
end
end Go.Dp
/- What an append forgets, and what it does. -/
set_option autoImplicit false
set_option linter.unusedVariables false
set_option linter.unusedSimpArgs false
namespace Go.Dp
open Go.RowKit

section
variable {w : World} {U : Nat → Prop} {β : Nat → Blk} {H : Heap} {p : Nat → Bool}

theorem kill_shape : ∀ (t : Ty) (v : t.den), (killV p t v).t.shape = t.shape := by
  intro t
  induction t with
  | scons a r iha ihr => intro v; simp only [killV, Ty.shape]; rw [iha, ihr]
  | tup r ih => intro v; rfl
  | fn f c ih => intro v; rfl
  | hl r ih => intro v; simp only [killV]; cases r.pure <;> rfl
  | list e ih => intro v; simp only [killV]; cases e.pure <;> rfl
  | xls e ih => intro v; simp only [killV]; cases e.pure <;> rfl
  | ref e ih => intro v; simp only [killV]; cases e.pure <;> rfl
  | iface t e ih => intro v; simp only [killV]; cases e.pure <;> rfl
  | slw j => intro v; simp only [killV]; cases p j <;> rfl
  | slv j => intro v; simp only [killV]; cases p j <;> rfl
  | loc j i q => intro v; simp only [killV]; cases (p j && i) <;> rfl
  | _ => intro v; rfl

theorem isAgg_shape : ∀ t : Ty, t.shape.isAgg = t.isAgg := by
  intro t; cases t <;> rfl

theorem kill_isAgg (t : Ty) (v : t.den) : (killV p t v).t.isAgg = t.isAgg := by
  rw [← isAgg_shape, kill_shape, isAgg_shape]


variable {w' : World} {U' : Nat → Prop} {β' : Nat → Blk} {H' : Heap}

theorem EncM.forget {t : Ty} {x : t.den} {l : List Value} (hn : t.noTup = true) (hc : t.csize = 1) (h : EncM w U β H false t x l) : EncM w' U' β' H' false .unk () l := by
  have hl := h.len
  rw [hc] at hl
  obtain ⟨v, rfl⟩ := List.length_eq_one_iff.1 hl
  simp only [EncM]
  exact ⟨v, rfl, noTup_cells _ _ _ hn h v (by simp)⟩

variable {app : List Nat}

theorem EncM.kill (hp : ∀ id, id ∈ app → p id = true) (hA : Adv w U β H w' U' β' H' app) : ∀ (t : Ty) (m : Bool) (x : t.den) (l : List Value), EncM w U β H m t x l → EncM w' U' β' H' m (killV p t x).t (killV p t x).v l := by
  intro t
  induction t with
  | scons a r iha ihr =>
    intro m x l h
    cases m <;> simp only [EncM] at h
    · obtain ⟨l1, l2, rfl, h1, h2⟩ := h
      simp only [killV, EncM]
      exact ⟨l1, l2, rfl, iha false _ _ h1, ihr false _ _ h2⟩
    · obtain ⟨v, l2, rfl, h1, h2⟩ := h
      simp only [killV, EncM]
      refine ⟨v, l2, rfl, ?_, ihr true _ _ h2⟩
      rcases h1 with h1 | ⟨h1, h3⟩
      · cases a <;> simp [Ty.isUnk] at h1
        exact .inl rfl
      · exact .inr ⟨by rw [kill_isAgg]; exact h1, iha false _ _ h3⟩
  | tup r ih =>
    intro m x l h
    cases m <;> simp only [EncM] at h
    obtain ⟨vs, rfl, h⟩ := h
    simp only [killV, EncM]
    exact ⟨vs, rfl, ih true _ _ h⟩
  | fn f c ih =>
    intro m x l h
    cases m <;> simp only [EncM] at h
    obtain ⟨vs, rfl, h⟩ := h
    simp only [killV, EncM]
    exact ⟨vs, rfl, ih true _ _ h⟩
  | hl r ih =>
    intro m x l h
    simp only [killV]
    cases hpu : r.pure with
    | true => exact h.adv hA _ _ _ _ (avoids_of_pure _ _ hpu)
    | false =>
      cases m
      · exact h.forget rfl rfl
      · simp [EncM] at h
  | list e ih =>
    intro m x l h
    simp only [killV]
    cases hpu : e.pure with
    | true => exact h.adv hA _ _ _ _ (avoids_of_pure _ _ hpu)
    | false =>
      cases m
      · exact h.forget rfl rfl
      · simp [EncM] at h
  | xls e ih =>
    intro m x l h
    simp only [killV]
    cases hpu : e.pure with
    | true => exact h.adv hA _ _ _ _ (avoids_of_pure _ _ hpu)
    | false =>
      cases m
      · exact h.forget rfl rfl
      · simp [EncM] at h
  | ref e ih =>
    intro m x l h
    simp only [killV]
    cases hpu : e.pure with
    | true => exact h.adv hA _ _ _ _ (avoids_of_pure _ _ hpu)
    | false =>
      cases m
      · exact h.forget rfl rfl
      · simp [EncM] at h
  | iface t e ih =>
    intro m x l h
    simp only [killV]
    cases hpu : e.pure with
    | true => exact h.adv hA _ _ _ _ (avoids_of_pure _ _ hpu)
    | false =>
      cases m
      · exact h.forget rfl rfl
      · simp [EncM] at h
  | slw j =>
    intro m x l h
    simp only [killV]
    cases hj : p j with
    | true =>
      cases m
      · exact h.forget rfl rfl
      · simp [EncM] at h
    | false => exact h.adv hA _ _ _ _ (show j ∉ app from fun e => by rw [hp j e] at hj; cases hj)
  | slv j =>
    intro m x l h
    simp only [killV]
    cases hj : p j with
    | true =>
      cases m
      · exact h.forget rfl rfl
      · simp [EncM] at h
    | false => exact h.adv hA _ _ _ _ (show j ∉ app from fun e => by rw [hp j e] at hj; cases hj)
  | selfp j T =>
    intro m x l h
    simp only [killV]
    exact h.adv hA _ _ _ _ trivial
  | loc j i q =>
    intro m x l h
    simp only [killV]
    cases hj : (p j && i) with
    | true =>
      cases m
      · exact h.forget rfl rfl
      · simp [EncM] at h
    | false => exact h.adv hA _ _ _ _ (show i = true → j ∉ app from fun e e' => by rw [hp j e', e] at hj; cases hj)
  | arr n e ih =>
    intro m x l h
    cases m
    · have hpu : e.pure = true := by simp only [EncM] at h; exact h.1
      exact h.adv hA _ _ _ _ (avoids_of_pure _ _ hpu)
    · simp [EncM] at h
  | row e ih => intro m x l h; cases m <;> simp [EncM] at h
  | mobj k v ihk ihv => intro m x l h; cases m <;> simp [EncM] at h
  | fnu fs => intro m x l h; exact h.adv hA _ _ _ _ trivial
  | sint k => intro m x l h; exact h.adv hA _ _ _ _ trivial
  | mapp id => intro m x l h; exact h.adv hA _ _ _ _ trivial
  | bm f c ih =>
    intro m x l h
    cases m <;> simp only [EncM] at h
    obtain ⟨vs, rfl, h⟩ := h
    simp only [killV, EncM]
    exact ⟨vs, rfl, ih true _ _ h⟩
  | iter => intro m x l h; cases m <;> simp [EncM] at h
  | unk => intro m x l h; exact h.adv hA _ _ _ _ trivial
  | int k => intro m x l h; exact h.adv hA _ _ _ _ trivial
  | bool => intro m x l h; exact h.adv hA _ _ _ _ trivial
  | str => intro m x l h; exact h.adv hA _ _ _ _ trivial
  | nilf => intro m x l h; exact h.adv hA _ _ _ _ trivial
  | nils => intro m x l h; exact h.adv hA _ _ _ _ trivial
  | nilp => intro m x l h; exact h.adv hA _ _ _ _ trivial
  | nili => intro m x l h; exact h.adv hA _ _ _ _ trivial
  | snil => intro m x l h; exact h.adv hA _ _ _ _ trivial

theorem EncV.kill (hp : ∀ id, id ∈ app → p id = true) (hA : Adv w U β H w' U' β' H' app) {x : TV} {v : Value} (h : EncV w U β H x v) : EncV w' U' β' H' (killT p x) v := by
  rcases h with h | ⟨h1, h2⟩
  · obtain ⟨t, x⟩ := x
    cases t <;> simp [Ty.isUnk] at h
    exact .inl rfl
  · exact .inr ⟨by unfold killT; rw [kill_isAgg]; exact h1, h2.kill hp hA _ _ _ _⟩

theorem hget_killH : ∀ (H : Heap) (i : Nat), hget (killH p H) i = killT p (hget H i) := by
  intro H
  induction H with
  | nil => intro i; simp [killH, hget, killT, killV]
  | cons x l ih =>
    intro i
    cases i with
    | zero => rfl
    | succ i => exact ih i
theorem length_killH : ∀ H : Heap, (killH p H).length = H.length := by
  intro H
  induction H with
  | nil => rfl
  | cons x l ih => simp [killH, ih]
theorem look_killR : ∀ (l : List (Nat × TV)) (i : Nat), lookTV (killR p l) i = killT p (lookTV l i) := by
  intro l
  induction l with
  | nil => intro i; rfl
  | cons p l ih =>
    obtain ⟨j, x⟩ := p
    intro i
    simp only [killR, lookTV]
    cases Nat.beq j i with
    | true => rfl
    | false => exact ih i

theorem kill_row {e : Ty} {xs : List e.den} : killT p ⟨.row e, xs⟩ = ⟨.row e, xs⟩ := rfl
theorem kill_notRow {x : TV} (h : ∀ e xs, x ≠ ⟨.row e, xs⟩) : ∀ e xs, killT p x ≠ ⟨.row e, xs⟩ := by
  intro e xs he
  obtain ⟨t, v⟩ := x
  cases t <;> simp only [killT, killV] at he <;> first
    | (cases he; done)
    | (exact h _ _ rfl)
    | (revert he; cases Ty.pure _ <;> intro he <;> cases he; done)
    | (revert he; cases p _ <;> intro he <;> cases he; done)
    | (revert he; cases (p _ && _) <;> intro he <;> cases he; done)
end

section
variable {S : Base} {n : Nat} {U : Nat → Prop} {β : Nat → Blk} {s : St} {a : Act} {w w' : World} {α : Type} {k : St → Option α} {r : α} {h : Hint} {Q : Exit → Act → World → Prop} {o : Oper}

/-- An append's step: the row has more elements, in its block or in a new one. -/
theorem Adv.appended {H : Heap} {id : Nat} {bl : Blk} {e : Ty} {xs ys : List e.den} (hid : id < H.length) (he : hget H id = ⟨.row e, xs⟩) (hU : ∀ b, U b → w'.heap[b]? = w.heap[b]?)
    (hk : ∀ c, c < w.heap.size → (β id).blk ≠ some c → w'.heap[c]? = w.heap[c]?) (hbl : bl.blk = (β id).blk ∨ ∀ c, bl.blk = some c → w.heap.size ≤ c) :
    Adv w U β H w' U (setB β id bl) (killH (Nat.beq id) (hset H id ⟨.row e, ys⟩)) [id] where
  use _ h := h
  same b h := hU b h
  len := by rw [length_killH, length_hset]; exact Nat.le_refl _
  row i e' xs' hl he' := by
    rw [hget_killH]
    by_cases e1 : i = id
    · subst e1
      rw [he] at he'
      cases he'
      exact ⟨ys, by rw [hget_hset_same _ _ _ hid, kill_row], fun hn => absurd (List.mem_singleton.2 rfl) hn⟩
    · exact ⟨xs', by rw [hget_hset_ne _ _ _ _ e1, he', kill_row], fun _ => ⟨rfl, by simp [setB, e1]⟩⟩
  box i hl hn := by
    rw [hget_killH]
    have e1 : i ≠ id := fun e1 => by subst e1; exact hn _ _ he
    rw [hget_hset_ne _ _ _ _ e1]
    exact ⟨by simp [setB, e1], kill_shape _ _, kill_notRow hn⟩
  keep b hb hu hn := ⟨hk b hb (hn id hid), hu, fun i hi h => by
    rw [length_killH, length_hset] at hi
    simp only [setB] at h
    split at h
    · rcases hbl with e | e
      · rw [e] at h; exact hn id hid h
      · have := e b h; omega
    · exact hn i hi h⟩

theorem ObjAt.kill {H H' : Heap} {B i : Nat} {app : List Nat} {p : Nat → Bool} {β' : Nat → Blk} {U' : Nat → Prop} (hp : ∀ id, id ∈ app → p id = true) (hA : Adv w U β H w' U' β' H' app) (h : ObjAt w U β H B i) (hg : hget H' i = killT p (hget H i)) (hb : β' i = β i) (hs : ∀ b, (β i).blk = some b → w'.heap[b]? = w.heap[b]? ∧ ¬ U' b) :
    ObjAt w' U' β' H' B i := by
  by_cases ho : (hget H i).t.isObj = true
  · refine h.adv hA ?_ hb hs ?_
    · rw [hg]
      generalize hget H i = z at *
      obtain ⟨t, v⟩ := z
      cases t <;> simp [Ty.isObj] at ho <;> rfl
    · generalize hget H i = z at *
      obtain ⟨t, v⟩ := z
      cases t <;> simp [Ty.isObj] at ho <;> trivial
  · have ho : (hget H i).t.isObj = false := by simpa using ho
    obtain ⟨b, cs, el, fr, h1, h2, h3, h4, h5, h6, h7⟩ := h.box ho
    have key : ∃ b cs el fr, (β' i).blk = some b ∧ B ≤ b ∧ ¬ U' b ∧ w'.heap[b]? = some (.cells cs el fr) ∧ (∀ j, j < cs.size → ¬ (fr.1 ≤ j ∧ j < fr.2)) ∧ EncM w' U' β' H' false (hget H' i).t (hget H' i).v cs.toList ∧ (β' i).cap = el :=
      ⟨b, cs, el, fr, by rw [hb]; exact h1, h2, (hs b h1).2, (hs b h1).1.trans h4, h5, by rw [hg]; exact h6.kill hp hA _ _ _ _, by rw [hb]; exact h7⟩
    have ho' : (hget H' i).t.isObj = false := by
      rw [hg]
      have := h6.kill hp hA _ _ _ _
      unfold killT
      generalize killV p (hget H i).t (hget H i).v = z at *
      obtain ⟨t, v⟩ := z
      cases t <;> first | rfl | (simp [EncM] at this; done)
    unfold ObjAt
    generalize hget H' i = z at *
    obtain ⟨t, v⟩ := z
    cases t <;> first | (simp [Ty.isObj] at ho'; done) | exact key
end
end Go.Dp
/- Appends. -/
set_option autoImplicit false
set_option linter.unusedVariables false
set_option linter.unusedSimpArgs false
namespace Go.Dp
open Go.RowKit

section
variable {S : Base} {n : Nat} {U : Nat → Prop} {β : Nat → Blk} {s : St} {a : Act} {w w' : World} {α : Type} {k : St → Option α} {r : α} {h : Hint} {Q : Exit → Act → World → Prop} {o : Oper}

theorem seq_notInt {P : Program} {E : Env} (hT : TIok P E) {u : Nat} (hu : isSeq (tiOf E u).td = true) : ∃ d, P.underlying u = some d ∧ ((∃ e, d = .slice e) ∨ d = .string) := by
  obtain ⟨info, d, hK⟩ := hT.known_td (t := u) (by intro e; rw [e] at hu; simp [isSeq] at hu)
  refine ⟨d, hK.und, ?_⟩
  have := hK.td
  cases d <;> first | exact .inl ⟨_, rfl⟩ | exact .inr rfl | (rw [← this] at hu; simp [tdOf, isSeq] at hu)

set_option maxHeartbeats 1000000 in
/-- In place. -/
theorem run_append_in {P : Program} {E : Env} (hT : TIok P E) {t u et ty : Nat} (htd : (tiOf E t).td = .slice et) (hu : isSeq (tiOf E u).td = true) (hkn : ∃ info d, Known P E et info d) {A : Option Addr} {m c l : Nat} {vx : Value} {news : List Value}
    (hl : ∀ w', (Builtin.lenOf vx).run P w' = .ok l w') (hf : (Builtin.firstCells (tiOf E et).size l vx).run P w = .ok news.toArray w) (hroom : m + l ≤ c)
    (hst : ∀ a, A = some a → (storeCells (a.add (m * (tiOf E et).size)) news).run P w = .ok () w') (hnone : A = none → w' = w) :
    (Builtin.append_ #[t, u] ty #[.slice A m c, vx]).run P w = .ok (.slice A (m + l) c) w' := by
  obtain ⟨info, d, hK⟩ := hT.known_td (t := t) (by rw [htd]; simp)
  obtain rfl := td_slice (hK.td.trans htd)
  obtain ⟨info', d', hK'⟩ := hkn
  obtain ⟨du, hdu, hni⟩ := seq_notInt hT hu
  cases A with
  | none =>
    obtain rfl := hnone rfl
    rcases hni with ⟨e, rfl⟩ | rfl <;> simp [Builtin.append_, run_underlying hK.und, run_underlying hdu, hK'.runS, hl w', hroom, hf]
  | some a =>
    have := hst a rfl
    rcases hni with ⟨e, rfl⟩ | rfl <;> simp [Builtin.append_, run_underlying hK.und, run_underlying hdu, hK'.runS, hl w, hroom, hf, this]

set_option maxHeartbeats 1000000 in
/-- To a new array. -/
theorem run_append_out {P : Program} {E : Env} (hT : TIok P E) {t u et ty : Nat} (htd : (tiOf E t).td = .slice et) (hu : isSeq (tiOf E u).td = true) (hkn : ∃ info d, Known P E et info d) (hz : (tiOf E et).ty.zOK = true) {A : Option Addr} {m c l : Nat} {vx : Value} {olds news : List Value}
    (hl : ∀ w', (Builtin.lenOf vx).run P w' = .ok l w') (hf : (Builtin.firstCells (tiOf E et).size l vx).run P w.drew = .ok news.toArray w.drew) (ho : (Builtin.firstCells (tiOf E et).size m (.slice A m c)).run P w.drew = .ok olds.toArray w.drew)
    (hroom : ¬ m + l ≤ c) (hb : 0 < (tiOf E et).bytes) (hmax : (m + l) * (tiOf E et).bytes ≤ maxRoom) :
    (Builtin.append_ #[t, u] ty #[.slice A m c, vx]).run P w = .ok (.slice (some ⟨w.heap.size, 0, none⟩) (m + l) (grownCap w (m + l) c et))
      (w.drew.alloc (.cells (olds.toArray ++ news.toArray ++ Builtin.zeroCells (zval (tiOf E et).ty).cells (grownCap w (m + l) c et - (m + l))) et)) := by
  obtain ⟨info, d, hK⟩ := hT.known_td (t := t) (by rw [htd]; simp)
  obtain rfl := td_slice (hK.td.trans htd)
  obtain ⟨info', d', hK'⟩ := hkn
  obtain ⟨du, hdu, hni⟩ := seq_notInt hT hu
  have hneed : m + l ≤ maxRoom := by
    have : (m + l) * 1 ≤ (m + l) * (tiOf E et).bytes := Nat.mul_le_mul_left _ hb
    omega
  have h63 : ¬ (9223372036854775807 < ((m : Int) + (l : Int))) := by unfold maxRoom at hneed; omega
  have h48 : ¬ (281474976710656 < Builtin.nextslicecap (m + l) c * info'.bytes) := by
    have := growslice_fits (old := c) (need := m + l) (bytes := info'.bytes) (by omega) (by rw [hK'.bytes]; exact hmax)
    omega
  rcases hni with ⟨e, rfl⟩ | rfl
  all_goals
    simp [Builtin.append_, run_underlying hK.und, run_underlying hdu, hK'.runS, hK'.runT, hl w, hroom, h63, h48, Question.forced, hf, ho, zeroValue, hK'.zero hz, newRow, grownCap]
    congr 2
    apply Array.ext'
    simp [List.append_assoc]

theorem row_cells {B id : Nat} {H : Heap} (hH : HRel w U β H B) {e : Ty} {xs : List e.den} (hid : id < H.length) (he : hget H id = ⟨.row e, xs⟩) :
    ((β id).blk = none ∧ (β id).cap = 0 ∧ xs = []) ∨ ∃ b arr el fr olds, (β id).blk = some b ∧ B ≤ b ∧ ¬ U b ∧ w.heap[b]? = some (.cells arr el fr) ∧ arr.size = (β id).cap * e.csize ∧ xs.length ≤ (β id).cap ∧ (∀ j, j < arr.size → ¬ (fr.1 ≤ j ∧ j < fr.2)) ∧
      olds.length = xs.length * e.csize ∧ cellsAt w b 0 olds ∧ (∀ i (h : i < xs.length), ∃ cs, EncM w U β H false e xs[i] cs ∧ ∀ j (h : j < cs.length), olds[i * e.csize + j]? = some cs[j]) ∧ (∀ i, i < olds.length → arr[i]? = olds[i]?) := by
  obtain ⟨_, hrow⟩ := (hH.obj id hid).row he
  rcases hrow with h0 | ⟨b, arr, el, fr, hb, hge, hnU, hw, hsz, hcap, hfr, hel⟩
  · exact .inl h0
  · obtain ⟨olds, h1, h2, h3⟩ := rowCells (w := w) (b := b) (off := 0) (fun i hi => by
      obtain ⟨cs, h4, h5⟩ := hel i hi
      refine ⟨cs, h4, fun j hj => ?_⟩
      simp only [World.cell?, hw, Nat.zero_add]
      simpa using h5 j hj)
    refine .inr ⟨b, arr, el, fr, olds, hb, hge, hnU, hw, hsz, hcap, hfr, h1, h2, h3, fun i hi => ?_⟩
    have := h2 i hi
    simp only [World.cell?, hw, Nat.zero_add] at this
    rw [List.getElem?_eq_getElem hi]
    simpa using this

theorem drew_heap (w : World) : w.drew.heap = w.heap := rfl

theorem beqMem {id : Nat} : ∀ i, i ∈ [id] → Nat.beq id i = true := by
  intro i h
  rw [List.mem_singleton.1 h]
  exact Nat.beq_refl id

theorem killElem {H H' : Heap} {β' : Nat → Blk} {U' : Nat → Prop} {id : Nat} (hA : Adv w U β H w' U' β' H' [id]) {e : Ty} (hp : e.elem = true) {x : e.den} {cs : List Value} (h : EncM w U β H false e x cs) : EncM w' U' β' H' false e x cs :=
  h.adv hA _ _ _ _ (avoids_of_pure _ _ (elem_pure hp))

theorem joinEl {H : Heap} {e : Ty} {xs ys : List e.den} {olds news : List Value} {m : Nat} (hm : ys.length = m) (hol : olds.length = xs.length * e.csize) (hnl : news.length = m * e.csize)
    (hoel : ∀ i (h : i < xs.length), ∃ cs, EncM w U β H false e xs[i] cs ∧ ∀ j (h : j < cs.length), olds[i * e.csize + j]? = some cs[j])
    (hel : ∀ i (h : i < ys.length), ∃ cs, EncM w U β H false e ys[i] cs ∧ ∀ j (h : j < cs.length), news[i * e.csize + j]? = some cs[j]) :
    ∀ i (h : i < (xs ++ ys).length), ∃ cs, EncM w U β H false e (xs ++ ys)[i] cs ∧ ∀ j (h : j < cs.length), (olds ++ news)[i * e.csize + j]? = some cs[j] := by
  intro i hi
  by_cases h1 : i < xs.length
  · obtain ⟨cs, h2, h3⟩ := hoel i h1
    refine ⟨cs, by rw [List.getElem_append_left h1]; exact h2, fun j hj => ?_⟩
    have h4 := h3 j hj
    have hlt : i * e.csize + j < olds.length := by
      rcases Nat.lt_or_ge (i * e.csize + j) olds.length with g | g
      · exact g
      · rw [List.getElem?_eq_none g] at h4; cases h4
    rw [List.getElem?_append_left hlt]
    exact h4
  · rw [List.length_append] at hi
    obtain ⟨cs, h2, h3⟩ := hel (i - xs.length) (by omega)
    refine ⟨cs, by rw [List.getElem_append_right (by omega)]; exact h2, fun j hj => ?_⟩
    have h4 : xs.length * e.csize ≤ i * e.csize := Nat.mul_le_mul_right _ (by omega)
    rw [List.getElem?_append_right (by omega), hol]
    have h5 : i * e.csize + j - xs.length * e.csize = (i - xs.length) * e.csize + j := by rw [Nat.sub_mul]; omega
    rw [h5]
    exact h3 j hj

/-- To a list whose capacity is its length: nothing but a list comes of it. -/
theorem appendX_ok (hT : TIok S.P S.E) (hn : h.n = n) (hR : FRel S n U β s a w) {t u : Nat} {x y : Operand} (hop : o.op = .call { callee := .builtin .append, args := #[x, y], argTypes := #[t, u] })
    {et : Nat} (htd : (tiOf S.E t).td = .slice et) {e : Ty} {xs : List e.den} {Y : TV} (hx : EncV w U β s.heap ⟨.xls e, xs⟩ (a.eval x)) (hy : EncV w U β s.heap Y (a.eval y))
    (hk : (bif e.elem && isSeq (tiOf S.E u).td && Nat.beq e.csize (tiOf S.E et).size && Nat.beq (tiOf S.E et).ty.csize (tiOf S.E et).size && (tiOf S.E et).ty.zOK && Nat.blt 0 (tiOf S.E et).bytes then
        elemsC s e Y fun ys =>
          bif decide ((xs.length + ys.length) * (tiOf S.E et).bytes ≤ maxRoom) then putC h s o.dst ⟨.list e, xs ++ ys⟩ k else none
        else none) = some r) : o.wp S.P a w (Handed S n U β s w k r) Q := by
  obtain ⟨h1, hk⟩ := bif_some hk
  obtain ⟨h1, hbp⟩ := and2 h1
  obtain ⟨h1, hz⟩ := and2 h1
  obtain ⟨h1, hcs⟩ := and2 h1
  obtain ⟨h1, hes⟩ := and2 h1
  obtain ⟨helem, hu⟩ := and2 h1
  have hes := beqN hes
  have hcs := beqN hcs
  have hbp := bltN hbp
  have hkn : ∃ info d, Known S.P S.E et info d := (hT.known et).resolve_right fun e => by rw [e] at hbp; simp at hbp
  obtain ⟨ys, news, m, hk, hm, hl, hnl, hf, hel'⟩ := elemsC_ok (P := S.P) (E := S.E) hR.wrel.heap hy hk
  obtain ⟨hmax, hk⟩ := bif_some hk
  have hmax := decT hmax
  have hm' := hx.one rfl rfl
  simp only [EncM] at hm'
  obtain ⟨A, c, hv, hc, hcells⟩ := hm'
  have hv := (List.cons.inj hv).1
  have hrunOp : ∀ {v : Value} {w' : World}, (Builtin.append_ #[t, u] o.type #[a.eval x, a.eval y]).run S.P w = .ok v w' → (execOp a.eval o).run S.P w = .ok (.value v) w' := by
    intro v w' hrun
    simp only [execOp, hop, resolve, invoke, builtin, Sem.run_bind, Sem.run_pure, Result.andThen_ok, List.map_toArray, List.map_cons, List.map_nil, hrun]
  rw [hes] at hf
  have hfw := hf w fun _ _ => rfl
  have hfd := hf w.drew fun _ _ => rfl
  have hylen : (xs ++ ys).length = xs.length + m := by rw [List.length_append, hm]
  by_cases h0 : m = 0
  · have hyn : ys = [] := List.eq_nil_of_length_eq_zero (by omega)
    have hnn : news = [] := List.eq_nil_of_length_eq_zero (by rw [hnl, h0]; simp)
    subst hyn hnn
    have hrun := run_append_in (w := w) (w' := w) (u := u) (ty := o.type) (A := A) (m := xs.length) (c := c) hT htd hu hkn hl hfw (by omega) (fun a _ => by simp [storeCells]) (fun _ => rfl)
    rw [← hv] at hrun
    refine value_ok hn hR (hrunOp hrun) (.inr ⟨rfl, ?_⟩) hk
    simp only [EncM, Value.cells]
    refine ⟨A, c, by rw [hylen], by rw [hylen]; omega, fun hp => ?_⟩
    obtain ⟨b, off, rfl, hU, hel⟩ := hcells (by simpa using hp)
    refine ⟨b, off, rfl, hU, ?_⟩
    simpa using hel
  · have hold : ∃ olds : List Value, olds.length = xs.length * e.csize ∧ (∀ i (h : i < xs.length), ∃ cs, EncM w U β s.heap false e xs[i] cs ∧ ∀ j (h : j < cs.length), olds[i * e.csize + j]? = some cs[j]) ∧
        (Builtin.firstCells (tiOf S.E et).size xs.length (.slice A xs.length c)).run S.P w.drew = .ok olds.toArray w.drew := by
      by_cases hp : 0 < xs.length
      · obtain ⟨b, off, rfl, hU, hel⟩ := hcells hp
        obtain ⟨olds, g1, g2, g3⟩ := rowCells hel
        exact ⟨olds, g1, g3, by rw [← hes]; exact first_ok g1 g2 (fun _ => rfl)⟩
      · have hxe : xs = [] := List.eq_nil_of_length_eq_zero (by omega)
        subst hxe
        exact ⟨[], by simp, fun i hi => absurd hi (by simp), by cases A <;> simp [Builtin.firstCells, loadCells, loadCellsFrom]⟩
    obtain ⟨olds, hol, hoel, hfo⟩ := hold
    have hrun := run_append_out (w := w) (u := u) (ty := o.type) hT htd hu hkn hz hl hfd hfo (by omega) hbp (by rw [hm] at hmax; exact hmax)
    rw [← hv] at hrun
    have hge := grownCap_ge w (xs.length + m) c et
    generalize hob : Obj.cells (olds.toArray ++ news.toArray ++ Builtin.zeroCells (zval (tiOf S.E et).ty).cells (grownCap w (xs.length + m) c et - (xs.length + m))) et = ob at hrun
    have hbel : Below w.heap.size w (w.drew.alloc ob) := ((Below.refl _ w).drew).alloc (Nat.le_refl _) _
    have hG := hR.grow hbel (withB_grow w.drew ob U)
    have hA : ∀ app, Adv w U β s.heap (w.drew.alloc ob) (withB U w.heap.size) β s.heap app := fun app => Adv.grow hbel.block hR.wrel.uin (fun b hb => .inl hb) (withB_un w U)
    unfold Oper.wp
    rw [hrunOp hrun]
    refine putC_ok hn hG (.inr ⟨rfl, ?_⟩) (hA _) (fun _ _ h => h) hk
    simp only [EncM, Value.cells]
    refine ⟨some ⟨w.heap.size, 0, none⟩, grownCap w (xs.length + m) c et, by rw [hylen], by rw [hylen]; exact hge, fun hp => ⟨w.heap.size, 0, rfl, .inr rfl, fun i hi => ?_⟩⟩
    obtain ⟨cs, g1, g2⟩ := joinEl hm hol hnl hoel hel' i hi
    refine ⟨cs, g1.adv (hA []) _ _ _ _ (avoids_nil _), fun j hj => ?_⟩
    have g3 := g2 j hj
    have hlt : i * e.csize + j < (olds ++ news).length := by
      rcases Nat.lt_or_ge (i * e.csize + j) (olds ++ news).length with g | g
      · exact g
      · rw [List.getElem?_eq_none g] at g3; cases g3
    have hat : (w.drew.alloc ob).heap[w.heap.size]? = some ob := heap_alloc_at w.drew ob
    simp only [World.cell?, hat, Nat.zero_add]
    rw [← hob]
    simp only []
    rw [Array.getElem?_append_left (by simpa using hlt), List.append_toArray, List.getElem?_toArray]
    exact g3

theorem appendC_ok (hT : TIok S.P S.E) (hn : h.n = n) (hR : FRel S n U β s a w) {t u : Nat} {x y : Operand} (hop : o.op = .call { callee := .builtin .append, args := #[x, y], argTypes := #[t, u] })
    (hk : appendC S.E h s o.dst t u (ev S.E s t x) (ev S.E s u y) k = some r) : o.wp S.P a w (Handed S n U β s w k r) Q := by
  have hx := hR.ev t x
  have hy := hR.ev u y
  generalize ev S.E s t x = X at hx hk
  generalize ev S.E s u y = Y at hy hk
  obtain ⟨T, xx⟩ := X
  unfold appendC at hk
  split at hk
  · rename_i et htd
    split at hk
    · rename_i _ id v' hX
      cases hX
      split at hk
      · rename_i e xs he
        obtain ⟨h1, hk⟩ := bif_some hk
        obtain ⟨h1, hbp⟩ := and2 h1
        obtain ⟨h1, hz⟩ := and2 h1
        obtain ⟨h1, hcs⟩ := and2 h1
        obtain ⟨hu, hes⟩ := and2 h1
        have hes := beqN hes
        have hcs := beqN hcs
        have hbp := bltN hbp
        have hkn : ∃ info d, Known S.P S.E et info d := (hT.known et).resolve_right fun e => by rw [e] at hbp; simp at hbp
        obtain ⟨ys, news, m, hk, hm, hl, hnl, hf, hel'⟩ := elemsC_ok (P := S.P) (E := S.E) hR.wrel.heap hy hk
        obtain ⟨hmax, hk⟩ := bif_some hk
        have hmax := decT hmax
        have hm' := hx.one rfl rfl
        simp only [EncM] at hm'
        obtain ⟨e', xs', hid, he', hv⟩ := hm'
        have hv := (List.cons.inj hv).1
        rw [he] at he'
        cases he'
        have helem := ((hR.wrel.heap.obj id hid).row he).1
        have hrunOp : ∀ {v : Value} {w' : World}, (Builtin.append_ #[t, u] o.type #[a.eval x, a.eval y]).run S.P w = .ok v w' → (execOp a.eval o).run S.P w = .ok (.value v) w' := by
          intro v w' hrun
          simp only [execOp, hop, resolve, invoke, builtin, Sem.run_bind, Sem.run_pure, Result.andThen_ok, List.map_toArray, List.map_cons, List.map_nil, hrun]
        have hone : ∀ v ∈ news, v.oneCell' = true := by
          intro v hv
          obtain ⟨k', hk', rfl⟩ := List.getElem_of_mem hv
          have hpos : 0 < e.csize := by
            rcases Nat.eq_zero_or_pos e.csize with h0 | h0
            · rw [h0, Nat.mul_zero] at hnl; omega
            · exact h0
          obtain ⟨cs, h2, h3⟩ := hel' (k' / e.csize) (by rw [Nat.div_lt_iff_lt_mul hpos, hm, ← hnl]; exact hk')
          have h6 : k' % e.csize < cs.length := by rw [h2.len]; exact Nat.mod_lt _ hpos
          have h4 := h3 (k' % e.csize) h6
          have h5 : k' / e.csize * e.csize + k' % e.csize = k' := by rw [Nat.mul_comm]; exact Nat.div_add_mod k' e.csize
          rw [h5, List.getElem?_eq_getElem hk'] at h4
          rw [Option.some.inj h4]
          exact noTup_cells _ _ _ (elem_noTup helem) h2 _ (List.getElem_mem _)
        rw [hes] at hf
        have hfw := hf w fun _ _ => rfl
        have hfd := hf w.drew fun _ _ => rfl
        have hylen : (xs ++ ys).length = xs.length + m := by rw [List.length_append, hm]
        -- what every way ends with
        have finish : ∀ {v : Value} {w' : World} {bl : Blk}, (Builtin.append_ #[t, u] o.type #[a.eval x, a.eval y]).run S.P w = .ok v w' →
            v = .slice (bl.blk.map fun b => ⟨b, 0, none⟩) (xs.length + m) bl.cap → Below S.w0.heap.size w w' → (∀ c, (∃ o, w.heap[c]? = some o) → (β id).blk ≠ some c → w'.heap[c]? = w.heap[c]?) →
            (bl.blk = (β id).blk ∨ ∀ c, bl.blk = some c → w.heap.size ≤ c) →
            (Adv w U β s.heap w' U (setB β id bl) (killH (Nat.beq id) (hset s.heap id ⟨.row e, xs ++ ys⟩)) [id] → ObjAt w' U (setB β id bl) (killH (Nat.beq id) (hset s.heap id ⟨.row e, xs ++ ys⟩)) S.w0.heap.size id) →
            o.wp S.P a w (Handed S n U β s w k r) Q := by
          intro v w' bl hrun hv' hbel hsame hbl hobj
          unfold Oper.wp
          rw [hrunOp hrun]
          have hU : ∀ c, U c → w'.heap[c]? = w.heap[c]? := fun c hc => by
            have hlt := hR.wrel.uin c hc
            refine hsame c ⟨_, Array.getElem?_eq_getElem hlt⟩ fun e => (hR.wrel.blk_lt hid e).2.2 hc
          have hA : Adv w U β s.heap w' U (setB β id bl) (killH (Nat.beq id) (hset s.heap id ⟨.row e, xs ++ ys⟩)) [id] := Adv.appended hid he hU (fun c hc hn => hsame c ⟨_, Array.getElem?_eq_getElem hc⟩ hn) hbl
          have hobj := hobj hA
          have hlen : (killH (Nat.beq id) (hset s.heap id ⟨.row e, xs ++ ys⟩)).length = s.heap.length := by rw [length_killH, length_hset]
          have hgk : ∀ i, i ≠ id → hget (killH (Nat.beq id) (hset s.heap id ⟨.row e, xs ++ ys⟩)) i = killT (Nat.beq id) (hget s.heap i) := fun i hi => by
            rw [hget_killH, hget_hset_ne _ _ _ _ hi]
          have hgetid : hget (killH (Nat.beq id) (hset s.heap id ⟨.row e, xs ++ ys⟩)) id = ⟨.row e, xs ++ ys⟩ := by
            rw [hget_killH, hget_hset_same _ _ _ hid, kill_row]
          have hW : WRel S U (setB β id bl) (killH (Nat.beq id) (hset s.heap id ⟨.row e, xs ++ ys⟩)) w' := by
            refine ⟨⟨fun i hi => ?_, fun i i' b hi hi' hb hb' => ?_⟩, hR.wrel.below.trans hbel, fun c hc => Nat.lt_of_lt_of_le (hR.wrel.uin c hc) hbel.size, hR.wrel.uold, fun g z hz => ?_⟩
            · rw [hlen] at hi
              by_cases e1 : i = id
              · subst e1; exact hobj
              · refine ObjAt.kill beqMem hA (hR.wrel.heap.obj i hi) (hgk i e1) (by simp [setB, e1]) fun b hb => ?_
                obtain ⟨g1, g2, g3⟩ := hR.wrel.blk_lt hi hb
                exact ⟨hsame b ⟨_, Array.getElem?_eq_getElem g1⟩ fun e2 => e1 (hR.wrel.heap.inj i id b hi hid hb e2), g3⟩
            · rw [hlen] at hi hi'
              simp only [setB] at hb hb'
              split at hb <;> split at hb'
              · omega
              · rename_i e1 e2
                rcases hbl with h2 | h2
                · rw [h2] at hb
                  exact absurd (hR.wrel.heap.inj id i' b hid hi' hb hb') (by omega)
                · have := h2 b hb
                  have := (hR.wrel.blk_lt hi' hb').1
                  omega
              · rename_i e1 e2
                rcases hbl with h2 | h2
                · rw [h2] at hb'
                  exact absurd (hR.wrel.heap.inj id i b hid hi hb' hb) (by omega)
                · have := h2 b hb'
                  have := (hR.wrel.blk_lt hi hb).1
                  omega
              · exact hR.wrel.heap.inj i i' b hi hi' hb hb'
            · rcases hR.wrel.globs g z hz with e1 | ⟨e1, e2, e3⟩
              · exact .inl e1
              · exact .inr ⟨e1, e2, e3.adv hA (avoids_of_pure _ _ e1)⟩
          have hF : FRel S n U (setB β id bl) ⟨killR (Nat.beq id) s.regs, killH (Nat.beq id) (hset s.heap id ⟨.row e, xs ++ ys⟩), id :: s.app⟩ a w' :=
            ⟨hR.defers, hR.size, fun i => by
              show EncV w' U _ _ (lookTV (killR (Nat.beq id) s.regs) i) _
              rw [look_killR]
              exact (hR.regs i).kill beqMem hA, hW⟩
          refine putC_ok hn hF (.inr ⟨by rw [hv']; rfl, ?_⟩) ?_ (fun i _ h => List.mem_cons_of_mem _ h) hk
          · rw [hv']
            simp only [EncM, Value.cells]
            exact ⟨e, xs ++ ys, by rw [hlen]; exact hid, hgetid, by rw [hylen]; simp [setB]⟩
          · refine ⟨⟨hA.use, hA.same, hA.len, fun i e' xs' hi he' => ?_, hA.box⟩, hA.keep⟩
            obtain ⟨ys', g1, g2⟩ := hA.row i e' xs' hi he'
            exact ⟨ys', g1, fun hn => g2 fun hm => hn (by rw [List.mem_singleton.1 hm]; exact List.mem_cons_self)⟩
        -- a new array
        have growOut : ∀ (olds : List Value), olds.length = xs.length * e.csize → (∀ i (h : i < xs.length), ∃ cs, EncM w U β s.heap false e xs[i] cs ∧ ∀ j (h : j < cs.length), olds[i * e.csize + j]? = some cs[j]) →
            (Builtin.firstCells (tiOf S.E et).size xs.length (.slice ((β id).blk.map fun b => ⟨b, 0, none⟩) xs.length (β id).cap)).run S.P w.drew = .ok olds.toArray w.drew → ¬ xs.length + m ≤ (β id).cap → o.wp S.P a w (Handed S n U β s w k r) Q := by
          intro olds hol hoel hfo hroom
          have hrun := run_append_out (w := w) (u := u) (ty := o.type) hT htd hu hkn hz hl hfd hfo hroom hbp (by rw [hm] at hmax; exact hmax)
          rw [← hv] at hrun
          have hge := grownCap_ge w (xs.length + m) (β id).cap et
          refine finish (bl := ⟨some w.heap.size, grownCap w (xs.length + m) (β id).cap et⟩) hrun rfl ?_ (fun c ⟨ob, hob⟩ _ => ?_) (.inr fun c hc => by cases hc; exact Nat.le_refl _) fun hA => ?_
          · exact (((Below.refl _ w).drew).alloc hR.wrel.below.size _)
          · exact Below.heap_alloc _ _ _ (Array.getElem?_eq_some_iff.1 hob).1
          · unfold ObjAt
            rw [hget_killH, hget_hset_same _ _ _ hid, kill_row]
            have hzs := zval_size hz
            refine ⟨helem, .inr ⟨w.heap.size, _, et, (0, 0), by simp [setB], hR.wrel.below.size, fun hu => by have := hR.wrel.uin _ hu; omega, heap_alloc_at w.drew _, ?_, by simp only [setB, if_true]; rw [hylen]; exact hge, fun j _ => by simp, fun i hi => ?_⟩⟩
            · simp only [setB, if_true, Array.size_append, List.size_toArray, size_zeroCells, hzs, hcs, ← hes, hol, hnl]
              rw [← Nat.add_mul, ← Nat.add_mul]
              congr 1
              omega
            · obtain ⟨cs, g1, g2⟩ := joinEl hm hol hnl hoel hel' i hi
              refine ⟨cs, killElem hA helem g1, fun j hj => ?_⟩
              have g3 := g2 j hj
              have hlt : i * e.csize + j < (olds ++ news).length := by
                rcases Nat.lt_or_ge (i * e.csize + j) (olds ++ news).length with g | g
                · exact g
                · rw [List.getElem?_eq_none g] at g3; cases g3
              rw [Array.getElem?_append_left (by simpa using hlt), List.append_toArray, List.getElem?_toArray]
              exact g3
        rcases row_cells hR.wrel.heap hid he with ⟨hb, hc0, hxe⟩ | ⟨b, arr, el, fr, olds, hb, hge, hnU, hw, hsz, hcap, hfr, hol, hoc, hoel, harr⟩
        · by_cases h0 : m = 0
          · have hyn : ys = [] := List.eq_nil_of_length_eq_zero (by omega)
            have hnn : news = [] := List.eq_nil_of_length_eq_zero (by rw [hnl, h0]; simp)
            have hrun := run_append_in (w := w) (w' := w) (u := u) (ty := o.type) (A := (β id).blk.map fun b => ⟨b, 0, none⟩) (m := xs.length) (c := (β id).cap) hT htd hu hkn hl hfw (by rw [hxe, h0]; simp) (fun a h => by rw [hb] at h; cases h) (fun _ => rfl)
            rw [← hv] at hrun
            refine finish (bl := β id) hrun rfl (Below.refl _ _) (fun _ _ _ => rfl) (.inl rfl) fun hA => ?_
            unfold ObjAt
            rw [hget_killH, hget_hset_same _ _ _ hid, kill_row]
            exact ⟨helem, .inl ⟨by simp [setB, hb], by simp [setB, hc0], by rw [hxe, hyn]; rfl⟩⟩
          · refine growOut [] (by rw [hxe]; simp) (fun i hi => by rw [hxe] at hi; simp at hi) ?_ (by rw [hxe, hc0]; simp; omega)
            rw [hb]; simp [Builtin.firstCells]
        · by_cases hroom : xs.length + m ≤ (β id).cap
          · have hfit : xs.length * e.csize + news.length ≤ arr.size := by
              rw [hnl, hsz, ← Nat.add_mul]; exact Nat.mul_le_mul_right _ hroom
            have hst := run_storeCells_cells (P := S.P) b (xs.length * e.csize) news 0 w (fun j hj => by
                simp only [World.cell?, hw]
                have : xs.length * e.csize + j < arr.size := by omega
                simp [this]) (fun j hj => by
                have := hfr (xs.length * e.csize + 0 + j) (by omega)
                simp only [World.frozen?, hw]
                simp only [not_and, Nat.not_lt] at this
                simp only [Nat.add_zero] at this ⊢
                cases hd : decide (fr.1 ≤ xs.length * e.csize + j) with
                | true => (have := this (decT hd); simp; try omega)
                | false => (simp at hd; simp; try omega)) hone
            simp only [Nat.add_zero] at hst
            have hrun := run_append_in (w := w) (w' := w.setCells b (xs.length * e.csize) news) (u := u) (ty := o.type) (A := (β id).blk.map fun b => ⟨b, 0, none⟩) (m := xs.length) (c := (β id).cap) hT htd hu hkn hl hfw hroom
              (fun ad h => by rw [hb] at h; cases h; rw [addr_add, Nat.zero_add, ← hes]; exact hst) (fun h => by rw [hb] at h; cases h)
            rw [← hv] at hrun
            obtain ⟨arr', g1, g2, g3, g4, g5, g6, g7, g8⟩ := setCells_heap b news (xs.length * e.csize) w arr el fr hw
            refine finish (bl := β id) hrun rfl ⟨g6, g7, g8, by rw [g5]; exact Nat.le_refl _, fun c hc => g4 c (by omega)⟩ (fun c _ hne => g4 c fun e1 => hne (by rw [hb, e1])) (.inl rfl) fun hA => ?_
            unfold ObjAt
            rw [hget_killH, hget_hset_same _ _ _ hid, kill_row]
            refine ⟨helem, .inr ⟨b, arr', el, fr, by simp [setB, hb], hge, hnU, g1, by rw [g2, hsz]; simp [setB], by rw [hylen]; simpa [setB] using hroom, by rw [g2]; exact hfr, fun i hi => ?_⟩⟩
            obtain ⟨cs, g9, g10⟩ := joinEl hm hol hnl hoel hel' i hi
            refine ⟨cs, killElem hA helem g9, fun j hj => ?_⟩
            have g11 := g10 j hj
            have hlt : i * e.csize + j < (olds ++ news).length := by
              rcases Nat.lt_or_ge (i * e.csize + j) (olds ++ news).length with g | g
              · exact g
              · rw [List.getElem?_eq_none g] at g11; cases g11
            rw [List.length_append] at hlt
            rw [g3, ← g11]
            by_cases hlo : i * e.csize + j < olds.length
            · rw [if_neg (by omega), List.getElem?_append_left hlo]
              exact harr _ hlo
            · rw [if_pos (by omega), List.getElem?_append_right (by omega), hol]
          · refine growOut olds hol hoel ?_ hroom
            rw [hb, ← hes]
            exact first_ok hol hoc (fun _ => rfl)
      · cases hk
    · rename_i e xs hX
      cases hX
      exact appendX_ok hT hn hR hop htd hx hy hk
    · cases hk
  · cases hk
end
end Go.Dp
/- Conversions. -/
set_option autoImplicit false
set_option linter.unusedVariables false
set_option linter.unusedSimpArgs false
namespace Go.Dp
open Go.RowKit

section
variable {S : Base} {n : Nat} {U : Nat → Prop} {β : Nat → Blk} {s : St} {a : Act} {w w' : World} {α : Type} {k : St → Option α} {r : α} {h : Hint} {Q : Exit → Act → World → Prop} {o : Oper}

theorem bytes_below (w : World) (e : TypeId) (s : ByteArray) : Below w.heap.size w (Lib.bytesWorld w e s) := by
  refine ⟨?_, ?_, ?_, by rw [Lib.bytesWorld_size]; omega, fun k hk => Lib.bytesWorld_at_old w e s k hk⟩ <;>
    simp [Lib.bytesWorld, World.freeze, World.alloc, World.drew, -World.alloc_eq, -World.drew_eq]

theorem bytes_cells (w : World) (e : TypeId) (b : List UInt8) (j : Nat) (hj : j < b.length) : (Lib.bytesCells w e ⟨b.toArray⟩)[j]? = some (.int .u8 ((b[j]).toNat : Int)) := by
  simp [Lib.bytesCells, Array.getElem?_append, ByteArray.size, hj]

theorem bytes_size (w : World) (e : TypeId) (b : List UInt8) : (Lib.bytesCells w e ⟨b.toArray⟩).size = grownCap w b.length 0 e ∧ b.length ≤ grownCap w b.length 0 e := by
  have hge := grownCap_ge w b.length 0 e
  refine ⟨?_, hge⟩
  simp [Lib.bytesCells, ByteArray.size]
  omega

theorem seqVal {e : Ty} {X : TV} {vx : Value} {k : List e.den → Option α} (hx : EncV w U β s.heap X vx) (hns : ∀ b, X ≠ ⟨.str, b⟩) (h : elemsC s e X k = some r) : ∃ A n c, vx = .slice A n c := by
  obtain ⟨T, x⟩ := X
  cases T with
  | nils => have hm := hx.one rfl rfl; simp only [EncM] at hm; obtain ⟨c, hv⟩ := hm; exact ⟨_, _, _, (List.cons.inj hv).1⟩
  | list a => have hm := hx.one rfl rfl; simp only [EncM] at hm; obtain ⟨A, c, hv, _⟩ := hm; exact ⟨_, _, _, (List.cons.inj hv).1⟩
  | slw id => have hm := hx.one rfl rfl; simp only [EncM] at hm; obtain ⟨e, xs, _, _, hv⟩ := hm; exact ⟨_, _, _, (List.cons.inj hv).1⟩
  | slv id => have hm := hx.one rfl rfl; simp only [EncM] at hm; obtain ⟨e, xs, A, c, _, _, hv, _⟩ := hm; exact ⟨_, _, _, (List.cons.inj hv).1⟩
  | str => exact absurd rfl (hns x)
  | _ => simp [elemsC] at h

theorem bytes_str (ys : List Int) : (ys.foldl (fun r n => r.push (UInt8.ofNat n.toNat)) ByteArray.empty) = ⟨(bytesOf ys).toArray⟩ := by
  rw [foldl_push_bytes]
  simp [bytesOf, ByteArray.empty, ByteArray.emptyWithCapacity]
  rfl

theorem convC_ok (hT : TIok S.P S.E) (hn : h.n = n) (hR : FRel S n U β s a w) {src dst : Nat} {x : Operand} (hop : o.op = .convert src dst x)
    (hk : convC S.E h s o.dst src dst (ev S.E s src x) k = some r) : o.wp S.P a w (Handed S n U β s w k r) Q := by
  have hx := hR.ev src x
  generalize ev S.E s src x = X at hx hk
  have hrunOp : ∀ {v : Value} {w' : World}, (convert src dst (a.eval x)).run S.P w = .ok v w' → (execOp a.eval o).run S.P w = .ok (.value v) w' := by
    intro v w' hrun
    simp only [execOp, hop, Sem.run_bind, hrun, Result.andThen_ok, Sem.run_pure]
  unfold convC at hk
  split at hk
  · rename_i kd k' m htd
    obtain ⟨info, d, hK⟩ := hT.known_td (t := dst) (by rw [htd]; simp)
    obtain rfl := td_int (hK.td.trans htd)
    split at hk
    · rename_i ks hts
      obtain ⟨info', d', hK'⟩ := hT.known_td (t := src) (by rw [hts]; simp)
      obtain rfl := td_int (hK'.td.trans hts)
      have hv := hx.int
      exact value_ok hn hR (hrunOp (by simp [hv, convert, run_underlying hK.und, run_underlying hK'.und, Conv.intToInt])) (.mk_int _ _) hk
    · cases hk
  · rename_i b htd
    obtain ⟨info, d, hK⟩ := hT.known_td (t := dst) (by rw [htd]; simp)
    obtain rfl := td_str (hK.td.trans htd)
    split at hk
    · rename_i hts
      obtain ⟨info', d', hK'⟩ := hT.known_td (t := src) (by rw [hts]; simp)
      obtain rfl := td_str (hK'.td.trans hts)
      have hv := hx.str
      exact value_ok hn hR (hrunOp (by simp [hv, convert, run_underlying hK.und, run_underlying hK'.und])) (.mk_str _) hk
    · cases hk
  · rename_i e b htd
    obtain ⟨info, d, hK⟩ := hT.known_td (t := dst) (by rw [htd]; simp)
    obtain rfl := td_slice (hK.td.trans htd)
    split at hk
    · rename_i hte hts
      obtain ⟨info', d', hK'⟩ := hT.known_td (t := src) (by rw [hts]; simp)
      obtain rfl := td_str (hK'.td.trans hts)
      obtain ⟨info2, d2, hK2⟩ := hT.known_td (t := e) (by rw [hte]; simp)
      obtain rfl := td_int (hK2.td.trans hte)
      have hv := hx.str
      have hsz : (⟨b.toArray⟩ : ByteArray).size = b.length := by simp [ByteArray.size]
      have hrun := hrunOp (v := .slice (some ⟨w.heap.size, 0, none⟩) b.length (grownCap w b.length 0 e)) (w' := Lib.bytesWorld w e ⟨b.toArray⟩) (by
        rw [hv, Lib.run_convert_string_bytes w src dst e _ hK'.und hK.und hK2.und, hsz])
      have hbel := bytes_below w e ⟨b.toArray⟩
      obtain ⟨hcs, hcap⟩ := bytes_size w e b
      have hil : (intsOf b).length = b.length := by simp [intsOf]
      have hig : ∀ i (hi : i < (intsOf b).length), (intsOf b)[i] = ((b[i]'(by omega)).toNat : Int) := fun i hi => by simp [intsOf]
      cases hown : h.isOwn o.dst with
      | true =>
        rw [hown] at hk
        simp only [cond_true] at hk
        unfold Oper.wp
        rw [hrun]
        have hA : ∀ app, Adv w U β s.heap (Lib.bytesWorld w e ⟨b.toArray⟩) U (setB β s.heap.length ⟨some w.heap.size, grownCap w b.length 0 e⟩) (s.heap ++ [⟨.row (.int .u8), intsOf b⟩]) app := fun app => Adv.push hR.wrel.uin hbel _ _ (fun b e => by cases e; exact Nat.le_refl _)
        have hP := hR.push hbel (x := ⟨.row (.int .u8), intsOf b⟩) (bl := ⟨some w.heap.size, grownCap w b.length 0 e⟩) (fun b e => by cases e; exact Nat.le_refl _) (by
          unfold ObjAt
          rw [hget_append_at]
          refine ⟨rfl, .inr ⟨w.heap.size, _, e, _, by simp [setB], hR.wrel.below.size, fun hu => by have := hR.wrel.uin _ hu; omega, Lib.bytesWorld_at_new w e _, ?_, by simp only [setB, if_true]; rw [hil]; exact hcap, fun j hj => by simp; omega, fun i hi => ?_⟩⟩
          · simp only [setB, if_true, Ty.csize, Nat.mul_one]; exact hcs
          · refine ⟨[.int .u8 ((b[i]'(by omega)).toNat : Int)], by simp only [EncM]; rw [hig i hi], fun j hj => ?_⟩
            obtain rfl : j = 0 := by simp at hj; omega
            have := bytes_cells w e b i (by omega)
            simpa [Ty.csize] using this)
        refine putC_ok hn hP (.inr ⟨rfl, ?_⟩) (hA _) (fun _ _ h => h) hk
        simp only [EncM]
        exact ⟨.int .u8, intsOf b, by simp, hget_append_at, by simp [setB, hil, Value.cells]⟩
      | false =>
        rw [hown] at hk
        simp only [cond_false] at hk
        unfold Oper.wp
        rw [hrun]
        have hW : ∀ c, withB U w.heap.size c ↔ U c ∨ (w.heap.size ≤ c ∧ c < (Lib.bytesWorld w e ⟨b.toArray⟩).heap.size ∧ withB U w.heap.size c) := by
          intro c
          unfold withB
          rw [Lib.bytesWorld_size]
          constructor
          · rintro (h | rfl)
            · exact .inl h
            · exact .inr ⟨Nat.le_refl _, by omega, .inr rfl⟩
          · rintro (h | ⟨h1, h2, h⟩)
            · exact .inl h
            · exact h
        have hG := hR.grow hbel hW
        have hA : ∀ app, Adv w U β s.heap (Lib.bytesWorld w e ⟨b.toArray⟩) (withB U w.heap.size) β s.heap app := fun app => Adv.grow hbel.block hR.wrel.uin (fun b hb => .inl hb) (withB_un w U)
        refine putC_ok hn hG (.inr ⟨rfl, ?_⟩) (hA _) (fun _ _ h => h) hk
        simp only [EncM]
        refine ⟨some ⟨w.heap.size, 0, none⟩, grownCap w b.length 0 e, by rw [hil]; rfl, by rw [hil]; exact hcap, fun hp => ⟨w.heap.size, 0, rfl, .inr rfl, fun i hi => ?_⟩⟩
        refine ⟨[.int .u8 ((b[i]'(by omega)).toNat : Int)], by rw [hig i hi], fun j hj => ?_⟩
        obtain rfl : j = 0 := by simp at hj; omega
        have := bytes_cells w e b i (by omega)
        simp only [World.cell?, Lib.bytesWorld_at_new]
        simpa [Ty.csize] using this
    · cases hk
  · rename_i X' htd hne
    obtain ⟨info, d, hK⟩ := hT.known_td (t := dst) (by rw [htd]; simp)
    obtain rfl := td_str (hK.td.trans htd)
    split at hk
    · rename_i e hts
      obtain ⟨info', d', hK'⟩ := hT.known_td (t := src) (by rw [hts]; simp)
      obtain rfl := td_slice (hK'.td.trans hts)
      split at hk
      · rename_i hte
        obtain ⟨info2, d2, hK2⟩ := hT.known_td (t := e) (by rw [hte]; simp)
        obtain rfl := td_int (hK2.td.trans hte)
        obtain ⟨ys, news, m, hk, hm, hl, hnl, hf, hel⟩ := elemsC_ok (P := S.P) (E := S.E) hR.wrel.heap hx hk
        have hnews : news = ys.map (Value.int .u8) := by
          apply List.ext_getElem?
          intro i
          by_cases hi : i < ys.length
          · obtain ⟨cs, h1, h2⟩ := hel i hi
            simp only [EncM] at h1
            subst h1
            have := h2 0 (by simp)
            simp only [Ty.csize, Nat.mul_one, Nat.add_zero] at this
            rw [this]
            simp [hi]
          · rw [List.getElem?_eq_none (by simp only [Ty.csize, Nat.mul_one] at hnl; omega), List.getElem?_eq_none (by simpa using hi)]
        have hfw := hf w fun _ _ => rfl
        have hll := hl w
        obtain ⟨A, l, c, hv⟩ := seqVal hx (fun b e => hne b e) (by assumption)
        rw [hv] at hll hfw
        obtain rfl : l = m := by simpa [Builtin.lenOf] using hll
        refine value_ok hn hR (hrunOp (v := .string ⟨(bytesOf ys).toArray⟩) (w' := w) ?_) (.mk_str _) hk
        rw [hv, run_convert_bytes_string w src dst e A l c hK'.und hK2.und hK.und]
        cases A with
        | none =>
          have h0 : ys = [] := by
            simp only [Builtin.firstCells, Sem.run_pure] at hfw
            have := congrArg (fun z => match z with | Result.ok (x : Array Value) _ => x.size | _ => 0) hfw
            simp at this
            rw [hnews] at this
            simp at this
            exact List.eq_nil_of_length_eq_zero this.symm
          subst h0
          simp [Conv.bytesToString, bytesOf]
          rfl
        | some A =>
          simp only [Builtin.firstCells, Ty.csize, Nat.mul_one] at hfw
          rw [hnews] at hfw
          rw [run_bytesToString w A l c ys hfw, bytes_str]
      · cases hk
    · cases hk
  · cases hk
end
end Go.Dp

/- Values that no longer change. -/
set_option autoImplicit false
set_option linter.unusedVariables false
set_option linter.unusedSimpArgs false
namespace Go.Dp
open Go.RowKit

section
variable {w : World} {U U2 : Nat → Prop} {β : Nat → Blk} {H : Heap} {B : Nat}

theorem EncM.more (hU : ∀ b, U b → U2 b) (t : Ty) (m : Bool) (x : t.den) (l : List Value) (h : EncM w U β H m t x l) : EncM w U2 β H m t x l :=
  h.advC (app := []) ⟨hU, fun _ _ => rfl, Nat.le_refl _, fun _ _ xs _ h => ⟨xs, h, fun _ => ⟨rfl, rfl⟩⟩, fun _ _ h => ⟨rfl, rfl, h⟩⟩ _ _ _ _ (avoids_nil t)

theorem deepV_isAgg (r : Nat → TV) (t : Ty) (x : t.den) : (deepV H r t x).t.isAgg = t.isAgg := by
  cases t with
  | slw id => simp only [deepV]; split <;> rfl
  | slv id => simp only [deepV]; split <;> rfl
  | loc id ix p =>
    cases ix with
    | true => rfl
    | false =>
      cases p with
      | cons f p => rfl
      | nil => simp only [deepV]; cases (Ty.isUnk _ || Ty.isObj _) <;> rfl
  | _ => rfl

theorem deepV_unk (r : Nat → TV) (t : Ty) (x : t.den) (h : t.isUnk = true) : (deepV H r t x).t.isUnk = true := by
  cases t <;> simp [Ty.isUnk] at h
  rfl

theorem list_of_row {e : Ty} {xs : List e.den} {A : Option Addr} {n c : Nat} (hn : n = xs.length) (hc : n ≤ c) (h : 0 < n → ∃ b off, A = some ⟨b, off, none⟩ ∧ U2 b ∧ ∀ i (hi : i < xs.length), ∃ cs, EncM w U2 β H false e xs[i] cs ∧ cellsAt w b (off + i * e.csize) cs) :
    EncM w U2 β H false (.list e) xs [.slice A n c] := by
  subst hn
  simp only [EncM]
  exact ⟨A, c, rfl, hc, h⟩

theorem deepV_ok (hH : HRel w U β H B) (hU : ∀ b, U b → U2 b) (hO : ∀ id b, id < H.length → (β id).blk = some b → U2 b) (r : Nat → TV)
    (hr : ∀ id, id < H.length → (hget H id).t.isObj = false → ∀ cs, EncM w U β H false (hget H id).t (hget H id).v cs → (r id).t.isUnk = true ∨ EncM w U2 β H false (r id).t (r id).v cs)
    (hr2 : ∀ id, (hget H id).t.isObj = true → ((r id).t.isUnk || (r id).t.isObj) = true) :
    ∀ (t : Ty) (m : Bool) (x : t.den) (l : List Value), EncM w U β H m t x l → EncM w U2 β H m (deepV H r t x).t (deepV H r t x).v l := by
  intro t
  induction t with
  | scons a b iha ihb =>
    intro m x l h
    cases m <;> simp only [EncM] at h
    · obtain ⟨l1, l2, rfl, h1, h2⟩ := h
      simp only [deepV, EncM]
      exact ⟨l1, l2, rfl, iha false _ _ h1, ihb false _ _ h2⟩
    · obtain ⟨v, l2, rfl, h1, h2⟩ := h
      simp only [deepV, EncM]
      refine ⟨v, l2, rfl, ?_, ihb true _ _ h2⟩
      rcases h1 with h1 | ⟨h1, h3⟩
      · exact .inl (deepV_unk _ _ _ h1)
      · exact .inr ⟨by rw [deepV_isAgg]; exact h1, iha false _ _ h3⟩
  | tup b ih =>
    intro m x l h
    cases m <;> simp only [EncM] at h
    obtain ⟨vs, rfl, h⟩ := h
    simp only [deepV, EncM]
    exact ⟨vs, rfl, ih true _ _ h⟩
  | fn f c ih =>
    intro m x l h
    cases m <;> simp only [EncM] at h
    obtain ⟨vs, rfl, h⟩ := h
    simp only [deepV, EncM]
    exact ⟨vs, rfl, ih true _ _ h⟩
  | bm f c ih =>
    intro m x l h
    cases m <;> simp only [EncM] at h
    obtain ⟨vs, rfl, h⟩ := h
    simp only [deepV, EncM]
    exact ⟨vs, rfl, ih true _ _ h⟩
  | hl b ih =>
    intro m x l h
    cases m <;> simp only [EncM] at h
    obtain ⟨bb, off, c, vs, rfl, h0, h1, h2, h3, h4⟩ := h
    have h5 := ih true _ _ h2
    have hl : chLen (deepV H r b x).t = chLen b := by rw [← chLen_len (s := ⟨[], H, []⟩) _ _ _ h5, ← chLen_len (s := ⟨[], H, []⟩) _ _ _ h2]
    simp only [deepV, EncM]
    exact ⟨bb, off, c, vs, by rw [hl], by rw [hl]; exact h0, hU _ h1, h5, h3, h4⟩
  | iface t a ih =>
    intro m x l h
    cases m <;> simp only [EncM] at h
    obtain ⟨v, rfl, h1, h2⟩ := h
    simp only [deepV, EncM]
    exact ⟨v, rfl, by rw [deepV_isAgg]; exact h1, ih false _ _ h2⟩
  | slw id =>
    intro m x l h
    cases m
    · simp only [EncM] at h
      obtain ⟨e, xs, h0, h1, rfl⟩ := h
      have e0 : deepV H r (.slw id) x = ⟨.list e, xs⟩ := by simp only [deepV, h1]
      rw [e0]
      rcases row_cells hH h0 h1 with ⟨hb, hc, rfl⟩ | ⟨b, arr, el, fr, olds, hb, _, _, hw, hsz, hcap, _, _, _, _, _⟩
      · exact list_of_row rfl (by simp) (fun hp => by simp at hp)
      · refine list_of_row rfl hcap fun hp => ⟨b, 0, by rw [hb]; rfl, hO id b h0 hb, fun i hi => ?_⟩
        obtain ⟨_, hrow⟩ := (hH.obj id h0).row h1
        rcases hrow with ⟨hb', _⟩ | ⟨b', arr', el', fr', hb', _, _, hw', _, _, _, hel⟩
        · rw [hb'] at hb; cases hb
        · obtain rfl : b' = b := by rw [hb'] at hb; exact Option.some.inj hb
          obtain ⟨cs, h4, h5⟩ := hel i hi
          refine ⟨cs, h4.more hU, fun j hj => ?_⟩
          simp only [World.cell?, hw', Nat.zero_add]
          simpa using h5 j hj
    · simp [EncM] at h
  | slv id =>
    intro m x l h
    cases m
    · simp only [EncM] at h
      obtain ⟨e, xs, A, c, h0, h1, rfl, hc, hle, hA⟩ := h
      have e0 : deepV H r (.slv id) x = ⟨.list e, cut xs x.1 (x.1 + x.2)⟩ := by simp only [deepV, h1]
      rw [e0]
      have hcl : (cut xs x.1 (x.1 + x.2)).length = x.2 := by rw [cut_length _ _ _ hle]; omega
      refine list_of_row hcl.symm hc fun hp => ?_
      obtain ⟨b, hb, rfl⟩ := hA hp
      refine ⟨b, x.1 * e.csize, rfl, hO id b h0 hb, fun i hi => ?_⟩
      obtain ⟨_, hrow⟩ := (hH.obj id h0).row h1
      rcases hrow with ⟨hb', _⟩ | ⟨b', arr', el', fr', hb', _, _, hw', _, _, _, hel⟩
      · rw [hb'] at hb; cases hb
      · obtain rfl : b' = b := by rw [hb'] at hb; exact Option.some.inj hb
        obtain ⟨hi', hc'⟩ := cut_getElem xs x.1 (x.1 + x.2) i hi
        obtain ⟨cs, h4, h5⟩ := hel (x.1 + i) hi'
        refine ⟨cs, by rw [hc']; exact h4.more hU, fun j hj => ?_⟩
        simp only [World.cell?, hw']
        rw [← Nat.add_mul]
        simpa using h5 j hj
    · simp [EncM] at h
  | loc id ix p =>
    intro m x l h
    cases ix with
    | true => exact h.more hU
    | false =>
      cases p with
      | cons f p => exact h.more hU
      | nil =>
        cases m
        · have hf := h
          simp only [EncM] at h
          obtain ⟨b, off, rfl, h0, hb, hnr, _, hof⟩ := h
          simp only [deepV]
          cases hc : ((r id).t.isUnk || (r id).t.isObj) with
          | true => exact hf.forget rfl rfl
          | false =>
            simp only [cond_false]
            simp only [Bool.or_eq_false_iff] at hc
            have hob : (hget H id).t.isObj = false := by
              cases ho : (hget H id).t.isObj with
              | false => rfl
              | true =>
                have := hr2 id ho
                rw [hc.1, hc.2] at this
                cases this
            obtain ⟨b', cs, el, fr, h1, _, _, h2, _, h3, _⟩ := (hH.obj id h0).box hob
            obtain rfl : b' = b := by rw [h1] at hb; exact Option.some.inj hb
            have h4 := (hr id h0 hob _ h3).resolve_left (by rw [hc.1]; simp)
            simp only [EncM]
            refine ⟨b', off, cs.toList, rfl, hO id b' h0 hb, h4, ?_⟩
            have : off = 0 := by simpa [pathOff] using hof
            rw [this]
            exact cellsAt_block h2
        · simp [EncM] at h
  | _ => intro m x l h; exact h.more hU

theorem deepF_ok (hH : HRel w U β H B) (hU : ∀ b, U b → U2 b) (hO : ∀ id b, id < H.length → (β id).blk = some b → U2 b) : ∀ (n : Nat) (x : TV) (m : Bool) (l : List Value), EncM w U β H m x.t x.v l → EncM w U2 β H m (deepF H n x).t (deepF H n x).v l := by
  intro n
  induction n with
  | zero =>
    intro x m l h
    exact deepV_ok hH hU hO _ (fun _ _ _ _ _ => .inl rfl) (fun _ _ => rfl) _ _ _ _ h
  | succ n ih =>
    intro x m l h
    refine deepV_ok hH hU hO _ (fun id _ _ cs hcs => .inr (ih _ _ _ hcs)) (fun id ho => ?_) _ _ _ _ h
    generalize hget H id = z at ho
    obtain ⟨t, v⟩ := z
    cases t <;> simp [Ty.isObj] at ho <;> cases n <;> rfl

theorem deepF_isAgg (n : Nat) (x : TV) : (deepF H n x).t.isAgg = x.t.isAgg := by
  cases n <;> exact deepV_isAgg _ _ _
theorem deepF_unk (n : Nat) (x : TV) (h : x.t.isUnk = true) : (deepF H n x).t.isUnk = true := by
  cases n <;> exact deepV_unk _ _ _ h

theorem deepF_val (hH : HRel w U β H B) (hU : ∀ b, U b → U2 b) (hO : ∀ id b, id < H.length → (β id).blk = some b → U2 b) (n : Nat) {x : TV} {v : Value} (h : EncV w U β H x v) : EncV w U2 β H (deepF H n x) v := by
  rcases h with h | ⟨h1, h2⟩
  · exact .inl (deepF_unk n x h)
  · exact .inr ⟨by rw [deepF_isAgg]; exact h1, deepF_ok hH hU hO n x _ _ h2⟩

theorem noMem_any {w' : World} {U' : Nat → Prop} {β' : Nat → Blk} {H' : Heap} : ∀ (t : Ty) (m : Bool) (x : t.den) (l : List Value), t.noMem = true → EncM w U β H m t x l → EncM w' U' β' H' m t x l := by
  intro t
  induction t with
  | scons a b iha ihb =>
    intro m x l hn h
    simp only [Ty.noMem, Bool.and_eq_true] at hn
    cases m <;> simp only [EncM] at h ⊢
    · obtain ⟨l1, l2, rfl, h1, h2⟩ := h
      exact ⟨l1, l2, rfl, iha false _ _ hn.1 h1, ihb false _ _ hn.2 h2⟩
    · obtain ⟨v, l2, rfl, h1, h2⟩ := h
      exact ⟨v, l2, rfl, h1.imp_right fun h => ⟨h.1, iha false _ _ hn.1 h.2⟩, ihb true _ _ hn.2 h2⟩
  | tup b ih =>
    intro m x l hn h
    cases m <;> simp only [EncM] at h ⊢
    obtain ⟨vs, rfl, h⟩ := h
    exact ⟨vs, rfl, ih true _ _ hn h⟩
  | int k => intro m x l _ h; cases m <;> simp only [EncM] at h ⊢ <;> exact h
  | bool => intro m x l _ h; cases m <;> simp only [EncM] at h ⊢ <;> exact h
  | str => intro m x l _ h; cases m <;> simp only [EncM] at h ⊢ <;> exact h
  | nilf => intro m x l _ h; cases m <;> simp only [EncM] at h ⊢ <;> exact h
  | nils => intro m x l _ h; cases m <;> simp only [EncM] at h ⊢ <;> exact h
  | nilp => intro m x l _ h; cases m <;> simp only [EncM] at h ⊢ <;> exact h
  | nili => intro m x l _ h; cases m <;> simp only [EncM] at h ⊢ <;> exact h
  | snil => intro m x l _ h; cases m <;> simp only [EncM] at h ⊢ <;> exact h
  | _ => intro m x l hn; simp [Ty.noMem] at hn
end
end Go.Dp
/- A row that is given away. -/
set_option autoImplicit false
set_option linter.unusedVariables false
set_option linter.unusedSimpArgs false
namespace Go.Dp
open Go.RowKit

section
variable {S : Base} {n : Nat} {U : Nat → Prop} {β : Nat → Blk} {s : St} {a : Act} {w w' : World}

theorem frzId_mem : ∀ {l : List TV} {id : Nat}, frzId l = some id → ∃ v, (⟨.slw id, v⟩ : TV) ∈ l := by
  intro l
  induction l with
  | nil => intro id h; cases h
  | cons x l ih =>
    intro id h
    obtain ⟨t, v⟩ := x
    cases t
    case slw j => simp only [frzId] at h; cases h; exact ⟨v, List.mem_cons_self⟩
    all_goals (simp only [frzId] at h; obtain ⟨v', hm⟩ := ih h; exact ⟨v', List.mem_cons_of_mem _ hm⟩)

theorem frzL_len (id : Nat) (e : Ty) (xs : List e.den) : ∀ l : List TV, (frzL id e xs l).length = l.length := by
  intro l; induction l with
  | nil => rfl
  | cons x l ih => simp [frzL, ih]
theorem frzL_get (id : Nat) (e : Ty) (xs : List e.den) : ∀ (l : List TV) (i : Nat) (h : i < (frzL id e xs l).length), (frzL id e xs l)[i] = frzT id e xs (l[i]'(by rw [frzL_len] at h; exact h)) := by
  intro l; induction l with
  | nil => intro i h; simp [frzL] at h
  | cons x l ih =>
    intro i h
    cases i with
    | zero => rfl
    | succ i => exact ih i (by simpa [frzL] using h)

theorem freeze_ok (hR : FRel S n U β s a w) {id : Nat} {e : Ty} {xs : List e.den} (hid : id < s.heap.length) (he : hget s.heap id = ⟨.row e, xs⟩) :
    ∃ U' β', FRel S n U' β' (frzS s id e) a w ∧ Adv w U β s.heap w U' β' (frzS s id e).heap (frzS s id e).app ∧
      ∀ (x : TV) (v : Value), EncV w U β s.heap x v → EncV w U' β' (frzS s id e).heap (frzT id e xs x) v := by
  have hO := hR.wrel.heap.obj id hid
  have helem := (hO.row he).1
  let bl : Blk := ⟨none, 0⟩
  let U' : Nat → Prop := fun c => U c ∨ (β id).blk = some c
  let H' : Heap := killH (Nat.beq id) (hset s.heap id ⟨.row e, []⟩)
  have hU' : ∀ c, U c → U' c := fun c h => .inl h
  have hA0 : Adv w U β s.heap w U (setB β id bl) H' [id] := Adv.appended hid he (fun _ _ => rfl) (fun _ _ _ => rfl) (.inr fun c h => by simp [bl] at h)
  have hA : Adv w U β s.heap w U' (setB β id bl) H' [id] := ⟨⟨hU', hA0.same, hA0.len, hA0.row, hA0.box⟩, fun b hlt hnu hnb => ⟨(hA0.keep b hlt hnu hnb).1, fun h => h.elim hnu (hnb id hid), (hA0.keep b hlt hnu hnb).2.2⟩⟩
  have hlen : H'.length = s.heap.length := by simp only [H']; rw [length_killH, length_hset]
  have hgk : ∀ i, i ≠ id → hget H' i = killT (Nat.beq id) (hget s.heap i) := fun i hi => by
    simp only [H']; rw [hget_killH, hget_hset_ne _ _ _ _ hi]
  have hgetid : hget H' id = ⟨.row e, []⟩ := by
    simp only [H']; rw [hget_killH, hget_hset_same _ _ _ hid, kill_row]
  have hW : WRel S U' (setB β id bl) H' w := by
    refine ⟨⟨fun i hi => ?_, fun i i' b hi hi' hb hb' => ?_⟩, hR.wrel.below, fun c hc => ?_, fun c hc => ?_, fun g z hz => ?_⟩
    · rw [hlen] at hi
      by_cases e1 : i = id
      · subst e1
        unfold ObjAt
        rw [hgetid]
        exact ⟨helem, .inl ⟨by simp [setB, bl], by simp [setB, bl], rfl⟩⟩
      · refine ObjAt.kill beqMem hA (hR.wrel.heap.obj i hi) (hgk i e1) (by simp [setB, e1]) fun b hb => ⟨rfl, ?_⟩
        rintro (h | h)
        · exact (hR.wrel.blk_lt hi hb).2.2 h
        · exact e1 (hR.wrel.heap.inj i id b hi hid hb h)
    · rw [hlen] at hi hi'
      simp only [setB, bl] at hb hb'
      split at hb
      · cases hb
      · split at hb'
        · cases hb'
        · exact hR.wrel.heap.inj i i' b hi hi' hb hb'
    · rcases hc with hc | hc
      · exact hR.wrel.uin c hc
      · exact (hR.wrel.blk_lt hid hc).1
    · refine ⟨fun h => ?_, fun h => .inl ((hR.wrel.uold c hc).2 h)⟩
      rcases h with h | h
      · exact (hR.wrel.uold c hc).1 h
      · exact absurd (hR.wrel.blk_lt hid h).2.1 (by omega)
    · rcases hR.wrel.globs g z hz with e1 | ⟨e1, e2, e3⟩
      · exact .inl e1
      · exact .inr ⟨e1, e2, e3.adv hA (avoids_of_pure _ _ e1)⟩
  have hF : FRel S n U' (setB β id bl) (frzS s id e) a w :=
    ⟨hR.defers, hR.size, fun i => by
      show EncV w U' _ _ (lookTV (killR (Nat.beq id) s.regs) i) _
      rw [look_killR]
      exact (hR.regs i).kill beqMem hA, hW⟩
  refine ⟨U', setB β id bl, hF, ⟨⟨hA.use, hA.same, hA.len, fun i e' xs' hi he' => ?_, hA.box⟩, hA.keep⟩, fun x v hx => ?_⟩
  · obtain ⟨ys', g1, g2⟩ := hA.row i e' xs' hi he'
    exact ⟨ys', g1, fun hn => g2 fun hm => hn (by rw [List.mem_singleton.1 hm]; exact List.mem_cons_self)⟩
  · have other : EncV w U' (setB β id bl) H' (killT (Nat.beq id) x) v := hx.kill beqMem hA
    obtain ⟨t, y⟩ := x
    cases t
    case slw j =>
      simp only [frzT]
      cases hj : Nat.beq id j with
      | false =>
        have : killT (Nat.beq id) ⟨.slw j, y⟩ = ⟨.slw j, y⟩ := by simp [killT, killV, hj]
        rw [this] at other
        exact other
      | true =>
        obtain rfl := beqN hj
        have hm := hx.one rfl rfl
        simp only [EncM] at hm
        obtain ⟨e', xs', _, he', hv⟩ := hm
        have hv := (List.cons.inj hv).1
        rw [he] at he'
        cases he'
        show EncV w U' (setB β id bl) H' ⟨.list e, xs⟩ v
        refine .inr ⟨by rw [hv]; rfl, ?_⟩
        rw [hv]
        simp only [EncM, Value.cells]
        obtain ⟨_, h0 | ⟨b, arr, el, fr, h1, h2, h3, h4, h5, h6, h7, h8⟩⟩ := hO.row he
        · obtain ⟨g1, g2, g3⟩ := h0
          subst g3
          exact ⟨_, _, rfl, Nat.zero_le _, fun h => absurd h (by simp)⟩
        · refine ⟨_, _, rfl, h6, fun _ => ⟨b, 0, by rw [h1]; rfl, .inr h1, fun i hi => ?_⟩⟩
          obtain ⟨cs, q1, q2⟩ := h8 i hi
          refine ⟨cs, (EncM.more hU' _ _ _ _ q1).pure_any _ _ _ _ (elem_pure helem), fun j hj => ?_⟩
          have := q2 j hj
          simp only [World.cell?, h4, Nat.zero_add]
          exact this
    all_goals exact other
end

section
variable {S : Base} {n : Nat} {U : Nat → Prop} {β : Nat → Blk} {s : St} {w : World} {α : Type} {k : St → Option α} {r : α}
/-- A step from a state that one has come to. -/
theorem Handed.after {s1 : St} {U1 : Nat → Prop} {β1 : Nat → Blk} {w1 : World} {a' : Act} {w' : World} (hA : Adv w U β s.heap w1 U1 β1 s1.heap s1.app) (hm : ∀ id, id < s.heap.length → id ∈ s.app → id ∈ s1.app)
    (h : Handed S n U1 β1 s1 w1 k r a' w') : Handed S n U β s w k r a' w' := by
  obtain ⟨s', U', β', h1, h2, h3, h4⟩ := h.out
  exact ⟨s', U', β', h1, h2, hA.trans h3 fun id hl hi => h4 id (Nat.lt_of_lt_of_le hl hA.len) hi, fun id hl hi => h4 id (Nat.lt_of_lt_of_le hl hA.len) (hm id hl hi)⟩
end
end Go.Dp
/- Maps that a call makes; rows that a function turns in place. -/
set_option autoImplicit false
set_option linter.unusedVariables false
set_option linter.unusedSimpArgs false
namespace Go.Dp
open Go.RowKit

theorem td_map {d : TypeDesc} {k e : Nat} (h : tdOf d = .map k e) : d = .map k e := by
  cases d <;> simp_all [tdOf]

/-- Where a key stands. -/
def mfindI {κ ν : Type} (eq : κ → κ → Bool) : List (κ × ν) → κ → Option Nat
  | [], _ => none
  | (a, b) :: l, k => bif eq k a then some 0 else (mfindI eq l k).map (· + 1)
theorem mfindI_lt {κ ν : Type} {eq : κ → κ → Bool} : ∀ {l : List (κ × ν)} {k : κ} {i : Nat}, mfindI eq l k = some i → i < l.length := by
  intro l
  induction l with
  | nil => intro k i h; cases h
  | cons p l ih =>
    obtain ⟨a, b⟩ := p
    intro k i h
    simp only [mfindI] at h
    cases hb : eq k a with
    | true => rw [hb] at h; cases h; simp
    | false =>
      rw [hb] at h
      obtain ⟨j, hj, rfl⟩ := Option.map_eq_some_iff.1 h
      have := ih hj
      simp; omega
theorem mfind_eq {κ ν : Type} {eq : κ → κ → Bool} : ∀ (l : List (κ × ν)) (k : κ), mfind eq l k = (mfindI eq l k).bind fun i => (l[i]?).map (·.2) := by
  intro l
  induction l with
  | nil => intro k; rfl
  | cons p l ih =>
    obtain ⟨a, b⟩ := p
    intro k
    simp only [mfind, mfindI]
    cases hb : eq k a with
    | true => rfl
    | false => simp only [cond_false]; rw [ih k]; cases mfindI eq l k <;> simp
theorem mput_eq {κ ν : Type} {eq : κ → κ → Bool} : ∀ (l : List (κ × ν)) (k : κ) (v : ν), mput eq l k v = match mfindI eq l k with | some i => l.set i (k, v) | none => l ++ [(k, v)] := by
  intro l
  induction l with
  | nil => intro k v; rfl
  | cons p l ih =>
    obtain ⟨a, b⟩ := p
    intro k v
    simp only [mput, mfindI]
    cases hb : eq k a with
    | true => rfl
    | false => simp only [cond_false]; rw [ih k v]; cases mfindI eq l k <;> simp

section
variable {S : Base} {n : Nat} {U : Nat → Prop} {β : Nat → Blk} {s : St} {a : Act} {w : World} {α : Type} {k : St → Option α} {r : α} {h : Hint} {Q : Exit → Act → World → Prop} {o : Oper}

theorem keyK_elem {td : TD} {K : Ty} (h : keyK td K = true) : K.elem = true := by
  unfold keyK at h
  split at h <;> first | rfl | cases h
theorem beq_bytes (s t : List UInt8) : ((⟨s.toArray⟩ : ByteArray) == ⟨t.toArray⟩) = (s == t) := by
  rw [Bool.eq_iff_iff, Go.MapKept.bytes_beq, beq_iff_eq]
  constructor
  · intro h
    have := congrArg (fun b : ByteArray => b.data.toList) h
    simpa using this
  · rintro rfl; rfl
theorem sameNow_key {H : Heap} {td : TD} {K : Ty} (hk : keyK td K = true) {d : TypeDesc} (hd : tdOf d = td) {x y : K.den} {v u : Value} (hv : EncV w U β H ⟨K, x⟩ v) (hu : EncV w U β H ⟨K, y⟩ u) :
    Instr.sameNow d v u = some (eqv K x y) := by
  unfold keyK at hk
  split at hk
  · have e1 := EncV.str hv
    have e2 := EncV.str hu
    subst e1; subst e2
    obtain rfl := td_str hd
    simp only [Instr.sameNow, beq_bytes]
    rfl
  · rename_i k k'
    obtain rfl := of_decide_eq_true hk
    have e1 := EncV.int hv
    have e2 := EncV.int hu
    subst e1; subst e2
    obtain rfl := td_int hd
    simp only [Instr.sameNow, if_true]
    rfl
  · cases hk
theorem checkKey_key {H : Heap} {P : Program} {td : TD} {K : Ty} (hk : keyK td K = true) {kt : Nat} {d : TypeDesc} (hd : tdOf d = td) (hu : (underlying kt).run P w = .ok d w) {x : K.den} {v : Value} (hv : EncV w U β H ⟨K, x⟩ v) (e : Bool) :
    (Instr.checkKey e 10000 kt v).run P w = .ok () w := by
  unfold keyK at hk
  split at hk
  · have e1 := EncV.str hv
    subst e1
    obtain rfl := td_str hd
    show (Instr.checkKey e (9999 + 1) kt _).run P w = .ok () w
    unfold Instr.checkKey
    simp only [Sem.run_bind, hu, Result.andThen_ok, Sem.run_pure]
  · rename_i k k'
    have e1 := EncV.int hv
    subst e1
    obtain rfl := td_int hd
    show (Instr.checkKey e (9999 + 1) kt _).run P w = .ok () w
    unfold Instr.checkKey
    simp only [Sem.run_bind, hu, Result.andThen_ok, Sem.run_pure]
  · cases hk
theorem sameBits_key {H : Heap} {td : TD} {K : Ty} (hk : keyK td K = true) {x y : K.den} {v u : Value} (hv : EncV w U β H ⟨K, x⟩ v) (hu : EncV w U β H ⟨K, y⟩ u) (he : eqv K x y = true) : Instr.sameBits 10000 u v = true := by
  unfold keyK at hk
  split at hk
  · have e1 := EncV.str hv
    have e2 := EncV.str hu
    subst e1; subst e2
    have he : x = y := by simpa [eqv] using he
    subst he
    simp [Instr.sameBits, (Go.MapKept.bytes_beq _ _).2 rfl]
  · rename_i k k'
    have e1 := EncV.int hv
    have e2 := EncV.int hu
    subst e1; subst e2
    have he : x = y := by simpa [eqv] using he
    subst he
    simp [Instr.sameBits]
  · cases hk
theorem findNow_key {H : Heap} {td : TD} {K V : Ty} (hk : keyK td K = true) {d : TypeDesc} (hd : tdOf d = td) {y : K.den} {v : Value} (hv : EncV w U β H ⟨K, y⟩ v) : ∀ (es : List MapEntry) (xs : List (K.den × V.den)) (i0 : Nat), es.length = xs.length →
    (∀ i (h : i < xs.length) (h' : i < es.length), EncV w U β H ⟨K, xs[i].1⟩ es[i].key) →
    Instr.findNow d v es i0 = some ((mfindI (eqv K) xs y).bind fun i => (es[i]?).map fun e => (i0 + i, e.val)) := by
  intro es
  induction es with
  | nil =>
    intro xs i0 hl _
    obtain rfl : xs = [] := List.eq_nil_of_length_eq_zero (by simpa using hl.symm)
    rfl
  | cons e es ih =>
    intro xs i0 hl hx
    cases xs with
    | nil => simp at hl
    | cons p xs =>
      obtain ⟨x1, x2⟩ := p
      have h0 := hx 0 (by simp) (by simp)
      simp only [List.getElem_cons_zero] at h0
      simp only [Instr.findNow, sameNow_key hk hd hv h0, mfindI]
      cases hb : eqv K y x1 with
      | true => simp
      | false =>
        simp only [cond_false]
        rw [ih xs (i0 + 1) (by simpa using hl) fun i h h' => hx (i + 1) (by simpa using h) (by simpa using h')]
        cases mfindI (eqv K) xs y with
        | none => rfl
        | some i => simp only [Option.map_some, Option.bind_some, List.getElem?_cons_succ]; rw [show i0 + 1 + i = i0 + (i + 1) by omega]

theorem makeMapC_ok (hn : h.n = n) (hR : FRel S n U β s a w) {t : Nat} (hop : o.op = .makeMap t none)
    (hk : makeMapC S.E h s o.dst t k = some r) : o.wp S.P a w (Handed S n U β s w k r) Q := by
  unfold makeMapC at hk
  split at hk
  · rename_i kt et htd
    obtain ⟨h1, hk⟩ := bif_some hk
    obtain ⟨h1, hcs⟩ := and2 h1
    obtain ⟨h1, hz⟩ := and2 h1
    obtain ⟨hkey, hel⟩ := and2 h1
    unfold Oper.wp
    have hrun : (execOp a.eval o).run S.P w = .ok (.value (.map (some w.heap.size))) (w.alloc (.map #[] 0)) := by
      simp only [execOp, hop, Option.map_none, Instr.makeMap, Sem.run_bind, newObj, Sem.run, Result.andThen_ok]
      rfl
    rw [hrun]
    have hbel := below_new w (.map #[] 0)
    have hA : Adv w U β s.heap (w.alloc (.map #[] 0)) U (setB β s.heap.length ⟨some w.heap.size, 0⟩) (s.heap ++ [⟨.mobj (tiOf S.E kt).ty (tiOf S.E et).ty, []⟩]) s.app := Adv.push hR.wrel.uin hbel _ _ (fun b e => by cases e; exact Nat.le_refl _)
    have hP := hR.push hbel (x := ⟨.mobj (tiOf S.E kt).ty (tiOf S.E et).ty, []⟩) (bl := ⟨some w.heap.size, 0⟩) (fun b e => by cases e; exact Nat.le_refl _) (by
      unfold ObjAt
      rw [hget_append_at]
      exact ⟨keyK_elem hkey, hel, w.heap.size, #[], 0, by simp [setB], hR.wrel.below.size, fun hu => by have := hR.wrel.uin _ hu; omega, heap_alloc_at w _, rfl, fun i hi => absurd hi (by simp)⟩)
    refine putC_ok hn hP (.inr ⟨rfl, ?_⟩) hA (fun _ _ h => h) hk
    simp only [EncM, Value.cells]
    exact ⟨by simp, by rw [hget_append_at]; rfl, w.heap.size, by simp [setB], rfl⟩
  · cases hk

theorem ObjAt.map {id : Nat} {K V : Ty} {xs : List (K.den × V.den)} {H : Heap} {B : Nat} (h : ObjAt w U β H B id) (he : hget H id = ⟨.mobj K V, xs⟩) :
    K.elem = true ∧ V.elem = true ∧ ∃ b es clock, (β id).blk = some b ∧ B ≤ b ∧ ¬ U b ∧ w.heap[b]? = some (.map es clock) ∧ es.size = xs.length ∧
      ∀ i (h : i < xs.length), ∃ en : MapEntry, es[i]? = some en ∧ EncV w U β H ⟨K, xs[i].1⟩ en.key ∧ EncV w U β H ⟨V, xs[i].2⟩ en.val := by
  unfold ObjAt at h
  rw [he] at h
  exact h

theorem lookupC_ok (hT : TIok S.P S.E) (hn : h.n = n) (hR : FRel S n U β s a w) {t : Nat} {x i : Operand} {ok : Bool} (hop : o.op = .lookup t x i ok)
    (hk : lookupC S.E s t (ev S.E s t x) (fun kt => ev S.E s kt i) ok (fun v => putC h s o.dst v k) = some r) : o.wp S.P a w (Handed S n U β s w k r) Q := by
  have hx := hR.ev t x
  generalize ev S.E s t x = X at hx hk
  unfold lookupC at hk
  split at hk
  · rename_i kt et id x' htd
    split at hk
    · rename_i K V xs he
      obtain ⟨h1, hk⟩ := bif_some hk
      obtain ⟨h1, hz⟩ := and2 h1
      obtain ⟨hkey, hV⟩ := and2 h1
      have hV := of_decide_eq_true hV
      split at hk
      · rename_i y hy
        have hy := cast_some hy
        have hkv := hR.ev kt i
        have hy : ev S.E s kt i = ⟨K, y⟩ := hy
        rw [hy] at hkv
        obtain ⟨info, d, hK⟩ := hT.known_td (t := t) (by rw [htd]; simp)
        obtain rfl := td_map (hK.td.trans htd)
        obtain ⟨kinfo, kd, hKk⟩ := hT.known_td (t := kt) (by intro e; rw [e] at hkey; cases hkey)
        obtain ⟨einfo, ed, hKe⟩ := (hT.known et).resolve_right fun e => by rw [e] at hV; subst hV; cases hz
        have hm := hx.one rfl rfl
        simp only [EncM] at hm
        obtain ⟨hid, _, b, hb, hv⟩ := hm
        have hv := (List.cons.inj hv).1
        obtain ⟨_, _, b', es, clock, hb', hge, hnU, hw, hsz, hes⟩ := (hR.wrel.heap.obj id hid).map he
        obtain rfl : b' = b := by rw [hb'] at hb; exact Option.some.inj hb
        have hfind := findNow_key (V := V) hkey hKk.td hkv es.toList xs 0 (by simpa using hsz) (fun j h1 h2 => by
          obtain ⟨en, g1, g2, _⟩ := hes j h1
          have : es.toList[j] = en := by
            have : es.toList[j]? = some en := by simpa using g1
            rw [List.getElem?_eq_getElem h2] at this
            exact Option.some.inj this
          rw [this]; exact g2)
        have hck := checkKey_key hkey hKk.td hKk.runU hkv es.isEmpty
        have hmf := mfind_eq (eq := eqv K) xs y
        have key : ∃ (v : Value) , EncV w U β s.heap ⟨V, (mfind (eqv K) xs y).getD V.dflt⟩ v ∧ (execOp a.eval o).run S.P w = .ok (.value (if ok then .tuple #[v, .bool (mfind (eqv K) xs y).isSome] else v)) w := by
          cases hfi : mfindI (eqv K) xs y with
          | none =>
            rw [hfi] at hfind hmf
            simp only [Option.bind_none] at hmf hfind
            rw [hmf]
            have hz2 : (tiOf S.E et).ty.zOK = true := by rw [← hV]; exact hz
            refine ⟨zval V, zval_ok V hz, ?_⟩
            simp only [execOp, hop, hv, Instr.lookup, Sem.run_bind, hK.runU, Result.andThen_ok, getObj, Sem.run, hw, hck, Instr.findKey, hKk.runU, hfind, Sem.run_pure, zeroValue, hKe.runT, hKe.zero hz2, hV]
            cases ok <;> rfl
          | some j =>
            have hj := mfindI_lt hfi
            obtain ⟨en, g1, _, g3⟩ := hes j hj
            have g1' : es.toList[j]? = some en := by simpa using g1
            rw [hfi] at hfind hmf
            simp only [Option.bind_some, g1', Option.map_some, List.getElem?_eq_getElem hj] at hmf hfind
            rw [hmf]
            refine ⟨en.val, g3, ?_⟩
            simp only [execOp, hop, hv, Instr.lookup, Sem.run_bind, hK.runU, Result.andThen_ok, getObj, Sem.run, hw, hck, Instr.findKey, hKk.runU, hfind, Sem.run_pure]
            cases ok <;> rfl
        obtain ⟨v, g1, g2⟩ := key
        cases ok with
        | false => exact value_ok hn hR g2 g1 hk
        | true =>
          refine value_ok hn hR g2 (.inr ⟨rfl, ?_⟩) hk
          simp only [EncM, Value.cells]
          exact ⟨_, rfl, v, _, rfl, g1, .bool _, _, rfl, .inr ⟨rfl, by simp [EncM, Value.cells]⟩, rfl⟩
      · cases hk
    · cases hk
  · cases hk

theorem mapUpdateC_ok (hT : TIok S.P S.E) (hn : h.n = n) (hR : FRel S n U β s a w) {t : Nat} {x i y : Operand} (hop : o.op = .mapUpdate t x i y)
    (hk : mapUpdateC S.E s t (ev S.E s t x) (fun kt => ev S.E s kt i) (fun et => ev S.E s et y) (fun s => putC h s o.dst .unk k) = some r) : o.wp S.P a w (Handed S n U β s w k r) Q := by
  have hx := hR.ev t x
  generalize ev S.E s t x = X at hx hk
  unfold mapUpdateC at hk
  split at hk
  · rename_i kt et id x' htd
    split at hk
    · rename_i K V xs he
      obtain ⟨hkey, hk⟩ := bif_some hk
      split at hk
      · rename_i y1 z1 hy hz
        have hy := cast_some hy
        have hz := cast_some hz
        have hkv := hR.ev kt i
        have hy : ev S.E s kt i = ⟨K, y1⟩ := hy
        rw [hy] at hkv
        have hzv := hR.ev et y
        have hz : ev S.E s et y = ⟨V, z1⟩ := hz
        rw [hz] at hzv
        obtain ⟨info, d, hK⟩ := hT.known_td (t := t) (by rw [htd]; simp)
        obtain rfl := td_map (hK.td.trans htd)
        obtain ⟨kinfo, kd, hKk⟩ := hT.known_td (t := kt) (by intro e; rw [e] at hkey; cases hkey)
        have hm := hx.one rfl rfl
        simp only [EncM] at hm
        obtain ⟨hid, _, b, hb, hv⟩ := hm
        have hv := (List.cons.inj hv).1
        obtain ⟨hKe, hVe, b', es, clock, hb', hge, hnU, hw, hsz, hes⟩ := (hR.wrel.heap.obj id hid).map he
        obtain rfl : b' = b := by rw [hb'] at hb; exact Option.some.inj hb
        have hlt : b' < w.heap.size := (Array.getElem?_eq_some_iff.1 hw).1
        have hfind := findNow_key (V := V) hkey hKk.td hkv es.toList xs 0 (by simpa using hsz) (fun j h1 h2 => by
          obtain ⟨en, g1, g2, _⟩ := hes j h1
          have : es.toList[j] = en := by
            have : es.toList[j]? = some en := by simpa using g1
            rw [List.getElem?_eq_getElem h2] at this
            exact Option.some.inj this
          rw [this]; exact g2)
        have hck := checkKey_key hkey hKk.td hKk.runU hkv false
        -- what the block is afterwards
        have key : ∃ es' clock', (execOp a.eval o).run S.P w = .ok .skip { w with heap := w.heap.setIfInBounds b' (.map es' clock') } ∧ es'.size = (mput (eqv K) xs y1 z1).length ∧
            ∀ i (h : i < (mput (eqv K) xs y1 z1).length), ∃ en : MapEntry, es'[i]? = some en ∧ EncV w U β s.heap ⟨K, (mput (eqv K) xs y1 z1)[i].1⟩ en.key ∧ EncV w U β s.heap ⟨V, (mput (eqv K) xs y1 z1)[i].2⟩ en.val := by
          rw [mput_eq]
          cases hfi : mfindI (eqv K) xs y1 with
          | none =>
            rw [hfi] at hfind
            simp only [Option.bind_none] at hfind
            refine ⟨es.push { key := a.eval i, val := a.eval y, born := clock }, clock + 1, ?_, by simp [hsz], fun j hj => ?_⟩
            · simp only [execOp, hop, hv, Instr.mapUpdate, Sem.run_bind, hK.runU, Result.andThen_ok, getObj, Sem.run, hw, hck, Instr.findKey, hKk.runU, hfind, Sem.run_pure, setObj]
            · simp only [List.length_append, List.length_cons, List.length_nil] at hj
              by_cases hj' : j < xs.length
              · obtain ⟨en, g1, g2, g3⟩ := hes j hj'
                refine ⟨en, ?_, by rw [List.getElem_append_left hj']; exact g2, by rw [List.getElem_append_left hj']; exact g3⟩
                rw [Array.getElem?_push, if_neg (by omega)]; exact g1
              · have : j = xs.length := by omega
                subst this
                refine ⟨_, by rw [← hsz, Array.getElem?_push, if_pos rfl], ?_, ?_⟩
                · simpa using hkv
                · simpa using hzv
          | some i0 =>
            have hj := mfindI_lt hfi
            obtain ⟨en, g1, g2, g3⟩ := hes i0 hj
            have g1' : es.toList[i0]? = some en := by simpa using g1
            have heq : eqv K y1 xs[i0].1 = true := by
              have : ∀ (l : List (K.den × V.den)) (i : Nat) (hi : i < l.length), mfindI (eqv K) l y1 = some i → eqv K y1 l[i].1 = true := by
                intro l
                induction l with
                | nil => intro i hi; simp at hi
                | cons p l ih =>
                  obtain ⟨p1, p2⟩ := p
                  intro i hi hm
                  simp only [mfindI] at hm
                  cases hb : eqv K y1 p1 with
                  | true => rw [hb] at hm; cases hm; exact hb
                  | false =>
                    rw [hb] at hm
                    obtain ⟨j, h1, rfl⟩ := Option.map_eq_some_iff.1 hm
                    exact ih j (by simpa using hi) h1
              exact this xs i0 hj hfi
            have hsb : Instr.sameBits 10000 en.key (a.eval i) = true := sameBits_key hkey hkv g2 heq
            rw [hfi] at hfind
            simp only [Option.bind_some, g1', Option.map_some, Nat.zero_add] at hfind
            refine ⟨es.modify i0 fun e => { e with key := a.eval i, val := a.eval y }, clock, ?_, by simp [hsz], fun j hj' => ?_⟩
            · simp only [execOp, hop, hv, Instr.mapUpdate, Sem.run_bind, hK.runU, Result.andThen_ok, getObj, Sem.run, hw, hck, Instr.findKey, hKk.runU, hfind, Sem.run_pure, Instr.keyThatStays, g1, Option.map_some, Option.getD_some, hsb, if_true, setObj]
            · simp only [List.length_set] at hj'
              by_cases hji : i0 = j
              · subst hji
                refine ⟨{ en with key := a.eval i, val := a.eval y }, ?_, ?_, ?_⟩
                · rw [Array.getElem?_modify, if_pos rfl, g1]; rfl
                · simpa using hkv
                · simpa using hzv
              · obtain ⟨en', g1', g2', g3'⟩ := hes j hj'
                refine ⟨en', ?_, ?_, ?_⟩
                · rw [Array.getElem?_modify, if_neg hji]; exact g1'
                · simpa [List.getElem_set, hji] using g2'
                · simpa [List.getElem_set, hji] using g3'
        obtain ⟨es', clock', hrun, hsz', hes'⟩ := key
        unfold Oper.wp
        rw [hrun]
        generalize mput (eqv K) xs y1 z1 = ys at hsz' hes' hk
        let w' : World := { w with heap := w.heap.setIfInBounds b' (.map es' clock') }
        have hsame : ∀ c, c ≠ b' → w'.heap[c]? = w.heap[c]? := fun c hc => by
          show (w.heap.setIfInBounds b' _)[c]? = w.heap[c]?
          exact Array.getElem?_setIfInBounds_ne (by omega)
        have hbel : Below b' w w' := ⟨rfl, rfl, rfl, by simp [w'], fun c hc => hsame c (by omega)⟩
        have hfits : Fits (hget s.heap id) ⟨.mobj K V, ys⟩ := by
          rw [he]
          exact ⟨fun e xs h => (by cases h), fun _ => ⟨rfl, fun e ys h => (by cases h)⟩⟩
        have hAdv0 : Adv w U β s.heap w' U β (hset s.heap id ⟨.mobj K V, ys⟩) [] := Adv.set hid (fun c hc => hsame c fun e => hnU (e ▸ hc)) (fun c _ hc => hsame c fun e => hc (by rw [e]; exact hb')) hfits
        obtain ⟨hW, hA⟩ := hR.wrel.update hid hb' hbel hsame hfits (by
          unfold ObjAt
          rw [hget_hset_same _ _ _ hid]
          refine ⟨hKe, hVe, b', es', clock', hb', hge, hnU, ?_, hsz', fun j hj => ?_⟩
          · show (w.heap.setIfInBounds b' _)[b']? = _
            simp [hlt]
          · obtain ⟨en, g1, g2, g3⟩ := hes' j hj
            exact ⟨en, g1, g2.adv hAdv0 (avoids_nil _), g3.adv hAdv0 (avoids_nil _)⟩)
        exact putC_ok (s1 := ⟨s.regs, hset s.heap id ⟨.mobj K V, ys⟩, s.app⟩) hn ⟨hR.defers, hR.size, fun i => (hR.regs i).adv (hA []) (avoids_nil _), hW⟩ (.unk _) (hA _) (fun _ _ h => h) hk
      · cases hk
    · cases hk
  · cases hk

def EnterOK' (P : Program) (f : Nat) : Prop := ∀ (args : Array Value) (w : World), (callFunc f args).run P w = .ok (.enter f args) w
/-- What a function that turns a row in place says of the model's call. -/
structure MContract (P : Program) (f : Nat) (M : MSpec) : Prop where
  noMem : M.e.noMem = true
  enter : EnterOK' P f
  nil : ∀ K zs, M.F K [] = some zs → zs = [] ∧ ∀ w : World, Calls P f #[.slice none 0 0] w fun e w' => (∃ v, e = .returned v) ∧ Below w.heap.size w w'
  row : ∀ K ys zs, M.F K ys = some zs → zs.length = ys.length ∧ ∀ (w : World) (b cap : Nat) (arr : Array Value) (el : TypeId) (fr : Nat × Nat), w.heap[b]? = some (.cells arr el fr) → arr.size = cap * M.e.csize → ys.length ≤ cap → (∀ j, j < arr.size → ¬ (fr.1 ≤ j ∧ j < fr.2)) →
    (∀ i (h : i < ys.length), ∃ cs, EncM w (fun _ => False) (fun _ => ⟨none, 0⟩) [] false M.e ys[i] cs ∧ ∀ j (h : j < cs.length), arr[i * M.e.csize + j]? = some cs[j]) →
    Calls P f #[.slice (some ⟨b, 0, none⟩) ys.length cap] w fun e w' => (∃ v, e = .returned v) ∧ w'.os = w.os ∧ w'.output = w.output ∧ w'.tape = w.tape ∧ w.heap.size ≤ w'.heap.size ∧ (∀ c, c < w.heap.size → c ≠ b → w'.heap[c]? = w.heap[c]?) ∧
      ∃ arr', w'.heap[b]? = some (.cells arr' el fr) ∧ arr'.size = arr.size ∧ ∀ i (h : i < zs.length), ∃ cs, EncM w' (fun _ => False) (fun _ => ⟨none, 0⟩) [] false M.e zs[i] cs ∧ ∀ j (h : j < cs.length), arr'[i * M.e.csize + j]? = some cs[j]

theorem lookM_mem : ∀ {l : List (Nat × MSpec)} {f : Nat} {M : MSpec}, lookM l f = some M → (f, M) ∈ l := by
  intro l
  induction l with
  | nil => intro f M h; cases h
  | cons p l ih =>
    obtain ⟨g, M0⟩ := p
    intro f M h
    simp only [lookM] at h
    cases hb : Nat.beq g f with
    | true => rw [hb] at h; cases h; rw [beqN hb]; exact List.mem_cons_self
    | false => rw [hb] at h; exact List.mem_cons_of_mem _ (ih h)

theorem mutC_ok (hn : h.n = n) (hR : FRel S n U β s a w) {f : Nat} {M : MSpec} (hM : MContract S.P f M) {args : List TV} {vals : List Value} (hl : args.length = vals.length)
    (hv : ∀ i (h : i < args.length) (h' : i < vals.length), EncV w U β s.heap args[i] vals[i]) (hrun : (execOp a.eval o).run S.P w = (callFunc f vals.toArray).run S.P w)
    (hk : mutC S.E h s o.dst M args k = some r) : o.wp S.P a w (Handed S n U β s w k r) Q := by
  unfold mutC at hk
  split at hk
  · rename_i id x'
    split at hk
    · rename_i e xs he
      split at hk
      · rename_i ys hy
        have hy := cast_some hy
        cases hy
        rw [Option.bind_eq_some_iff] at hk
        obtain ⟨zs, hzs, hk⟩ := hk
        obtain ⟨v, rfl⟩ : ∃ v, vals = [v] := List.length_eq_one_iff.1 (by rw [← hl]; rfl)
        have h1 := hv 0 (by simp) (by simp)
        simp only [List.getElem_cons_zero] at h1
        have h1 := h1.one rfl rfl
        simp only [EncM] at h1
        obtain ⟨e', xs', hid, he', hvv⟩ := h1
        rw [he] at he'
        cases he'
        have hvv := (List.cons.inj hvv).1
        subst hvv
        obtain ⟨helem, hrow⟩ := (hR.wrel.heap.obj id hid).row he
        unfold Oper.wp
        rw [hrun, hM.enter]
        simp only [Oper.upon]
        rcases hrow with ⟨hb, hc, rfl⟩ | ⟨b, arr, el, fr, hb, hge, hnU, hw, hsz, hcap, hfr, hel⟩
        · obtain ⟨rfl, hcall⟩ := hM.nil _ _ hzs
          rw [hb, hc]
          refine (hcall w).mono ?_
          rintro e' w' ⟨⟨v, rfl⟩, hbel⟩
          have hG := hR.grow hbel (U' := U) (fun b => ⟨.inl, fun h => h.elim (fun h => h) fun h => h.2.2⟩)
          have hs : hset s.heap id ⟨.row M.e, []⟩ = s.heap := by
            rw [← he]
            have : ∀ (H : Heap) (i : Nat), hset H i (hget H i) = H := by
              intro H
              induction H with
              | nil => intro i; rfl
              | cons x l ih => intro i; cases i <;> simp [hset, hget, ih]
            exact this _ _
          rw [hs] at hk
          exact putC_ok (s1 := s) hn hG (.unk _) (Adv.grow hbel.block hR.wrel.uin (fun b hb => hb) (fun _ _ h => h)) (fun _ _ h => h) hk
        · obtain ⟨hlen, hcall⟩ := hM.row _ _ _ hzs
          rw [hb]
          refine (hcall w b (β id).cap arr el fr hw hsz hcap hfr fun i hi => ?_).mono ?_
          · obtain ⟨cs, g1, g2⟩ := hel i hi
            exact ⟨cs, noMem_any _ _ _ _ hM.noMem g1, g2⟩
          rintro e' w' ⟨⟨v, rfl⟩, ho, hou, ht, hsize, hsame', arr', hw', harr', hzs'⟩
          have hlt : b < w.heap.size := (Array.getElem?_eq_some_iff.1 hw).1
          let w1 : World := { w with heap := w.heap.setIfInBounds b (.cells arr' el fr) }
          have hsame : ∀ c, c ≠ b → w1.heap[c]? = w.heap[c]? := fun c hc => by
            show (w.heap.setIfInBounds b _)[c]? = w.heap[c]?
            exact Array.getElem?_setIfInBounds_ne (by omega)
          have hsz1 : w1.heap.size = w.heap.size := by simp [w1]
          have hbel : Below b w w1 := ⟨rfl, rfl, rfl, by omega, fun c hc => hsame c (by omega)⟩
          have hat : w1.heap[b]? = some (.cells arr' el fr) := by
            show (w.heap.setIfInBounds b _)[b]? = _
            simp [hlt]
          have hfits : Fits (hget s.heap id) ⟨.row M.e, zs⟩ := by
            rw [he]
            exact ⟨fun e xs h => by cases h; exact ⟨zs, rfl, hlen⟩, fun hh => absurd rfl (hh _ _)⟩
          obtain ⟨hW, hA⟩ := hR.wrel.update hid hb hbel hsame hfits (by
            unfold ObjAt
            rw [hget_hset_same _ _ _ hid]
            refine ⟨helem, .inr ⟨b, arr', el, fr, hb, hge, hnU, hat, by rw [harr', hsz], by rw [hlen]; exact hcap, fun j hj => hfr j (by rw [← harr']; exact hj), fun i hi => ?_⟩⟩
            obtain ⟨cs, g1, g2⟩ := hzs' i hi
            exact ⟨cs, noMem_any _ _ _ _ hM.noMem g1, g2⟩)
          have hF1 : FRel S n U β ⟨s.regs, hset s.heap id ⟨.row M.e, zs⟩, s.app⟩ a w1 := ⟨hR.defers, hR.size, fun i => (hR.regs i).adv (hA []) (avoids_nil _), hW⟩
          have hbel2 : Below w1.heap.size w1 w' := by
            refine ⟨ho, ht, hou, by omega, fun c hc => ?_⟩
            rw [hsz1] at hc
            by_cases e : c = b
            · subst e; rw [hw', hat]
            · rw [hsame' c hc e, hsame c e]
          have hG := hF1.grow hbel2 (U' := U) (fun b => ⟨.inl, fun h => h.elim (fun h => h) fun h => h.2.2⟩)
          refine putC_ok (s1 := ⟨s.regs, hset s.heap id ⟨.row M.e, zs⟩, s.app⟩) hn hG (.unk _) ?_ (fun _ _ h => h) hk
          exact (hA s.app).trans (Adv.grow hbel2.block hF1.wrel.uin (fun b hb => hb) (fun _ _ h => h)) (fun _ _ h => h)
      · cases hk
    · cases hk
  · cases hk
end
end Go.Dp
/- Calls. -/
set_option autoImplicit false
set_option linter.unusedVariables false
set_option linter.unusedSimpArgs false
namespace Go.Dp
open Go.RowKit

def noB (_ : Nat) : Blk := ⟨none, 0⟩

def GlobOK (gl : List (Nat × TV)) (w : World) (U : Nat → Prop) : Prop :=
  ∀ g x, lookTV gl g = x → x.t.isUnk = true ∨ (x.t.pure = true ∧ x.t.isAgg = false ∧ GlobAt w U noB [] g x)

def EnterOK (P : Program) (f : Nat) : Prop := ∀ (args : Array Value) (w : World), (callFunc f args).run P w = .ok (.enter f args) w

def Grows (w w' : World) (U U' : Nat → Prop) : Prop := ∀ b, U' b ↔ U b ∨ (w.heap.size ≤ b ∧ b < w'.heap.size ∧ U' b)

/-- A call that is entered, or that the model answers in place. -/
def CallsV (P : Program) (f : Nat) (vals : Array Value) (w : World) (R : Ending → World → Prop) : Prop :=
  (EnterOK P f ∧ Calls P f vals w R) ∨ ∃ v w', (callFunc f vals).run P w = .ok (.value v) w' ∧ R (.returned v) w'

/-- What a function's specification says of the model's call. -/
structure Contract (P : Program) (gl : List (Nat × TV)) (f : Nat) (Sp : Spec) : Prop where
  argsP : Sp.args.pure = true
  resP : Sp.res.pure = true
  calls : ∀ (K : Nat) (x : Sp.args.den) (r : Sp.res.den), Sp.F K x = some r → ∀ (w : World) (U : Nat → Prop) (vals : Array Value), (∀ b, U b → b < w.heap.size) → GlobOK gl w U → EncM w U noB [] true Sp.args x vals.toList →
    CallsV P f vals w fun e w' => ∃ v U', e = .returned v ∧ Below w.heap.size w w' ∧ Grows w w' U U' ∧ EncV w' U' noB [] ⟨Sp.res, r⟩ v

/-- The same of a function whose answer is a row of its own. -/
structure OContract (P : Program) (gl : List (Nat × TV)) (f : Nat) (O : OSpec) : Prop where
  argsP : O.args.pure = true
  noMem : O.e.noMem = true
  elem : O.e.elem = true
  enter : EnterOK P f
  calls : ∀ (K : Nat) (x : O.args.den) (zs : List O.e.den), O.F K x = some zs → ∀ (w : World) (U : Nat → Prop) (vals : Array Value), (∀ b, U b → b < w.heap.size) → GlobOK gl w U → EncM w U noB [] true O.args x vals.toList →
    Calls P f vals w fun e w' => ∃ bl : Blk, e = .returned (.slice (bl.blk.map fun b => ⟨b, 0, none⟩) zs.length bl.cap) ∧ Below w.heap.size w w' ∧
      ((bl.blk = none ∧ bl.cap = 0 ∧ zs = []) ∨ ∃ b arr el fr, bl.blk = some b ∧ w.heap.size ≤ b ∧ w'.heap[b]? = some (.cells arr el fr) ∧ arr.size = bl.cap * O.e.csize ∧ zs.length ≤ bl.cap ∧ (∀ j, j < arr.size → ¬ (fr.1 ≤ j ∧ j < fr.2)) ∧
        ∀ i (h : i < zs.length), ∃ cs, EncM w' (fun _ => False) noB [] false O.e zs[i] cs ∧ ∀ j (h : j < cs.length), arr[i * O.e.csize + j]? = some cs[j])

structure SpecsOK (P : Program) (E : Env) : Prop where
  ok : ∀ f Sp, (f, Sp) ∈ E.specs → Contract P E.gl f Sp
  turn : ∀ f M, (f, M) ∈ E.muts → MContract P f M
  own : ∀ f O, (f, O) ∈ E.owns → OContract P E.gl f O

/-- What a call that is gone through answers. -/
structure CallPost (S : Base) (U : Nat → Prop) (β : Nat → Blk) (H : Heap) (w : World) {α : Type} (k : TV → Heap → List Nat → Option α) (r : α) (e : Ending) (w' : World) : Prop where
  out : ∃ v x H' app U' β', e = .returned v ∧ EncV w' U' β' H' x v ∧ WRel S U' β' H' w' ∧ Adv w U β H w' U' β' H' app ∧ k x H' app = some r

def CallSound (S : Base) {α : Type} (call : CallT α) : Prop :=
  ∀ (f : Nat) (args : List TV) (H : Heap) (k : TV → Heap → List Nat → Option α) (r : α), call f args H [] k = some r →
    EnterOK S.P f ∧ ∀ (U : Nat → Prop) (β : Nat → Blk) (w : World) (vals : List Value), WRel S U β H w → args.length = vals.length → (∀ i (h : i < args.length) (h' : i < vals.length), EncV w U β H args[i] vals[i]) →
      Calls S.P f vals.toArray w (CallPost S U β H w k r)

section
variable {S : Base} {n : Nat} {U : Nat → Prop} {β : Nat → Blk} {s : St} {a : Act} {w w' : World} {α : Type} {k : St → Option α} {r : α} {h : Hint} {Q : Exit → Act → World → Prop} {o : Oper} {call : CallT α}

theorem chList_ok {H : Heap} : ∀ (R : Ty) (x : R.den) (vs : List Value), EncM w U β H true R x vs → (chList R x).length = vs.length ∧ ∀ i (h : i < (chList R x).length) (h' : i < vs.length), EncV w U β H (chList R x)[i] vs[i] := by
  intro R
  induction R with
  | scons a b iha ihb =>
    intro x vs h
    simp only [EncM] at h
    obtain ⟨v, l2, rfl, h1, h2⟩ := h
    obtain ⟨h3, h4⟩ := ihb x.2 l2 h2
    refine ⟨by simp [chList, h3], fun i hi hi' => ?_⟩
    cases i with
    | zero => exact h1
    | succ i => exact h4 i (by simpa [chList] using hi) (by simpa using hi')
  | snil => intro x vs h; simp only [EncM] at h; subst h; exact ⟨rfl, fun i hi => absurd hi (by simp [chList])⟩
  | _ => intro x vs h; simp [EncM] at h

theorem evL_ok (hR : FRel S n U β s a w) : ∀ (xs : List Operand) (ts : List Nat), xs.length = ts.length → (evL S.E s xs ts).length = xs.length ∧ ∀ i (h : i < (evL S.E s xs ts).length) (h' : i < (xs.map a.eval).length), EncV w U β s.heap (evL S.E s xs ts)[i] (xs.map a.eval)[i] := by
  intro xs
  induction xs with
  | nil => intro ts _; cases ts <;> exact ⟨rfl, fun i hi => absurd hi (by simp [evL])⟩
  | cons x xs ih =>
    intro ts hl
    cases ts with
    | nil => simp at hl
    | cons t ts =>
      obtain ⟨h1, h2⟩ := ih ts (by simpa using hl)
      refine ⟨by simp [evL, h1], fun i hi hi' => ?_⟩
      cases i with
      | zero => exact hR.ev t x
      | succ i => exact h2 i (by simpa [evL] using hi) (by simpa using hi')

theorem evL0_ok (hR : FRel S n U β s a w) : ∀ (xs : List Operand), (evL0 S.E s xs).length = xs.length ∧ ∀ i (h : i < (evL0 S.E s xs).length) (h' : i < (xs.map a.eval).length), EncV w U β s.heap (evL0 S.E s xs)[i] (xs.map a.eval)[i] := by
  intro xs
  induction xs with
  | nil => exact ⟨rfl, fun i hi => absurd hi (by simp [evL0])⟩
  | cons x xs ih =>
    obtain ⟨h1, h2⟩ := ih
    refine ⟨by simp [evL0, h1], fun i hi hi' => ?_⟩
    cases i with
    | zero => exact hR.ev 0 x
    | succ i => exact h2 i (by simpa [evL0] using hi) (by simpa using hi')

theorem freezeL_len (H : Heap) : ∀ l : List TV, (freezeL H l).length = l.length := by
  intro l; induction l with
  | nil => rfl
  | cons x l ih => simp [freezeL, ih]
theorem freezeL_get (H : Heap) : ∀ (l : List TV) (i : Nat) (h : i < l.length) (h' : i < (freezeL H l).length), (freezeL H l)[i] = deepF H 3 l[i] := by
  intro l
  induction l with
  | nil => intro i h; simp at h
  | cons x l ih =>
    intro i h h'
    cases i with
    | zero => rfl
    | succ i => exact ih i (by simpa using h) (by simpa [freezeL] using h')

theorem deepV_pure (H : Heap) (r : Nat → TV) : ∀ (t : Ty) (x : t.den), t.pure = true → deepV H r t x = ⟨t, x⟩ := by
  intro t
  induction t with
  | scons a b iha ihb => intro x h; simp only [Ty.pure, Bool.and_eq_true] at h; simp only [deepV]; rw [iha _ h.1, ihb _ h.2]
  | tup b ih => intro x h; simp only [deepV]; rw [ih _ h]
  | hl b ih => intro x h; simp only [deepV]; rw [ih _ h]
  | fn f c ih => intro x h; simp only [deepV]; rw [ih _ h]
  | bm f c ih => intro x h; simp only [deepV]; rw [ih _ h]
  | iface t a ih => intro x h; simp only [deepV]; rw [ih _ h]
  | slw id => intro x h; cases h
  | slv id => intro x h; cases h
  | loc id ix p => intro x h; cases h
  | _ => intro x h; rfl
theorem deepF_pure (H : Heap) (n : Nat) (x : TV) (h : x.t.pure = true) : deepF H n x = x := by
  cases n <;> exact deepV_pure _ _ _ _ h

theorem WRel.globOK (h : WRel S U β s.heap w) : GlobOK S.E.gl w U := by
  intro g x hx
  rcases h.globs g x hx with e | ⟨e1, e2, e3⟩
  · exact .inl e
  · exact .inr ⟨e1, e2, ⟨e3.enc.pure_any _ _ _ _ e1, e3.whole⟩⟩

theorem memN_mem : ∀ {l : List Nat} {i : Nat}, i ∈ l → memN l i = true := by
  intro l
  induction l with
  | nil => intro i h; cases h
  | cons j l ih =>
    intro i h
    simp only [memN]
    cases hb : Nat.beq j i with
    | true => rfl
    | false =>
      rcases List.mem_cons.1 h with e | e
      · subst e; rw [Nat.beq_refl] at hb; cases hb
      · exact ih e

theorem lookS_mem : ∀ {l : List (Nat × Spec)} {f : Nat} {t : Ty} {Sp : Spec}, lookS l f t = some Sp → (f, Sp) ∈ l := by
  intro l
  induction l with
  | nil => intro f t Sp h; cases h
  | cons p l ih =>
    intro f t Sp h
    obtain ⟨g, S⟩ := p
    simp only [lookS] at h
    cases hb : Nat.beq g f && decide (S.args = t) with
    | true =>
      rw [hb] at h
      obtain rfl := beqN (and2 hb).1
      cases h
      exact List.mem_cons_self
    | false => rw [hb] at h; exact List.mem_cons_of_mem _ (ih h)

theorem callFnC_ok (hS : SpecsOK S.P S.E) (hC : CallSound S call) (hn : h.n = n) (hR : FRel S n U β s a w) {f : Nat} {args : List TV} {vals : List Value} (hl : args.length = vals.length)
    (hv : ∀ i (h : i < args.length) (h' : i < vals.length), EncV w U β s.heap args[i] vals[i]) (hrun : (execOp a.eval o).run S.P w = (callFunc f vals.toArray).run S.P w)
    (hk : callFnC S.E h call s o.dst f args k = some r) : o.wp S.P a w (Handed S n U β s w k r) Q := by
  unfold callFnC at hk
  split at hk
  · rename_i Sp hsp
    have hCt := hS.ok f Sp (lookS_mem hsp)
    obtain ⟨hcond, hk⟩ := bif_some hk
    split at hk
    · rename_i x hx
      have hx := cast_some hx
      rw [Option.bind_eq_some_iff] at hk
      obtain ⟨y, hy, hk⟩ := hk
      unfold Oper.wp
      rw [hrun]
      have up : ∀ {R : Ending → World → Prop} {N : Act → World → Prop}, CallsV S.P f vals.toArray w R → (∀ e w1, R e w1 → ∃ v, e = .returned v ∧ N (a.put o.dst v) w1) → o.upon S.P a N Q ((callFunc f vals.toArray).run S.P w) := by
        intro R N hc hR
        rcases hc with ⟨h1, h2⟩ | ⟨v, w', h1, h2⟩
        · rw [h1]
          simp only [Oper.upon]
          refine h2.mono fun e w1 h3 => ?_
          obtain ⟨v, rfl, h4⟩ := hR _ _ h3
          exact h4
        · rw [h1]
          obtain ⟨v', e, h4⟩ := hR _ _ h2
          cases e
          exact h4
      -- the arguments as they are now
      have key : ∀ U2 : Nat → Prop, (∀ b, U b → U2 b) → (∀ i (h : i < (freezeL s.heap args).length) (h' : i < vals.length), EncV w U2 β s.heap (freezeL s.heap args)[i] vals[i]) → EncM w U2 noB [] true Sp.args x vals := by
        intro U2 _ h2
        have h3 := chMk_chain _ vals (by rw [freezeL_len]; exact hl) h2
        have hx' : (chMk (freezeL s.heap args)) = ⟨Sp.args, x⟩ := hx
        rw [hx'] at h3
        exact h3.pure_any _ _ _ _ hCt.argsP
      have fin : ∀ {w1 : World} {v : Value} {U1 : Nat → Prop}, Grows w w1 U U1 → EncV w1 U1 β s.heap ⟨Sp.res, y⟩ v → Below w.heap.size w w1 → Handed S n U β s w k r (a.put o.dst v) w1 := by
        intro w1 v U1 hg he hb
        exact putC_ok hn (hR.grow hb hg) he (Adv.grow hb.block hR.wrel.uin (fun b hb' => (hg b).2 (.inl hb')) (un_of hg)) (fun _ _ h => h) hk
      cases hnm : Sp.res.noMem with
      | true =>
        let U2 : Nat → Prop := fun b => U b ∨ ∃ id, id < s.heap.length ∧ (β id).blk = some b
        have hU2 : ∀ b, U b → U2 b := fun b hb => .inl hb
        have hin : ∀ b, U2 b → b < w.heap.size := by
          rintro b (hb | ⟨id, hid, hb⟩)
          · exact hR.wrel.uin b hb
          · exact (hR.wrel.blk_lt hid hb).1
        have henc := key U2 hU2 fun i h1 h2 => by
          rw [freezeL_get _ _ _ (by rw [freezeL_len] at h1; exact h1)]
          exact deepF_val hR.wrel.heap hU2 (fun id b hid hb => .inr ⟨id, hid, hb⟩) 3 (hv i (by rw [freezeL_len] at h1; exact h1) h2)
        have hglob : GlobOK S.E.gl w U2 := by
          intro g z hz
          rcases hR.wrel.globOK (s := s) g z hz with e | ⟨e1, e2, e3⟩
          · exact .inl e
          · exact .inr ⟨e1, e2, ⟨EncM.more hU2 _ _ _ _ e3.enc, e3.whole⟩⟩
        refine up (hCt.calls S.E.K x y hy w U2 vals.toArray hin hglob (by simpa using henc)) ?_
        rintro e w1 ⟨v, U', rfl, hb, _, he⟩
        refine ⟨v, rfl, fin (U1 := U) (fun b => ⟨.inl, ?_⟩) ?_ hb⟩
        · rintro (h | ⟨_, _, h⟩) <;> exact h
        · rcases he with he | ⟨h1, h2⟩
          · exact .inl he
          · exact .inr ⟨h1, noMem_any _ _ _ _ hnm h2⟩
      | false =>
        rw [hnm, Bool.false_or] at hcond
        have henc := key U (fun _ h => h) fun i h1 h2 => by
          have h3 : i < args.length := by rw [freezeL_len] at h1; exact h1
          rw [freezeL_get _ _ _ h3, deepF_pure _ _ _ (List.all_eq_true.1 hcond _ (List.getElem_mem h3))]
          exact hv i h3 h2
        refine up (hCt.calls S.E.K x y hy w U vals.toArray hR.wrel.uin (hR.wrel.globOK (s := s)) (by simpa using henc)) ?_
        rintro e w1 ⟨v, U', rfl, hb, hg, he⟩
        refine ⟨v, rfl, fin hg ?_ hb⟩
        rcases he with he | ⟨h1, h2⟩
        · exact .inl he
        · exact .inr ⟨h1, h2.pure_any _ _ _ _ hCt.resP⟩
    · cases hk
  · rename_i hsp
    obtain ⟨hent, hcalls⟩ := hC f args s.heap _ r hk
    unfold Oper.wp
    rw [hrun, hent]
    simp only [Oper.upon]
    refine (hcalls U β w vals hR.wrel hl hv).mono ?_
    rintro e w1 ⟨v, x, H', app, U', β', rfl, he, hW, hA, hk⟩
    have hF : FRel S n U' β' ⟨killR (memN app) s.regs, H', app ++ s.app⟩ a w1 :=
      ⟨hR.defers, hR.size, fun i => by
        show EncV w1 U' β' H' (lookTV (killR (memN app) s.regs) i) _
        rw [look_killR]
        exact (hR.regs i).kill (fun id hid => memN_mem hid) hA, hW⟩
    refine putC_ok hn hF he ⟨⟨hA.use, hA.same, hA.len, fun i e' xs' hi he' => ?_, hA.box⟩, hA.keep⟩ (fun _ _ h => List.mem_append.2 (.inr h)) hk
    obtain ⟨ys', g1, g2⟩ := hA.row i e' xs' hi he'
    exact ⟨ys', g1, fun hn => g2 fun hm => hn (List.mem_append.2 (.inl hm))⟩

theorem lookO_mem : ∀ {l : List (Nat × OSpec)} {f : Nat} {t : Ty} {O : OSpec}, lookO l f t = some O → (f, O) ∈ l := by
  intro l
  induction l with
  | nil => intro f t O h; cases h
  | cons p l ih =>
    obtain ⟨g, O0⟩ := p
    intro f t O h
    simp only [lookO] at h
    cases hb : (Nat.beq g f && decide (O0.args = t)) with
    | true =>
      rw [hb] at h
      obtain ⟨h1, _⟩ := and2 hb
      obtain rfl := beqN h1
      cases h
      exact List.mem_cons_self
    | false => rw [hb] at h; exact List.mem_cons_of_mem _ (ih h)

theorem ownC_ok (hn : h.n = n) (hR : FRel S n U β s a w) {f : Nat} {O : OSpec} (hO : OContract S.P S.E.gl f O) {args : List TV} {vals : List Value} (hl : args.length = vals.length)
    (hv : ∀ i (h : i < args.length) (h' : i < vals.length), EncV w U β s.heap args[i] vals[i]) (hrun : (execOp a.eval o).run S.P w = (callFunc f vals.toArray).run S.P w)
    (hk : ownC S.E h s o.dst O args k = some r) : o.wp S.P a w (Handed S n U β s w k r) Q := by
  unfold ownC at hk
  split at hk
  · rename_i x hx
    have hx := cast_some hx
    rw [Option.bind_eq_some_iff] at hk
    obtain ⟨zs, hzs, hk⟩ := hk
    let U2 : Nat → Prop := fun b => U b ∨ ∃ id, id < s.heap.length ∧ (β id).blk = some b
    have hU2 : ∀ b, U b → U2 b := fun b hb => .inl hb
    have hin : ∀ b, U2 b → b < w.heap.size := by
      rintro b (hb | ⟨id, hid, hb⟩)
      · exact hR.wrel.uin b hb
      · exact (hR.wrel.blk_lt hid hb).1
    have henc : EncM w U2 noB [] true O.args x vals := by
      have h3 := chMk_chain (w := w) (U := U2) (β := β) (H := s.heap) (freezeL s.heap args) vals (by rw [freezeL_len]; exact hl) (fun i h1 h2 => by
        rw [freezeL_get _ _ _ (by rw [freezeL_len] at h1; exact h1)]
        exact deepF_val hR.wrel.heap hU2 (fun id b hid hb => .inr ⟨id, hid, hb⟩) 3 (hv i (by rw [freezeL_len] at h1; exact h1) h2))
      have hx' : (chMk (freezeL s.heap args)) = ⟨O.args, x⟩ := hx
      rw [hx'] at h3
      exact h3.pure_any _ _ _ _ hO.argsP
    have hglob : GlobOK S.E.gl w U2 := by
      intro g z hz
      rcases hR.wrel.globOK (s := s) g z hz with e | ⟨e1, e2, e3⟩
      · exact .inl e
      · exact .inr ⟨e1, e2, ⟨EncM.more hU2 _ _ _ _ e3.enc, e3.whole⟩⟩
    unfold Oper.wp
    rw [hrun, hO.enter]
    simp only [Oper.upon]
    refine (hO.calls S.E.K x zs hzs w U2 vals.toArray hin hglob (by simpa using henc)).mono ?_
    rintro e w1 ⟨bl, rfl, hb, hrow⟩
    have hA : Adv w U β s.heap w1 U (setB β s.heap.length bl) (s.heap ++ [⟨.row O.e, zs⟩]) s.app := Adv.push hR.wrel.uin hb _ _ (fun b e => by
        rcases hrow with ⟨h1, _⟩ | ⟨b', _, _, _, h1, h2, _⟩
        · rw [h1] at e; cases e
        · rw [h1] at e; cases e; exact h2)
    have hP := hR.push hb (x := ⟨.row O.e, zs⟩) (bl := bl) (fun b e => by
        rcases hrow with ⟨h1, _⟩ | ⟨b', _, _, _, h1, h2, _⟩
        · rw [h1] at e; cases e
        · rw [h1] at e; cases e; exact h2) (by
      unfold ObjAt
      rw [hget_append_at]
      refine ⟨hO.elem, ?_⟩
      rcases hrow with ⟨h1, h2, h3⟩ | ⟨b, arr, el, fr, h1, h2, h3, h4, h5, h6, h7⟩
      · exact .inl ⟨by simp [setB, h1], by simp [setB, h2], h3⟩
      · refine .inr ⟨b, arr, el, fr, by simp [setB, h1], Nat.le_trans hR.wrel.below.size h2, fun hu => by have := hR.wrel.uin _ hu; omega, h3, by simpa [setB] using h4, by simpa [setB] using h5, h6, fun i hi => ?_⟩
        obtain ⟨cs, g1, g2⟩ := h7 i hi
        exact ⟨cs, noMem_any _ _ _ _ hO.noMem g1, g2⟩)
    refine putC_ok (s1 := ⟨s.regs, s.heap ++ [⟨.row O.e, zs⟩], s.app⟩) hn hP (.inr ⟨rfl, ?_⟩) hA (fun _ _ h => h) hk
    simp only [EncM, Value.cells]
    exact ⟨O.e, zs, by simp, hget_append_at, by simp [setB]⟩
  · cases hk

theorem callO_ok (hS : SpecsOK S.P S.E) (hC : CallSound S call) (hn : h.n = n) (hR : FRel S n U β s a w) {f : Nat} {args : List TV} {vals : List Value} (hl : args.length = vals.length)
    (hv : ∀ i (h : i < args.length) (h' : i < vals.length), EncV w U β s.heap args[i] vals[i]) (hrun : (execOp a.eval o).run S.P w = (callFunc f vals.toArray).run S.P w)
    (hk : callO S.E h call s o.dst f args k = some r) : o.wp S.P a w (Handed S n U β s w k r) Q := by
  unfold callO at hk
  cases hw : h.isOwn o.dst with
  | false => rw [hw] at hk; exact callFnC_ok hS hC hn hR hl hv hrun hk
  | true =>
    rw [hw] at hk
    simp only [cond_true] at hk
    split at hk
    · rename_i O hO
      exact ownC_ok hn hR (hS.own f O (lookO_mem hO)) hl hv hrun hk
    · exact callFnC_ok hS hC hn hR hl hv hrun hk

theorem fnuC_some {δ : Type} {k : Nat → Option δ} {r : δ} {f : Nat} : ∀ {fs : List Nat} {i0 n : Nat}, fnuC fs i0 n k = some r → fs[n - i0]? = some f → i0 ≤ n → k f = some r := by
  intro fs
  induction fs with
  | nil => intro i0 n h; cases h
  | cons g fs ih =>
    intro i0 n h hf hle
    simp only [fnuC] at h
    cases hb : Nat.beq n i0 with
    | true =>
      rw [hb] at h
      have := beqN hb
      subst this
      simp at hf
      subst hf
      exact h
    | false =>
      rw [hb] at h
      have hne : n ≠ i0 := fun e => by subst e; rw [Nat.beq_refl] at hb; cases hb
      refine ih h ?_ (by omega)
      rw [show n - i0 = (n - (i0 + 1)) + 1 by omega] at hf
      simpa using hf

theorem callC_ok (hS : SpecsOK S.P S.E) (hC : CallSound S call) (hn : h.n = n) (hR : FRel S n U β s a w) {c : Call} {f : Operand} (hop : o.op = .call c) (hcal : c.callee = .value f)
    (hlen : c.args.toList.length = c.argTypes.toList.length) (hk : callC S.E h call s o.dst (ev S.E s 0 f) (evL S.E s c.args.toList c.argTypes.toList) k = some r) : o.wp S.P a w (Handed S n U β s w k r) Q := by
  have hf := hR.ev 0 f
  generalize ev S.E s 0 f = X at hf hk
  unfold callC at hk
  split at hk
  · rename_i fid fst cv
    cases hfz : h.isFrz o.dst with
    | true => rw [hfz] at hk; cases hk
    | false =>
    rw [hfz, cond_false] at hk
    have hm := hf.one rfl rfl
    simp only [EncM] at hm
    obtain ⟨vs, hv, hch⟩ := hm
    have hv := (List.cons.inj hv).1
    obtain ⟨h1, h2⟩ := evL_ok hR c.args.toList c.argTypes.toList hlen
    obtain ⟨h3, h4⟩ := chList_ok fst cv vs.toList hch
    have hlen' : (chList fst cv ++ evL S.E s c.args.toList c.argTypes.toList).length = (vs.toList ++ c.args.toList.map a.eval).length := by simp [h1, h3]
    have hrun : (execOp a.eval o).run S.P w = (callFunc fid (vs.toList ++ c.args.toList.map a.eval).toArray).run S.P w := by
      have e1 : (vs.toList ++ c.args.toList.map a.eval).toArray = vs ++ c.args.map a.eval := by
        apply Array.ext'
        simp
      rw [e1]
      simp [execOp, hop, resolve, hcal, hv, Deferred.ofValue, Sem.run_bind, Sem.run_pure, Result.andThen_ok, invoke]
    have hvals : ∀ i (h : i < (chList fst cv ++ evL S.E s c.args.toList c.argTypes.toList).length) (h' : i < (vs.toList ++ c.args.toList.map a.eval).length), EncV w U β s.heap (chList fst cv ++ evL S.E s c.args.toList c.argTypes.toList)[i] (vs.toList ++ c.args.toList.map a.eval)[i] := by
      intro i hi hi'
      by_cases hlt : i < (chList fst cv).length
      · rw [List.getElem_append_left hlt, List.getElem_append_left (by rw [h3] at hlt; simpa using hlt)]
        exact h4 i hlt (by rw [h3] at hlt; simpa using hlt)
      · have e1 : (chList fst cv).length = vs.toList.length := h3
        rw [List.getElem_append_right (by omega), List.getElem_append_right (by omega)]
        simp only [← e1]
        exact h2 _ _ _
    exact callFnC_ok hS hC hn hR (f := fid) hlen' hvals hrun hk
  · rename_i fs cv
    cases hfz : h.isFrz o.dst with
    | true => rw [hfz] at hk; cases hk
    | false =>
    rw [hfz, cond_false] at hk
    have hm := hf.one rfl rfl
    simp only [EncM] at hm
    obtain ⟨fid, hfs, hv⟩ := hm
    have hv := (List.cons.inj hv).1
    obtain ⟨h1, h2⟩ := evL_ok hR c.args.toList c.argTypes.toList hlen
    have hrun : (execOp a.eval o).run S.P w = (callFunc fid (c.args.toList.map a.eval).toArray).run S.P w := by
      have e1 : (c.args.toList.map a.eval).toArray = c.args.map a.eval := by
        apply Array.ext'
        simp
      rw [e1]
      simp [execOp, hop, resolve, hcal, hv, Deferred.ofValue, Sem.run_bind, Sem.run_pure, Result.andThen_ok, invoke]
    have hk' := fnuC_some (i0 := 0) hk (by simpa using hfs) (Nat.zero_le _)
    exact callFnC_ok hS hC hn hR (f := fid) (by simp [h1]) h2 hrun hk'
  · rename_i fid caps cv
    have hm := hf.one rfl rfl
    simp only [EncM] at hm
    obtain ⟨vs, hv, hch⟩ := hm
    have hv := (List.cons.inj hv).1
    obtain ⟨h1, h2⟩ := evL_ok hR c.args.toList c.argTypes.toList hlen
    obtain ⟨h3, h4⟩ := chList_ok caps cv vs.toList hch
    have hlen' : (evL S.E s c.args.toList c.argTypes.toList ++ chList caps cv).length = (c.args.toList.map a.eval ++ vs.toList).length := by simp [h1, h3]
    have hrun : (execOp a.eval o).run S.P w = (callFunc fid (c.args.toList.map a.eval ++ vs.toList).toArray).run S.P w := by
      have e1 : (c.args.toList.map a.eval ++ vs.toList).toArray = c.args.map a.eval ++ vs := by
        apply Array.ext'
        simp
      rw [e1]
      simp [execOp, hop, resolve, hcal, hv, Deferred.ofValue, Sem.run_bind, Sem.run_pure, Result.andThen_ok, invoke]
    have hvals : ∀ i (h : i < (evL S.E s c.args.toList c.argTypes.toList ++ chList caps cv).length) (h' : i < (c.args.toList.map a.eval ++ vs.toList).length), EncV w U β s.heap (evL S.E s c.args.toList c.argTypes.toList ++ chList caps cv)[i] (c.args.toList.map a.eval ++ vs.toList)[i] := by
      intro i hi hi'
      by_cases hlt : i < (evL S.E s c.args.toList c.argTypes.toList).length
      · rw [List.getElem_append_left hlt, List.getElem_append_left (by rw [h1] at hlt; simpa using hlt)]
        exact h2 i hlt (by rw [h1] at hlt; simpa using hlt)
      · have e1 : (evL S.E s c.args.toList c.argTypes.toList).length = (c.args.toList.map a.eval).length := by rw [h1]; simp
        rw [List.getElem_append_right (by omega), List.getElem_append_right (by omega)]
        simp only [← e1]
        exact h4 _ _ _
    cases hfz : h.isFrz o.dst with
    | false =>
      rw [hfz, cond_false] at hk
      exact callO_ok hS hC hn hR (f := fid) hlen' hvals hrun hk
    | true =>
      rw [hfz] at hk
      simp only [cond_true] at hk
      split at hk
      · rename_i M hM
        exact mutC_ok hn hR (hS.turn fid M (lookM_mem hM)) hlen' hvals hrun hk
      split at hk
      · rename_i id hid
        split at hk
        · rename_i e xs he
          obtain ⟨v0, hm⟩ := frzId_mem hid
          obtain ⟨i, hi, hg⟩ := List.getElem_of_mem hm
          have hi' : i < (c.args.toList.map a.eval ++ vs.toList).length := by rw [← hlen']; exact hi
          have hlt : id < s.heap.length := by
            have q := hvals i hi hi'
            rw [hg] at q
            have q := q.one rfl rfl
            simp only [EncM] at q
            obtain ⟨_, _, q, _⟩ := q
            exact q
          obtain ⟨U', β', hF, hA, hE⟩ := freeze_ok hR hlt he
          have hk2 := callFnC_ok (Q := Q) hS hC hn hF (f := fid) (args := frzL id e xs (evL S.E s c.args.toList c.argTypes.toList ++ chList caps cv)) (vals := c.args.toList.map a.eval ++ vs.toList) (by rw [frzL_len]; exact hlen')
            (fun i hi hi' => by rw [frzL_get]; exact hE _ _ (hvals i _ hi')) hrun hk
          exact Oper.wp_mono (fun a' w' hh => Handed.after (s1 := frzS s id e) hA (fun _ _ h => List.mem_cons_of_mem _ h) hh) hk2
        · cases hk
      · cases hk
  · cases hk
end
end Go.Dp
