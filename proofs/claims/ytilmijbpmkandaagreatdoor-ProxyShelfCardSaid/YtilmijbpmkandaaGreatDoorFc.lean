/-
  A part of the proof's own groundwork: a small machine beside the model, and that what it computes the model computes. No condition.
-/
import Derived.Test.YtilmijbpmkandaaGreatDoorFb
import Derived.Scope
import Derived.Defers
import Derived.Lib.Bytealg
import Derived.Lib.AsciiSet
import Derived.Lib.Join
import Derived.Lib.ItoaNum
import Derived.Lib.ItoaMem
import Derived.Lib.Repeat
import Derived.Lib.LaidTab
import Derived.ChangeSlices
import Derived.ChangeArms
import Derived.Carry
import Derived.OpenShut
import GoSem.ClaimJoined
import GoSem.ClaimGoes
/- Regions whose order is drawn, against the model. -/
set_option autoImplicit false
set_option linter.unusedVariables false
set_option linter.unusedSimpArgs false
namespace Go.Dp
open Go.RowKit

/-- How many are not listed yet. -/
def unl (listed : Array Bool) : Nat → Nat
  | 0 => 0
  | m + 1 => unl listed m + if listed.getD m false then 0 else 1

theorem unl_false : ∀ n, unl (Array.replicate n false) n = n := by
  intro n
  have : ∀ m, m ≤ n → unl (Array.replicate n false) m = m := by
    intro m
    induction m with
    | zero => intro _; rfl
    | succ m ih =>
      intro hm
      simp only [unl]
      rw [ih (by omega)]
      have : (Array.replicate n false).getD m false = false := by
        rw [Array.getD_eq_getD_getElem?]
        rw [Array.getElem?_eq_getElem (by simp; omega)]
        simp
      simp [this]
  exact this n (Nat.le_refl _)

theorem getD_set {listed : Array Bool} {i j : Nat} (hi : i < listed.size) : (listed.setIfInBounds i true).getD j false = if i = j then true else listed.getD j false := by
  by_cases e : i = j
  · subst e; simp [Array.getD_eq_getD_getElem?, Array.getElem?_setIfInBounds, hi]
  · rw [getD_set_ne false e, if_neg e]

theorem unl_set {listed : Array Bool} {i : Nat} (hi : i < listed.size) (hf : listed.getD i false = false) : ∀ m, unl (listed.setIfInBounds i true) m + (if i < m then 1 else 0) = unl listed m := by
  intro m
  induction m with
  | zero => simp [unl]
  | succ m ih =>
    simp only [unl]
    rw [getD_set hi]
    by_cases e : i = m
    · subst e
      simp only [if_true, hf]
      have : unl (listed.setIfInBounds i true) i = unl listed i := by rw [← ih]; simp
      rw [this]
      simp
    · simp only [if_neg e]
      have a1 : (if i < m + 1 then 1 else 0 : Nat) = if i < m then 1 else 0 := by split <;> split <;> omega
      rw [a1]
      omega

theorem unl_zero {listed : Array Bool} : ∀ m, unl listed m = 0 → ∀ j, j < m → listed.getD j false = true := by
  intro m
  induction m with
  | zero => intro _ j hj; omega
  | succ m ih =>
    intro h j hj
    simp only [unl] at h
    by_cases e : j = m
    · subst e
      cases hl : listed.getD j false with
      | true => rfl
      | false => rw [hl] at h; simp at h
    · exact ih (by omega) j (by omega)

/-- There is a first one that is not listed. -/
theorem unl_first {listed : Array Bool} : ∀ m, 0 < unl listed m → ∃ j, j < m ∧ listed.getD j false = false ∧ ∀ i, i < j → listed.getD i false = true := by
  intro m
  induction m with
  | zero => intro h; simp [unl] at h
  | succ m ih =>
    intro h
    by_cases h0 : 0 < unl listed m
    · obtain ⟨j, h1, h2, h3⟩ := ih h0
      exact ⟨j, by omega, h2, h3⟩
    · have h1 : unl listed m = 0 := by omega
      simp only [unl, h1] at h
      refine ⟨m, by omega, ?_, fun i hi => unl_zero m h1 i hi⟩
      cases hl : listed.getD m false with
      | false => rfl
      | true => rw [hl] at h; simp at h

section
variable {S : Base} {n : Nat} {U : Nat → Prop} {β : Nat → Blk} {s : St} {a : Act} {w w' : World} {α : Type} {r : α} {h : Hint} {Q : Exit → Act → World → Prop} {o : Oper} {call : CallT α}

/-- Of the registers an operation turns its own alone. -/
theorem wp_put {P : Program} {K : Act → World → Prop} (hh : o.wp P a w K Q) : o.wp P a w (fun a' w' => K a' w' ∧ ∃ v, a'.tmps = (a.put o.dst v).tmps) Q := by
  unfold Oper.wp at *
  generalize (execOp a.eval o).run P w = r at *
  cases r with
  | ok n w' =>
    cases n <;> simp only [Oper.upon] at hh ⊢ <;>
      first
        | exact ⟨hh, _, rfl⟩
        | exact Calls.mono hh (fun e w'' he => by cases e <;> first | exact ⟨he, _, rfl⟩ | exact he)
        | exact Rows.mono hh (fun _ _ he => ⟨he, _, rfl⟩)
        | (refine ⟨hh, undef, ?_⟩; cases o.dst <;> rfl)
        | exact hh
  | halt x w' => cases x <;> simp only [Oper.upon] at hh ⊢ <;> exact hh

theorem lookTV_mask (f : Nat → TV) (t : Nat) : ∀ l : List Nat, lookTV (maskF l f) t = f t ∨ (lookTV (maskF l f) t).t.isUnk = true := by
  intro l
  induction l with
  | nil => exact .inr rfl
  | cons i l ih =>
    simp only [maskF, List.map_cons, lookTV]
    cases hb : Nat.beq i t with
    | true => obtain rfl := beqN hb; exact .inl rfl
    | false => exact ih

theorem getD_put {a : Act} {d : Option Nat} {v : Value} {t : Nat} (h : d ≠ some t) : (a.put d v).tmps.getD t undef = a.tmps.getD t undef := by
  cases d with
  | none => rfl
  | some d =>
    have : d ≠ t := fun e => h (by rw [e])
    simp [Act.put, Array.getD_eq_getD_getElem?, Array.getElem?_setIfInBounds_ne this]

theorem size_put {a : Act} {d : Option Nat} {v : Value} : (a.put d v).tmps.size = a.tmps.size := by
  cases d <;> simp [Act.put]

/-- What holds when some have come up: `f` says what is in the registers. -/
structure Inv (S : Base) (n : Nat) (H : Heap) (w0 : World) (U0 : Nat → Prop) (β0 : Nat → Blk) (f : Nat → TV) (a : Act) (w : World) (U : Nat → Prop) (β : Nat → Blk) : Prop where
  defers : a.defers = S.D
  size : a.tmps.size = n
  regs : ∀ t, EncV w U β H (f t) (a.tmps.getD t undef)
  wrel : WRel S U β H w
  adv : Adv w0 U0 β0 H w U β H []

theorem Inv.mask {H : Heap} {w0 : World} {U0 : Nat → Prop} {β0 : Nat → Blk} {f : Nat → TV} (hI : Inv S n H w0 U0 β0 f a w U β) (l : List Nat) : FRel S n U β ⟨maskF l f, H, []⟩ a w :=
  ⟨hI.defers, hI.size, fun t => by
    show EncV w U β H (lookTV (maskF l f) t) _
    rcases lookTV_mask f t l with e | e
    · rw [e]; exact hI.regs t
    · exact .inl e, hI.wrel⟩

theorem noCall_sound : CallSound S (noCall : CallT α) := by
  intro f args H k r h
  cases h

/-- An object that is not counted yet. -/
structure Item (S : Base) (H : Heap) (w0 w : World) (U : Nat → Prop) (β : Nat → Blk) (x : TV) (b : Bool) (v : Value) (bl : Blk) : Prop where
  pure : objP x.t = true
  obj : ObjAt w U (fun _ => bl) [x] S.w0.heap.size 0
  lo : ∀ c, bl.blk = some c → w0.heap.size ≤ c
  blk : ∀ c, bl.blk = some c → c < w.heap.size ∧ ¬ U c ∧ ∀ id, id < H.length → (β id).blk ≠ some c
  val : EncV w U (fun _ => bl) [x] (yOf b 0) v

theorem ObjAt.moved {w w' : World} {U U' : Nat → Prop} {β β' : Nat → Blk} {H H' : Heap} {B id id' : Nat} (h : ObjAt w U β H B id) (hp : objP (hget H id).t = true) (hg : hget H' id' = hget H id) (hb : β' id' = β id)
    (hU : ∀ b, U b → U' b) (hs : ∀ b, U b → w'.heap[b]? = w.heap[b]?) (hk : ∀ b, (β id).blk = some b → w'.heap[b]? = w.heap[b]? ∧ ¬ U' b) : ObjAt w' U' β' H' B id' := by
  unfold ObjAt at h ⊢
  rw [hg, hb]
  generalize hget H id = z at *
  obtain ⟨t, v⟩ := z
  cases t with
  | row e =>
    obtain ⟨he, h⟩ := h
    refine ⟨he, ?_⟩
    rcases h with h | ⟨b, arr, el, fr, h1, h2, h3, h4, h5, h6, h7, h8⟩
    · exact .inl h
    · refine .inr ⟨b, arr, el, fr, h1, h2, (hk b h1).2, (hk b h1).1.trans h4, h5, h6, h7, fun i hi => ?_⟩
      obtain ⟨cs, h9, h10⟩ := h8 i hi
      exact ⟨cs, EncM.pure_same hU hs _ _ _ _ (elem_pure he) h9, h10⟩
  | iter => simp [objP, Ty.isObj] at hp
  | mobj K V => simp [objP, Ty.isObj] at hp
  | _ =>
    obtain ⟨b, cs, el, fr, h1, h2, h3, h4, h5, h6, h7⟩ := h
    simp only [objP, Bool.and_eq_true] at hp
    exact ⟨b, cs, el, fr, h1, h2, (hk b h1).2, (hk b h1).1.trans h4, h5, EncM.pure_same hU hs _ _ _ _ hp.1 h6, h7⟩

theorem yOf_moved {w w' : World} {U U' : Nat → Prop} {β β' : Nat → Blk} {H H' : Heap} {id id' : Nat} {b : Bool} {v : Value} (h : EncV w U β H (yOf b id) v) (hi : id' < H'.length) (hg : hget H' id' = hget H id) (hb : β' id' = β id) :
    EncV w' U' β' H' (yOf b id') v := by
  cases b with
  | true =>
    rcases h with h | ⟨h1, h2⟩
    · cases h
    · refine .inr ⟨h1, ?_⟩
      simp only [yOf, cond_true, EncM] at h2 ⊢
      obtain ⟨e, xs, g1, g2, g3⟩ := h2
      exact ⟨e, xs, hi, hg.trans g2, by rw [hb]; exact g3⟩
  | false =>
    rcases h with h | ⟨h1, h2⟩
    · cases h
    · refine .inr ⟨h1, ?_⟩
      simp only [yOf, cond_false, EncM, LocAt] at h2 ⊢
      obtain ⟨c, off, g1, g2, g3, g4⟩ := h2
      exact ⟨c, off, g1, hi, by rw [hb]; exact g3, by rw [hg]; exact g4⟩

theorem Item.step {H : Heap} {w0 : World} {U' : Nat → Prop} {β' : Nat → Blk} {x : TV} {b : Bool} {v : Value} {bl : Blk} (h : Item S H w0 w U β x b v bl) (hA : Adv w U β H w' U' β' H []) : Item S H w0 w' U' β' x b v bl := by
  have hk : ∀ c, bl.blk = some c → w'.heap[c]? = w.heap[c]? ∧ ¬ U' c ∧ ∀ id, id < H.length → (β' id).blk ≠ some c := fun c hc => by
    obtain ⟨h1, h2, h3⟩ := h.blk c hc
    exact hA.keep c h1 h2 h3
  refine ⟨h.pure, h.obj.moved h.pure rfl rfl hA.use hA.same fun c hc => ⟨(hk c hc).1, (hk c hc).2.1⟩, h.lo, fun c hc => ?_, yOf_moved h.val (by simp) rfl rfl⟩
  obtain ⟨h1, _, _⟩ := h.blk c hc
  obtain ⟨g1, g2, g3⟩ := hk c hc
  refine ⟨?_, g2, g3⟩
  rw [Array.getElem?_eq_getElem h1] at g1
  exact (Array.getElem?_eq_some_iff.1 g1).1

/-- Objects keep their blocks. -/
theorem Adv.blk_eq {H H' : Heap} {w w' : World} {U U' : Nat → Prop} {β β' : Nat → Blk} (hA : Adv w U β H w' U' β' H' []) {id : Nat} (hi : id < H.length) : β' id = β id := by
  rcases TV.row_or (hget H id) with ⟨e, xs, he⟩ | hn
  · obtain ⟨_, _, h⟩ := hA.row id e xs hi he
    exact (h (by simp)).2
  · exact (hA.box id hi hn).1

/-- One operation in its turn. -/
theorem Inv.step (hT : TIok S.P S.E) (hS : SpecsOK S.P S.E) (hn : h.n = n) {all : List Oper} {H : Heap} {w0 : World} {U0 : Nat → Prop} {β0 : Nat → Blk} {f f1 : Nat → TV} {x : TV} {it : Option TV}
    (hI : Inv S n H w0 U0 β0 f a w U β) (hst : StepP S.E h all H o f1 x it) (hf : ∀ t, t ∈ readsOf all o → f t = f1 t) {K : Act → World → Prop}
    (hK : ∀ a' w' U' β', Inv S n H w0 U0 β0 (upd f o.dst x) a' w' U' β' → (∀ t, o.dst ≠ some t → a'.tmps.getD t undef = a.tmps.getD t undef) → Adv w U β H w' U' β' H [] →
      (∀ y, it = some y → ∃ bl, Item S H w0 w' U' β' y (bOf y) (a'.tmps.getD (o.dst.getD 0) undef) bl ∧ ∀ c, bl.blk = some c → w.heap.size ≤ c) → K a' w') :
    if Region.wanted o (yielded all.toArray a.tmps) then o.wp S.P a w K Q else K (a.put o.dst undef) w := by
  have looks : ∀ t, t ∈ opLooks o.op → t ∈ readsOf all o := by
    intro t ht
    unfold readsOf
    split
    · exact ht
    · split
      · exact List.mem_cons_of_mem _ ht
      · exact ht
  have hmask : maskF (opLooks o.op) f = maskF (opLooks o.op) f1 := List.map_congr_left fun t ht => by rw [hf t (looks t ht)]
  have yl : ∀ j want g b, o.guard = some (j, want) → dstOf all j = some g → f1 g = ⟨.bool, b⟩ → yielded all.toArray a.tmps j = some b := by
    intro j want g b hg hj hb
    have hmem : g ∈ readsOf all o := by unfold readsOf; rw [hg]; simp only [hj]; exact List.mem_cons_self
    have h1 := hI.regs g
    rw [hf g hmem, hb] at h1
    have h2 := getD_bool h1.bool
    unfold yielded
    have h3 : ((all.toArray[j]?).bind (·.dst)) = some g := by simpa [dstOf] using hj
    rw [h3]
    simp [h2]
  have yn : ∀ j want g, o.guard = some (j, want) → dstOf all j = some g → f1 g = .undef → yielded all.toArray a.tmps j = none := by
    intro j want g hg hj hb
    have hmem : g ∈ readsOf all o := by unfold readsOf; rw [hg]; simp only [hj]; exact List.mem_cons_self
    have h1 := hI.regs g
    rw [hf g hmem, hb] at h1
    have h2 := h1.of_und
    unfold yielded
    have h3 : ((all.toArray[j]?).bind (·.dst)) = some g := by simpa [dstOf] using hj
    rw [h3]
    rw [Array.getD_eq_getD_getElem?] at h2
    cases hx : a.tmps[g]? with
    | none => simp [hx]
    | some v => rw [hx] at h2; simp only [Option.getD_some] at h2; subst h2; simp [hx]
  cases hst with
  | run hq hg s1 hr hh ha hd hi =>
    have hw : Region.wanted o (yielded all.toArray a.tmps) = true := by
      rcases hg with hg | ⟨j, want, g, hg, hj, hb⟩
      · exact wanted_none hg
      · rw [wanted_some hg (yl j want g want hg hj hb)]; cases want <;> rfl
    rw [if_pos hw]
    rw [← hmask] at hr
    refine Oper.wp_mono ?_ (wp_put (op_sound (Q := Q) hT hS noCall_sound hn (hI.mask (opLooks o.op)) hr))
    rintro a' w' ⟨hh', v, hv⟩
    obtain ⟨s', U', β', e1, e2, e3, e4⟩ := hh'.out
    obtain rfl : s1 = s' := (Option.some.inj e1).symm
    rw [hh, ha] at e3
    refine hK a' w' U' β' ⟨e2.defers, e2.size, fun t => ?_, hh ▸ e2.wrel, hI.adv.trans e3 fun _ _ h => h⟩ (fun t ht => by rw [hv, getD_put ht]) e3 (fun y e => by rw [hi] at e; cases e)
    unfold upd
    by_cases hdt : o.dst = some t
    · rw [if_pos hdt]
      have := e2.regs t
      rw [(hd t hdt).2, hh] at this
      exact this
    · rw [if_neg hdt, hv, getD_put hdt]
      exact (hI.regs t).adv e3 (avoids_nil _)
  | skip j want g hg hj hb hx hd hi =>
    have hw : Region.wanted o (yielded all.toArray a.tmps) = false := by
      rcases hb with hb | hb
      · rw [wanted_some hg (yl j want g _ hg hj hb)]; cases want <;> rfl
      · exact wanted_undef hg (yn j want g hg hj hb)
    rw [if_neg (by rw [hw]; simp)]
    refine hK _ _ U β ⟨by cases o.dst <;> exact hI.defers, by rw [size_put]; exact hI.size, fun t => ?_, hI.wrel, hI.adv⟩ (fun t ht => getD_put ht) (Adv.refl _ _ _ _ _) (fun y e => by rw [hi] at e; cases e)
    unfold upd
    by_cases hdt : o.dst = some t
    · rw [if_pos hdt, hx, hdt]
      unfold Act.put
      simp [Array.getD_eq_getD_getElem?, Array.getElem?_setIfInBounds, hI.size, ← hn, hd t hdt]
      exact EncV.und
    · rw [if_neg hdt, getD_put hdt]; exact hI.regs t
  | made hg d hd hlt hc y hy s1 hr hh ha hb hx hi hm =>
    have hw : Region.wanted o (yielded all.toArray a.tmps) = true := wanted_none hg
    rw [if_pos hw]
    rw [← hmask] at hr
    refine Oper.wp_mono ?_ (wp_put (op_sound (Q := Q) hT hS noCall_sound hn (hI.mask (opLooks o.op)) hr))
    rintro a' w' ⟨hh', v, hv⟩
    obtain ⟨s', U', β', e1, e2, e3, e4⟩ := hh'.out
    obtain rfl : s1 = s' := (Option.some.inj e1).symm
    rw [hh, ha] at e3
    have htake : (H ++ [y]).take H.length = H := by simp
    have hA : Adv w U β H w' U' β' H [] := by
      have := e3.take (m := H.length) (Nat.le_refl _) (A := []) (fun _ _ h => h)
      rwa [htake] at this
    have hW : WRel S U' β' (H ++ [y]) w' := hh ▸ e2.wrel
    have hWH : WRel S U' β' H w' := by
      have := hW.take (m := H.length) (by rw [htake]; exact hc)
      rwa [htake] at this
    have hlen : H.length < (H ++ [y]).length := by simp
    have hgy : hget (H ++ [y]) H.length = y := hget_append_at
    have hnew : ∀ c, (β' H.length).blk = some c → w.heap.size ≤ c := fun c hcb => by
      refine Classical.byContradiction fun hlt' => ?_
      have g1 := hW.blk_lt hlen hcb
      have hnu : ¬ U c := fun hu => g1.2.2 (hA.use c hu)
      have hnb : ∀ id, id < H.length → (β id).blk ≠ some c := fun id hid hbk => by
        have := hW.heap.inj id H.length c (by simp; omega) hlen (by rw [e3.blk_eq hid]; exact hbk) hcb
        omega
      exact (e3.keep c (by omega) hnu hnb).2.2 H.length hlen hcb
    refine hK a' w' U' β' ⟨e2.defers, e2.size, fun t => ?_, hWH, hI.adv.trans hA fun _ _ h => h⟩ (fun t ht => by rw [hv, getD_put ht]) hA (fun y' e => ?_)
    · unfold upd
      by_cases hdt : o.dst = some t
      · rw [if_pos hdt, hx]
        exact .unk _
      · rw [if_neg hdt, hv, getD_put hdt]
        exact (hI.regs t).adv hA (avoids_nil _)
    · rw [hi] at e
      cases e
      refine ⟨β' H.length, ⟨hy, (hW.heap.obj H.length hlen).moved (by rw [hgy]; exact hy) (by rw [hgy]; rfl) rfl (fun _ h => h) (fun _ _ => rfl) fun c hcb => ⟨rfl, (hW.blk_lt hlen hcb).2.2⟩, fun c hcb => ?_, fun c hcb => ?_, ?_⟩, hnew⟩
      · have g1 := hnew c hcb
        refine Classical.byContradiction fun hlt' => ?_
        have g2 := hW.blk_lt hlen hcb
        have hnu : ¬ U0 c := fun hu => g2.2.2 (hA.use c (hI.adv.use c hu))
        have hnb : ∀ id, id < H.length → (β0 id).blk ≠ some c := fun id hid hbk => by
          have := hW.heap.inj id H.length c (by simp; omega) hlen (by rw [e3.blk_eq hid, hI.adv.blk_eq hid]; exact hbk) hcb
          omega
        have g3 := (hI.adv.keep c (by omega) hnu hnb).1
        rw [Array.getElem?_eq_getElem (xs := w0.heap) (show c < w0.heap.size by omega)] at g3
        have := (Array.getElem?_eq_some_iff.1 g3).1
        omega
      · have g1 := hW.blk_lt hlen hcb
        refine ⟨g1.1, g1.2.2, fun id hid hbk => ?_⟩
        have := hW.heap.inj id H.length c (by simp; omega) hlen hbk hcb
        omega
      · rw [hd]
        have := e2.regs d
        rw [hb, hh] at this
        exact yOf_moved this (by simp) (by rw [hgy]; rfl) rfl

/-- An operation that waits for all before it. -/
def ChainP (all : List Oper) (i : Nat) : Prop :=
  ∀ listed : Array Bool, (∀ j o, all[j]? = some o → listed.getD j false = true → ∀ e ∈ o.after, Region.binds .any e = true → listed.getD e.on false = true) → ∀ o, all[i]? = some o → (∀ e ∈ o.after, Region.binds .any e = true → listed.getD e.on false = true) → ∀ j, j < i → listed.getD j false = true

theorem ready_none {all : List Oper} {listed : Array Bool} (hsz : listed.size = all.length) (hun : unl listed all.length = 0) : Region.ready .any all.toArray listed = [] := by
  have hall := unl_zero _ hun
  cases hr : Region.ready .any all.toArray listed with
  | nil => rfl
  | cons j l =>
    have hj : j ∈ Region.ready .any all.toArray listed := by rw [hr]; exact List.mem_cons_self
    obtain ⟨h1, o, ho, _⟩ := mem_ready.1 hj
    have hlt : j < all.length := by
      have : all[j]? = some o := by simpa using ho
      exact (List.getElem?_eq_some_iff.1 this).1
    have h2 := hall j hlt
    rw [Array.getD_eq_getD_getElem?, Array.getElem?_eq_getElem (by omega)] at h1 h2
    simp at h1 h2
    rw [h1] at h2; cases h2

theorem wpAny_chain_at {P : Program} {all : List Oper} {n0 : Nat} (hbel : ∀ i o, all[i]? = some o → ∀ e ∈ o.after, Region.binds .any e = true → e.on < i) (hlast : ∀ i, n0 ≤ i → ChainP all i) :
    ∀ (rest : List Oper) (i : Nat), n0 ≤ i → ∀ (fuel : Nat) (listed : Array Bool) (a : Act) (w : World), all.drop i = rest → listed.size = all.length → (∀ j, j < i → listed.getD j false = true) → (∀ j, i ≤ j → listed.getD j false = false) → unl listed all.length = fuel →
      wpList P all.toArray Q rest a w → ∀ i' ∈ Region.ready .any all.toArray listed, wpOp P all.toArray Q i' (wpAny P .any all.toArray Q (fuel - 1) (listed.setIfInBounds i' true)) a w := by
  intro rest
  induction rest with
  | nil =>
    intro i hi fuel listed a w hd hsz hin hout hun hw i' hi'
    obtain ⟨h1, o, ho, _⟩ := mem_ready.1 hi'
    have hia : all[i']? = some o := by simpa using ho
    have hlta := (List.getElem?_eq_some_iff.1 hia).1
    have hle : all.length ≤ i := by
      have := congrArg List.length hd
      simp at this; omega
    have h2 := hin i' (by omega)
    rw [Array.getD_eq_getD_getElem?, Array.getElem?_eq_getElem (by omega)] at h1 h2
    simp at h1 h2
    rw [h1] at h2; cases h2
  | cons o rest ih =>
    intro i hi fuel listed a w hd hsz hin hout hun hw i' hi'
    obtain ⟨h1, o', ho, hready⟩ := mem_ready.1 hi'
    have hia : all[i']? = some o' := by simpa using ho
    have hlta := (List.getElem?_eq_some_iff.1 hia).1
    have hif : listed.getD i' false = false := by
      rw [Array.getD_eq_getD_getElem?, Array.getElem?_eq_getElem (by omega)] at h1 ⊢
      simpa using h1
    have hge : i ≤ i' := by
      refine Classical.byContradiction fun hne => ?_
      rw [hin i' (by omega)] at hif; cases hif
    -- what is listed is closed
    have hcl : ∀ j o, all[j]? = some o → listed.getD j false = true → ∀ e ∈ o.after, Region.binds .any e = true → listed.getD e.on false = true := by
      intro j oj hj hl e he hb
      have h5 := hbel j oj hj e he hb
      have h6 : j < i := by
        refine Classical.byContradiction fun hne => ?_
        rw [hout j (by omega)] at hl; cases hl
      exact hin _ (by omega)
    have hall := hlast i' (by omega) listed hcl o' hia hready
    have hi0 : i' = i := by
      refine Classical.byContradiction fun hne => ?_
      have h2 := hall i (by omega)
      rw [hout i (Nat.le_refl _)] at h2; cases h2
    subst hi0
    have ho' : o' = o := by
      have : all[i']? = some o := by
        have := congrArg (fun l => l[0]?) hd
        simpa using this
      rw [hia] at this; exact Option.some.inj this
    subst ho'
    have hu := unl_set (i := i') (by omega) hif all.length
    rw [if_pos hlta] at hu
    have hin' : ∀ j, j < i' + 1 → (listed.setIfInBounds i' true).getD j false = true := by
      intro j hj
      rw [getD_set (by omega)]
      split
      · rfl
      · exact hin j (by omega)
    have hout' : ∀ j, i' + 1 ≤ j → (listed.setIfInBounds i' true).getD j false = false := by
      intro j hj
      rw [getD_set_ne false (by omega)]
      exact hout j (by omega)
    have hd' : all.drop (i' + 1) = rest := by rw [← List.drop_drop, hd]; rfl
    have hK : ∀ a w, wpList P all.toArray Q rest a w → wpAny P .any all.toArray Q (fuel - 1) (listed.setIfInBounds i' true) a w := by
      intro a w hw
      cases hf : fuel - 1 with
      | zero =>
        have hz : unl (listed.setIfInBounds i' true) all.length = 0 := by omega
        have hr : rest = [] := by
          cases rest with
          | nil => rfl
          | cons o2 r =>
            have hl2 : i' + 1 < all.length := by have := congrArg List.length hd'; simp at this; omega
            have := unl_zero _ hz (i' + 1) hl2
            rw [hout' _ (Nat.le_refl _)] at this; cases this
        subst hr
        exact ⟨ready_none (by simpa using hsz) hz, hw⟩
      | succ f =>
        refine ⟨fun hr => ?_, fun i2 hi2 => ?_⟩
        · cases rest with
          | nil => exact hw
          | cons o2 r =>
            have hl2 : i' + 1 < all.length := by have := congrArg List.length hd'; simp at this; omega
            have hj : i' + 1 ∈ Region.ready .any all.toArray (listed.setIfInBounds i' true) := by
              rw [mem_ready]
              have hj : all[i' + 1]? = some all[i' + 1] := List.getElem?_eq_getElem hl2
              refine ⟨?_, all[i' + 1], by simp [hl2], fun e he hb => hin' _ (hbel _ _ hj e he hb)⟩
              have h2 := hout' (i' + 1) (Nat.le_refl _)
              rw [Array.getD_eq_getD_getElem?, Array.getElem?_eq_getElem (by simp; omega)] at h2 ⊢
              simpa using h2
            rw [hr] at hj; cases hj
        · have := ih (i' + 1) (by omega) (f + 1) (listed.setIfInBounds i' true) a w hd' (by simpa using hsz) hin' hout' (by omega) hw i2 hi2
          simpa using this
    have : wpOp P all.toArray Q i' (wpList P all.toArray Q rest) a w := by
      unfold wpOp
      rw [ho]
      exact hw
    exact wpOp_mono hK this

/-- What each uncounted object holds when some operations are listed. -/
def contL (pre : List Oper) (vs : List (Option Nat)) (ys : List TV) (L : Nat → Bool) : Nat → TV := after L 0 (vops pre vs) ys (fun _ => .unk)

/-- The objects of the listed operations. -/
structure Items (S : Base) (H : Heap) (w0 : World) (pre : List Oper) (its : List (Option TV)) (C : Nat → TV) (L : Nat → Bool) (γ : Nat → Blk) (a : Act) (w : World) (U : Nat → Prop) (β : Nat → Blk) : Prop where
  item : ∀ j o d x, pre[j]? = some o → o.dst = some d → its[j]? = some (some x) → L j = true → Item S H w0 w U β (C d) (bOf (C d)) (a.tmps.getD d undef) (γ j)
  inj : ∀ j j' x x' c, its[j]? = some (some x) → its[j']? = some (some x') → L j = true → L j' = true → (γ j).blk = some c → (γ j').blk = some c → j = j'

theorem Items.step {H : Heap} {w0 : World} {pre : List Oper} {its : List (Option TV)} {C C' : Nat → TV} {L L' : Nat → Bool} {γ : Nat → Blk} {U' : Nat → Prop} {β' : Nat → Blk} {a' : Act} {i : Nat} {it : Option TV}
    (h : Items S H w0 pre its C L γ a w U β) (hlen : pre.length = its.length) (hi : pre[i]? = some o) (hit : its[i]? = some it) (hL : ∀ j, L' j = if i = j then true else L j) (hLi : L i = false)
    (hone : ∀ j o' d x, pre[j]? = some o' → o'.dst = some d → its[j]? = some (some x) → j ≠ i → L j = true → o.dst ≠ some d ∧ C' d = C d)
    (hnew : ∀ d x, o.dst = some d → it = some x → C' d = x) (hsome : ∀ (j : Nat) (o' : Oper) (x : TV), pre[j]? = some o' → its[j]? = some (some x) → ∃ d, o'.dst = some d)
    (hr : ∀ t, o.dst ≠ some t → a'.tmps.getD t undef = a.tmps.getD t undef) (hA : Adv w U β H w' U' β' H [])
    (hn : ∀ y, it = some y → ∃ bl, Item S H w0 w' U' β' y (bOf y) (a'.tmps.getD (o.dst.getD 0) undef) bl ∧ ∀ c, bl.blk = some c → w.heap.size ≤ c) :
    ∃ γ', Items S H w0 pre its C' L' γ' a' w' U' β' := by
  have old : ∀ j o' d x, pre[j]? = some o' → o'.dst = some d → its[j]? = some (some x) → j ≠ i → L' j = true → Item S H w0 w' U' β' (C' d) (bOf (C' d)) (a'.tmps.getD d undef) (γ j) := by
    intro j o' d x h1 hd h2 hne hl
    rw [hL j, if_neg (Ne.symm hne)] at hl
    obtain ⟨g1, g2⟩ := hone j o' d x h1 hd h2 hne hl
    rw [hr _ g1, g2]
    exact (h.item j o' d x h1 hd h2 hl).step hA
  cases it with
  | none =>
    refine ⟨γ, ⟨fun j o' d x h1 hd h2 hl => old j o' d x h1 hd h2 (fun e => by rw [e, hit] at h2; cases h2) hl, fun j j' x x' c h1 h2 hl hl' g1 g2 => ?_⟩⟩
    have e1 : i ≠ j := fun e => by rw [← e, hit] at h1; cases h1
    have e2 : i ≠ j' := fun e => by rw [← e, hit] at h2; cases h2
    rw [hL, if_neg e1] at hl
    rw [hL, if_neg e2] at hl'
    exact h.inj j j' x x' c h1 h2 hl hl' g1 g2
  | some y =>
    obtain ⟨bl, hI, hfresh⟩ := hn y rfl
    have far : ∀ j x c, its[j]? = some (some x) → j ≠ i → L' j = true → (γ j).blk = some c → bl.blk = some c → False := by
      intro j x c h1 hne hl g1 g2
      rw [hL, if_neg (Ne.symm hne)] at hl
      have hjl : j < pre.length := by rw [hlen]; exact (List.getElem?_eq_some_iff.1 h1).1
      have hj := List.getElem?_eq_getElem hjl
      obtain ⟨d, hd⟩ := hsome j _ x hj h1
      have := (h.item j _ d x hj hd h1 hl).blk c g1
      have := hfresh c g2
      omega
    refine ⟨fun j => if j = i then bl else γ j, ⟨fun j o' d x h1 hd h2 hl => ?_, fun j j' x x' c h1 h2 hl hl' g1 g2 => ?_⟩⟩
    · by_cases e : j = i
      · subst e
        rw [hi] at h1; rw [hit] at h2
        cases h1; cases h2
        rw [hnew d y hd rfl]
        rw [hd] at hI
        simpa using hI
      · simp only [if_neg e]
        exact old j o' d x h1 hd h2 e hl
    · by_cases e1 : j = i <;> by_cases e2 : j' = i
      · rw [e1, e2]
      · simp only [e1, if_true, if_neg e2] at g1 g2
        exact (far j' x' c h2 e2 hl' g2 g1).elim
      · simp only [e2, if_true, if_neg e1] at g1 g2
        exact (far j x c h1 e1 hl g1 g2).elim
      · simp only [if_neg e1, if_neg e2] at g1 g2
        rw [hL, if_neg (Ne.symm e1)] at hl
        rw [hL, if_neg (Ne.symm e2)] at hl'
        exact h.inj j j' x x' c h1 h2 hl hl' g1 g2

/-- A store into an object that is not counted yet. -/
theorem Inv.put (hT : TIok S.P S.E) (hS : SpecsOK S.P S.E) (hn : h.n = n) {H : Heap} {w0 : World} {U0 : Nat → Prop} {β0 : Nat → Blk} {f : Nat → TV} {x y : TV} {d v : Nat} {bl : Blk}
    (hI : Inv S n H w0 U0 β0 f a w U β) (hit : Item S H w0 w U β x false (a.tmps.getD d undef) bl) (hd : o.dst = none) (hg : o.guard = none) (h1 : (f v).t.pure = true) (h2 : (f v).t.isUnk = false)
    {s1 : St} (hr : opC S.E h noCall o ⟨[(d, yOf false 0), (v, f v)], [x], []⟩ some = some s1) (hh : s1.heap = [y]) (ha : s1.app = []) (hy : objP y.t = true) (hvd : v ≠ d) {K : Act → World → Prop}
    (hK : ∀ w' U', Inv S n H w0 U0 β0 f a w' U' β → Item S H w0 w' U' β y false (a.tmps.getD d undef) bl →
      (∀ x' b' v' bl', Item S H w0 w U β x' b' v' bl' → (∀ c, bl'.blk = some c → bl.blk ≠ some c) → Item S H w0 w' U' β x' b' v' bl') → K a w') : o.wp S.P a w K Q := by
  -- the object alone
  have hx0 : hget [x] 0 = x := rfl
  have hW : WRel S U (fun _ => bl) [x] w := by
    refine ⟨⟨fun id hi => ?_, fun id id' b hi hi' _ _ => by simp at hi hi'; omega⟩, hI.wrel.below, hI.wrel.uin, hI.wrel.uold, fun g z hz => ?_⟩
    · have : id = 0 := by simpa using hi
      subst this; exact hit.obj
    · rcases hI.wrel.globs g z hz with e | ⟨e1, e2, e3⟩
      · exact .inl e
      · exact .inr ⟨e1, e2, ⟨e3.enc.pure_any _ _ _ _ e1, e3.whole⟩⟩
  have hR : FRel S n U (fun _ => bl) ⟨[(d, yOf false 0), (v, f v)], [x], []⟩ a w := by
    refine ⟨hI.defers, hI.size, fun t => ?_, hW⟩
    show EncV w U (fun _ => bl) [x] (lookTV [(d, yOf false 0), (v, f v)] t) _
    simp only [lookTV]
    cases hb : Nat.beq d t with
    | true => have := beqN hb; subst this; exact hit.val
    | false =>
      simp only [cond_false]
      cases hb2 : Nat.beq v t with
      | true =>
        have := beqN hb2; subst this
        have := hI.regs v
        exact .inr ((this.resolve_left (by rw [h2]; simp)).imp_right fun h => h.pure_any _ _ _ _ h1)
      | false => exact .inl rfl
  refine Oper.wp_mono ?_ (wp_put (op_sound (Q := Q) hT hS noCall_sound hn hR hr))
  rintro a' w' ⟨hh', vv, hvv⟩
  obtain ⟨s', U', β', e1, e2, e3, e4⟩ := hh'.out
  obtain rfl : s1 = s' := (Option.some.inj e1).symm
  rw [hh, ha] at e3
  have hbl : β' 0 = bl := e3.blk_eq (id := 0) (by simp)
  have hW' : WRel S U' β' [y] w' := hh ▸ e2.wrel
  have haa : a'.tmps = a.tmps := by rw [hvv, hd]; rfl
  have hoth : ∀ c, c < w.heap.size → ¬ U c → bl.blk ≠ some c → w'.heap[c]? = w.heap[c]? ∧ ¬ U' c := fun c hc hu hne => by
    obtain ⟨g1, g2, _⟩ := e3.keep c hc hu (fun id hid => hne)
    exact ⟨g1, g2⟩
  have hAc : AdvC w U β H w' U' β H [] := ⟨e3.use, e3.same, Nat.le_refl _, fun _ _ xs _ he => ⟨xs, he, fun _ => ⟨rfl, rfl⟩⟩, fun _ _ hn => ⟨rfl, rfl, hn⟩⟩
  have hfar : ∀ id, id < H.length → ∀ c, (β id).blk = some c → c < w.heap.size ∧ ¬ U c ∧ bl.blk ≠ some c := fun id hid c hc => by
    obtain ⟨g1, _, g3⟩ := hI.wrel.blk_lt hid hc
    exact ⟨g1, g3, fun e => (hit.blk c e).2.2 id hid hc⟩
  have hWH : WRel S U' β H w' := by
    refine ⟨⟨fun id hid => ?_, hI.wrel.heap.inj⟩, hW'.below, hW'.uin, hW'.uold, fun g z hz => ?_⟩
    · refine (hI.wrel.heap.obj id hid).advC hAc rfl rfl (fun c hc => ?_) (avoidsO_nil _)
      obtain ⟨g1, g2, g3⟩ := hfar id hid c hc
      exact hoth c g1 g2 g3
    · rcases hI.wrel.globs g z hz with e | ⟨e1, e2, e3⟩
      · exact .inl e
      · exact .inr ⟨e1, e2, e3.advC hAc (avoids_nil _)⟩
  have hsz : ∀ c, c < w.heap.size → c < w'.heap.size := fun c hc => by
    by_cases hu : U c
    · exact hW'.uin c (e3.use c hu)
    · by_cases hb : bl.blk = some c
      · exact (hW'.blk_lt (id := 0) (by simp) (by rw [hbl]; exact hb)).1
      · have := (hoth c hc hu hb).1
        rw [Array.getElem?_eq_getElem hc] at this
        exact (Array.getElem?_eq_some_iff.1 this).1
  have hInv : Inv S n H w0 U0 β0 f a w' U' β := by
    refine ⟨hI.defers, hI.size, fun t => (hI.regs t).advC hAc (avoids_nil _), hWH, ⟨⟨fun b hb => hAc.use b (hI.adv.use b hb), fun b hb => (hAc.same b (hI.adv.use b hb)).trans (hI.adv.same b hb), hI.adv.len, hI.adv.row, hI.adv.box⟩, fun c hc hu hnb => ?_⟩⟩
    obtain ⟨g1, g2, g3⟩ := hI.adv.keep c hc hu hnb
    have hc' : c < w.heap.size := by
      rw [Array.getElem?_eq_getElem hc] at g1
      exact (Array.getElem?_eq_some_iff.1 g1).1
    have hne : bl.blk ≠ some c := fun e => by have := hit.lo c e; omega
    obtain ⟨g4, g5⟩ := hoth c hc' g2 hne
    exact ⟨g4.trans g1, g5, g3⟩
  have hnew : Item S H w0 w' U' β y false (a.tmps.getD d undef) bl := by
    refine ⟨hy, ?_, hit.lo, fun c hc => ?_, ?_⟩
    · exact (hW'.heap.obj 0 (by simp)).moved hy rfl (by rw [hbl]) (fun _ h => h) (fun _ _ => rfl) fun c hc => ⟨rfl, (hW'.blk_lt (id := 0) (by simp) hc).2.2⟩
    · obtain ⟨g1, g2, g3⟩ := hit.blk c hc
      exact ⟨hsz c g1, (hW'.blk_lt (id := 0) (by simp) (by rw [hbl]; exact hc)).2.2, g3⟩
    · have hval := hit.val.resolve_left (by simp [yOf, Ty.isUnk])
      refine .inr ⟨hval.1, ?_⟩
      have h3 := hval.2
      simp only [yOf, cond_false, EncM, LocAt] at h3 ⊢
      obtain ⟨b, off, q1, q2, q3, q4, q5, q6⟩ := h3
      refine ⟨b, off, q1, by simp, q3, ?_, rfl, by rw [q6]; rfl⟩
      intro e xs he
      have : y = ⟨.row e, xs⟩ := he
      subst this
      obtain ⟨h7, _⟩ := e3.box 0 (by simp) q4
      exact (e3.box 0 (by simp) q4).2.2 e xs rfl
  have hother : ∀ x' b' v' bl', Item S H w0 w U β x' b' v' bl' → (∀ c, bl'.blk = some c → bl.blk ≠ some c) → Item S H w0 w' U' β x' b' v' bl' := by
    intro x' b' v' bl' hi' hne
    have hk : ∀ c, bl'.blk = some c → w'.heap[c]? = w.heap[c]? ∧ ¬ U' c := fun c hc => by
      obtain ⟨g1, g2, _⟩ := hi'.blk c hc
      exact hoth c g1 g2 (hne c hc)
    refine ⟨hi'.pure, hi'.obj.moved hi'.pure rfl rfl e3.use e3.same hk, hi'.lo, fun c hc => ?_, yOf_moved hi'.val (by simp) rfl rfl⟩
    obtain ⟨g1, g2, g3⟩ := hi'.blk c hc
    exact ⟨hsz c g1, (hk c hc).2, g3⟩
  have hKK := hK w' U' hInv hnew hother
  have : a' = a := by
    cases a'; cases a
    have h5 := e2.defers
    have h6 := hI.defers
    simp only at haa h5 h6
    subst haa
    rw [h5, h6]
  rw [this]; exact hKK

/-- All are counted. -/
theorem adopt_all {H : Heap} {w0 : World} {U0 : Nat → Prop} {β0 : Nat → Blk} {C : Nat → TV} :
    ∀ (pdl : List Nat) (δ : Nat → Blk) (s : St) (β2 : Nat → Blk), FRel S n U β2 s a w → Adv w0 U0 β0 H w U β2 s.heap [] →
      (∀ d ∈ pdl, Item S H w0 w U β (C d) (bOf (C d)) (a.tmps.getD d undef) (δ d)) → pdl.Nodup → (∀ d ∈ pdl, ∀ d' ∈ pdl, ∀ c, (δ d).blk = some c → (δ d').blk = some c → d = d') →
      (∀ id c, id < s.heap.length → (β2 id).blk = some c → ∀ d ∈ pdl, (δ d).blk ≠ some c) →
      ∃ β3, FRel S n U β3 (pushPD (withG C pdl) s) a w ∧ Adv w0 U0 β0 H w U β3 (pushPD (withG C pdl) s).heap [] ∧ (pushPD (withG C pdl) s).app = s.app := by
  intro pdl
  induction pdl with
  | nil => intro δ s β2 hR hA _ _ _ _; exact ⟨β2, hR, hA, rfl⟩
  | cons d r ih =>
    intro δ s β2 hR hA hIt hnd hinj hfar
    have hitem := hIt d List.mem_cons_self
    rw [List.nodup_cons] at hnd
    have hfar' : ∀ c, (δ d).blk = some c → ∀ id, id < s.heap.length → (β2 id).blk ≠ some c := fun c hc id hid hbk => hfar id c hid hbk d List.mem_cons_self hc
    have hobj : ObjAt w U (setB β2 s.heap.length (δ d)) (s.heap ++ [C d]) S.w0.heap.size s.heap.length :=
      hitem.obj.moved hitem.pure (by rw [hget_append_at]; rfl) (by simp [setB]) (fun _ h => h) (fun _ _ => rfl) fun c hc => ⟨rfl, (hitem.blk c hc).2.1⟩
    have hW := hR.wrel.adopt hfar' hobj
    have hAc : AdvC w U β2 s.heap w U (setB β2 s.heap.length (δ d)) (s.heap ++ [C d]) [] := AdvC.push (C d) (δ d)
    have hR2 : FRel S n U (setB β2 s.heap.length (δ d)) (pushM s d (C d)) a w := by
      refine ⟨hR.defers, hR.size, fun t => ?_, hW⟩
      show EncV w U _ (s.heap ++ [C d]) ((pushM s d (C d)).get t) _
      unfold pushM
      rw [get_set_upd]
      unfold upd
      by_cases e : d = t
      · subst e
        simp only [if_true]
        exact yOf_moved hitem.val (by simp) (by rw [hget_append_at]; rfl) (by simp [setB])
      · rw [if_neg (by simpa using e)]
        exact (hR.regs t).advC hAc (avoids_nil _)
    have hA2 : Adv w0 U0 β0 H w U (setB β2 s.heap.length (δ d)) (pushM s d (C d)).heap [] := by
      show Adv w0 U0 β0 H w U (setB β2 s.heap.length (δ d)) (s.heap ++ [C d]) []
      have hle := hA.len
      refine ⟨⟨hA.use, hA.same, by simp; omega, fun id e xs hid he => ?_, fun id hid hn => ?_⟩, fun c hc hu hn => ?_⟩
      · obtain ⟨xs', h3, h4⟩ := hA.row id e xs hid he
        refine ⟨xs', by rw [hget_append_lt (by omega)]; exact h3, fun hm => ?_⟩
        obtain ⟨h5, h6⟩ := h4 hm
        exact ⟨h5, by simp only [setB]; rw [if_neg (by omega)]; exact h6⟩
      · obtain ⟨h3, h4, h5⟩ := hA.box id hid hn
        refine ⟨by simp only [setB]; rw [if_neg (by omega)]; exact h3, ?_⟩
        rw [hget_append_lt (by omega)]
        exact ⟨h4, h5⟩
      · obtain ⟨h3, h4, h5⟩ := hA.keep c hc hu hn
        refine ⟨h3, h4, fun id hid hbk => ?_⟩
        simp only [setB] at hbk
        split at hbk
        · have := hitem.lo c hbk; omega
        · simp at hid
          exact h5 id (by omega) hbk
    have := ih δ (pushM s d (C d)) _ hR2 hA2 (fun e he => hIt e (List.mem_cons_of_mem _ he)) hnd.2 (fun e he e' he' => hinj e (List.mem_cons_of_mem _ he) e' (List.mem_cons_of_mem _ he')) (fun id c hid hc e he hec => by
      have hid' : id < s.heap.length + 1 := by
        have : id < (s.heap ++ [C d]).length := hid
        simpa using this
      simp only [setB] at hc
      split at hc
      · have := hinj d List.mem_cons_self e (List.mem_cons_of_mem _ he) c hc hec
        exact hnd.1 (this ▸ he)
      · exact hfar id c (by omega) hc e (List.mem_cons_of_mem _ he) hec)
    obtain ⟨β3, g1, g2, g3⟩ := this
    exact ⟨β3, g1, g2, g3⟩

/-- The registers of the objects. -/
theorem pdlF_spec {E : Env} {h : Hint} {all : List Oper} {H : Heap} : ∀ (l : List Oper) (f : Nat → TV) (xs : List TV) (its : List (Option TV)) (g : Nat → TV) (vs : List (Option Nat)) (ys : List TV) (pd pdl : List Nat), LexP E h all H l f xs its g vs ys pd → pdl.Nodup →
    (∀ (j : Nat) (o : Oper) (d : Nat), l[j]? = some o → o.dst = some d → d ∉ pdl) → (∀ (i j : Nat) (oi oj : Oper) (t : Nat), l[i]? = some oi → l[j]? = some oj → oi.dst = some t → oj.dst = some t → i = j) →
    (pdlF l its pdl).Nodup ∧ ∀ d, d ∈ pdlF l its pdl → d ∈ pdl ∨ ∃ (j : Nat) (o : Oper) (x : TV), l[j]? = some o ∧ o.dst = some d ∧ its[j]? = some (some x) := by
  intro l
  induction l with
  | nil => intro f xs its g vs ys pd pdl hx hnd _ _; obtain ⟨_, rfl, _, _⟩ := hx; exact ⟨hnd, fun d hd => .inl hd⟩
  | cons o l ih =>
    intro f xs its g vs ys pd pdl hx hnd hfr hone
    obtain ⟨x, xs', it, its', v, vs', y, ys', rfl, rfl, rfl, rfl, h1, h2⟩ := hx
    have hone' : ∀ (i j : Nat) (oi oj : Oper) (t : Nat), l[i]? = some oi → l[j]? = some oj → oi.dst = some t → oj.dst = some t → i = j := fun i j oi oj t a b c d => by
      have := hone (i + 1) (j + 1) oi oj t (by simpa using a) (by simpa using b) c d
      omega
    cases it with
    | none =>
      obtain ⟨g1, g2⟩ := ih _ _ _ _ _ _ _ pdl h2 hnd (fun j o d hj => hfr (j + 1) o d (by simpa using hj)) hone'
      refine ⟨g1, fun d hd => (g2 d hd).imp_right fun ⟨j, o', x', q1, q2, q3⟩ => ⟨j + 1, o', x', by simpa using q1, q2, by simpa using q3⟩⟩
    | some z =>
      have hdst : ∃ d, o.dst = some d := by
        cases h1 with
        | base hs hi => cases hi
        | made hs => cases hs with
          | run _ _ _ _ _ _ _ e => cases e
          | skip _ _ _ _ _ _ _ _ e => cases e
          | made _ d hd => exact ⟨d, hd⟩
        | put _ _ hi => cases hi
      obtain ⟨d0, hd0⟩ := hdst
      have hn0 := hfr 0 o d0 rfl hd0
      simp only [pdlF, hd0, Option.getD_some]
      obtain ⟨g1, g2⟩ := ih _ _ _ _ _ _ _ (d0 :: pdl) h2 (List.nodup_cons.2 ⟨hn0, hnd⟩) (fun j o' d hj hd hm => by
        rcases List.mem_cons.1 hm with e | e
        · subst e
          have := hone (j + 1) 0 o' o d (by simpa using hj) rfl hd hd0
          omega
        · exact hfr (j + 1) o' d (by simpa using hj) hd e) hone'
      refine ⟨g1, fun d hd => ?_⟩
      rcases g2 d hd with e | ⟨j, o', x', q1, q2, q3⟩
      · rcases List.mem_cons.1 e with e | e
        · subst e; exact .inr ⟨0, o, z, rfl, hd0, rfl⟩
        · exact .inl e
      · exact .inr ⟨j + 1, o', x', by simpa using q1, q2, by simpa using q3⟩

theorem draw_any (hT : TIok S.P S.E) (hS : SpecsOK S.P S.E) (hn : h.n = n) {all pre rest : List Oper} (hp0 : all = pre ++ rest) {H : Heap} {w0 : World} {U0 : Nat → Prop} {β0 : Nat → Blk} {f0 : Nat → TV} {xs : List TV} {its : List (Option TV)} {vs : List (Option Nat)} {ys : List TV} {pd : List Nat} (hpd : pd = []) (hD : DrawOK S.E h all pre)
    (hbel : ∀ i o, all[i]? = some o → ∀ e ∈ o.after, Region.binds .any e = true → e.on < i)
    (hlast : ∀ i, pre.length ≤ i → ChainP all i)
    (hL : LexP S.E h all H pre f0 xs its (fun _ => .unk) vs ys pd)
    (hq : ∀ a w U β γ, Inv S n H w0 U0 β0 (updL pre f0 xs) a w U β → Items S H w0 pre its (contL pre vs ys fun _ => true) (fun _ => true) γ a w U β → wpList S.P all.toArray Q rest a w) :
    ∀ (fuel : Nat) (listed : Array Bool) (a : Act) (w : World) (U : Nat → Prop) (β : Nat → Blk) (γ : Nat → Blk), listed.size = all.length → unl listed all.length = fuel →
      (∀ j, pre.length ≤ j → listed.getD j false = false) →
      (∀ j o, all[j]? = some o → listed.getD j false = true → ∀ e ∈ o.after, Region.binds .any e = true → listed.getD e.on false = true) →
      Inv S n H w0 U0 β0 (after (fun j => listed.getD j false) 0 pre xs f0) a w U β → Items S H w0 pre its (contL pre vs ys fun j => listed.getD j false) (fun j => listed.getD j false) γ a w U β → wpAny S.P .any all.toArray Q fuel listed a w := by
  obtain ⟨hlen, hlen3, hlen4, hlen5⟩ := lex_len _ _ _ _ _ _ _ _ hL
  have hC : ∀ {L L' : Nat → Bool} {t : Nat}, (∀ j o, (vops pre vs)[j]? = some o → o.dst = some t → L j = L' j) → contL pre vs ys L t = contL pre vs ys L' t := by
    intro L L' t hh
    exact after_agree (vops pre vs) 0 ys _ _ rfl fun j o hj hd => by simpa using hh j o hj hd
  have full : ∀ {L : Nat → Bool} {γ : Nat → Blk} {a : Act} {w : World} {U : Nat → Prop} {β : Nat → Blk}, (∀ j, j < pre.length → L j = true) → Items S H w0 pre its (contL pre vs ys L) L γ a w U β → Items S H w0 pre its (contL pre vs ys fun _ => true) (fun _ => true) γ a w U β := by
    intro L γ a w U β hall hIt
    have e : contL pre vs ys (fun _ => true) = contL pre vs ys L := by
      funext t
      exact hC fun j o hj _ => (hall j (by rw [← hlen4]; exact (List.getElem?_eq_some_iff.1 hj).1)).symm
    rw [e]
    refine ⟨fun j o d x h1 hd h2 _ => hIt.item j o d x h1 hd h2 (hall j (List.getElem?_eq_some_iff.1 h1).1), fun j j' x x' c h1 h2 _ _ g1 g2 => hIt.inj j j' x x' c h1 h2 (hall j ?_) (hall j' ?_) g1 g2⟩
    · rw [hlen3]; exact (List.getElem?_eq_some_iff.1 h1).1
    · rw [hlen3]; exact (List.getElem?_eq_some_iff.1 h2).1
  -- what an object's content is written by
  have kind : ∀ {j : Nat} {o' : Oper} {t : Nat}, (vops pre vs)[j]? = some o' → o'.dst = some t → ∃ oj, pre[j]? = some oj ∧ (oj.dst = some t ∨ (putB oj = true ∧ (putAt oj).1 = t)) := by
    intro j o' t hj hd
    have hjl : j < pre.length := by rw [← hlen4]; exact (List.getElem?_eq_some_iff.1 hj).1
    have hj' := List.getElem?_eq_getElem hjl
    obtain ⟨x, it, v, y, pd', q1, q2, q3, q4, q5, _⟩ := lex_at pre f0 xs its _ vs ys pd j _ hL hj'
    rw [q3] at hj
    cases hj
    refine ⟨_, hj', ?_⟩
    cases q5 with
    | base _ _ hv => rw [hv] at hd; cases hd
    | made _ _ hv => exact .inl (hv ▸ hd)
    | put hp _ _ hv => rw [hv] at hd; exact .inr ⟨hp, Option.some.inj hd⟩
  have rdput : ∀ {o : Oper}, putB o = true → (putAt o).1 ∈ readsOf all o ∧ (putAt o).2 ∈ readsOf all o ∧ o.guard = none ∧ o.dst = none := by
    intro o hp
    unfold putB at hp
    simp only [Bool.and_eq_true] at hp
    obtain ⟨⟨hg, hd⟩, hp⟩ := hp
    have hg := Option.isNone_iff_eq_none.1 hg
    have hd := Option.isNone_iff_eq_none.1 hd
    unfold readsOf putAt
    rw [hg]
    cases hop : o.op <;> rw [hop] at hp <;> try (cases hp; done)
    rename_i t x y
    cases x <;> cases y <;> try (cases hp; done)
    exact ⟨by simp [opLooks, rdO], by simp [opLooks, rdO], rfl, hd⟩
  have hlen2 : all.length = pre.length + rest.length := by rw [hp0]; simp
  have up : ∀ {i : Nat} {o : Oper}, i < pre.length → all[i]? = some o → pre[i]? = some o := by
    intro i o hlt hi
    rw [hp0, List.getElem?_append_left hlt] at hi; exact hi
  have eall : ∀ listed : Array Bool, (∀ j, j < pre.length → listed.getD j false = true) → updL pre f0 xs = after (fun j => listed.getD j false) 0 pre xs f0 := by
    intro listed hall
    rw [updL_all _ _ _ hlen]
    funext t
    refine after_agree pre 0 xs f0 f0 rfl fun j o hj _ => ?_
    have hlt := (List.getElem?_eq_some_iff.1 hj).1
    simp only [Nat.zero_add]
    rw [hall j hlt]
    simpa using hlt
  intro fuel
  induction fuel with
  | zero =>
    intro listed a w U β γ hsz hun hnl hcl hI hIt
    have hall := unl_zero _ hun
    have hrest : rest = [] := by
      cases rest with
      | nil => rfl
      | cons o r =>
        have h1 := hnl pre.length (Nat.le_refl _)
        rw [hall pre.length (by rw [hlen2]; simp)] at h1; cases h1
    have h1 := hq a w U β γ (by rw [eall listed fun j hj => hall j (by omega)]; exact hI) (full (fun j hj => hall j (by omega)) hIt)
    rw [hrest] at h1
    exact ⟨ready_none hsz hun, h1⟩
  | succ fuel ih =>
    intro listed a w U β γ hsz hun hnl hcl hI hIt
    refine ⟨fun hr => ?_, fun i hi => ?_⟩
    · obtain ⟨j, h1, h2, h3⟩ := unl_first (listed := listed) all.length (by omega)
      have hj : j ∈ Region.ready .any all.toArray listed := by
        rw [mem_ready]
        have hj : all[j]? = some all[j] := List.getElem?_eq_getElem h1
        refine ⟨?_, all[j], by simp [h1], fun e he hb => h3 _ (hbel j _ hj e he hb)⟩
        rw [Array.getD_eq_getD_getElem?, Array.getElem?_eq_getElem (by omega)] at h2 ⊢
        simpa using h2
      rw [hr] at hj
      cases hj
    · obtain ⟨h1, o, ho, hready⟩ := mem_ready.1 hi
      have hia : all[i]? = some o := by simpa using ho
      have hlta := (List.getElem?_eq_some_iff.1 hia).1
      have hif : listed.getD i false = false := by
        rw [Array.getD_eq_getD_getElem?, Array.getElem?_eq_getElem (by omega)] at h1 ⊢
        simpa using h1
      have hready' : ∀ e ∈ o.after, Region.binds .any e = true → listed.getD e.on false = true := by
        intro e he hb
        have h5 := hbel i o hia e he hb
        have h6 := hready e he hb
        exact h6
      by_cases hlt : i < pre.length
      · have hi' := up hlt hia
        obtain ⟨x, it, v, y, pd', hx, hit, hvo, hyi, hst, hpd'⟩ := lex_at pre f0 xs its _ vs ys pd i o hL hi'
        rw [updL_take pre 0 i xs f0 hlen, updL_take (vops pre vs) 0 i ys _ (by rw [hlen4]; exact hlen5)] at hst
        -- an operation on which this one leans, and one that leans on it
        have lean : ∀ {j : Nat} {oj : Oper}, pre[j]? = some oj → edgeTo o j = true ∨ edgeTo oj i = true → listed.getD j false = decide (j < i) := by
          intro j oj hj hee
          rcases hee with he | he
          · obtain ⟨e, h2, h3, h4⟩ := edgeTo_spec he
            have h5 := hD.below i o hi' e h2 h3
            have h6 := hready e h2 h3
            rw [h4] at h5 h6
            rw [h6]; simpa using h5
          · obtain ⟨e, h2, h3, h4⟩ := edgeTo_spec he
            have h5 := hD.below j oj hj e h2 h3
            have h6 : listed.getD j false = false := by
              cases hl : listed.getD j false with
              | false => rfl
              | true =>
                have hja : all[j]? = some oj := by rw [hp0, List.getElem?_append_left (List.getElem?_eq_some_iff.1 hj).1]; exact hj
                have := hcl j oj hja hl e h2 h3
                rw [h4, hif] at this; cases this
            rw [h6]
            have : ¬ j < i := by omega
            simp [this]
        have reads : ∀ t, t ∈ readsOf all o → after (fun j => listed.getD j false) 0 pre xs f0 t = after (fun j => decide (j < 0 + i)) 0 pre xs f0 t := fun t ht => by
          refine after_agree pre 0 xs f0 f0 rfl fun j oj hj hd => ?_
          simp only [Nat.zero_add]
          by_cases hji : j = i
          · subst hji; rw [hif]; simp
          · exact lean hj (hD.order i j o oj t hi' hj (Ne.symm hji) hd ht)
        have hL' : ∀ j, (listed.setIfInBounds i true).getD j false = if i = j then true else listed.getD j false := fun j => getD_set (by omega)
        have hsome : ∀ (j : Nat) (o' : Oper) (x : TV), pre[j]? = some o' → its[j]? = some (some x) → madeB h o' = true ∧ ∃ d, o'.dst = some d := by
          intro j o' x1 h1 h2
          obtain ⟨_, it', _, _, _, _, h3, _, _, h4, _⟩ := lex_at pre f0 xs its _ vs ys pd j o' hL h1
          rw [h2] at h3
          cases h3
          cases h4 with
          | base _ hi => cases hi
          | made hs => cases hs with
            | run _ _ _ _ _ _ _ e => cases e
            | skip _ _ _ _ _ _ _ _ e => cases e
            | made _ d hd _ _ _ _ _ _ _ _ _ _ _ hm => exact ⟨hm, d, hd⟩
          | put _ _ hi => cases hi
        -- how it goes on
        have goOn : ∀ (a' : Act) (w' : World) (U' : Nat → Prop) (β' γ' : Nat → Blk), Inv S n H w0 U0 β0 (upd (after (fun j => listed.getD j false) 0 pre xs f0) o.dst x) a' w' U' β' →
            Items S H w0 pre its (contL pre vs ys fun j => (listed.setIfInBounds i true).getD j false) (fun j => (listed.setIfInBounds i true).getD j false) γ' a' w' U' β' →
            wpAny S.P .any all.toArray Q fuel (listed.setIfInBounds i true) a' w' := by
          intro a' w' U' β' γ' hI' hIt'
          refine ih (listed.setIfInBounds i true) a' w' U' β' γ' (by simpa using hsz) ?_ ?_ ?_ ?_ hIt'
          · have := unl_set (i := i) (by omega) hif all.length
            rw [if_pos hlta] at this
            omega
          · intro j hj
            rw [getD_set_ne false (by omega)]
            exact hnl j hj
          · intro j oj hj hl e he hb
            by_cases hji : i = j
            · subst hji
              rw [hia] at hj; cases hj
              exact getD_set_true (hready e he hb)
            · rw [getD_set_ne false hji] at hl
              exact getD_set_true (hcl j oj hj hl e he hb)
          · have e : upd (after (fun j => listed.getD j false) 0 pre xs f0) o.dst x = after (fun j => (listed.setIfInBounds i true).getD j false) 0 pre xs f0 := by
              funext t
              unfold upd
              split
              · rename_i hd
                refine (after_hit pre 0 xs f0 i o x hi' hx hd ?_ fun j' o' hj' hne hd' => hne (hD.one _ _ _ _ _ hj' hi' hd' hd)).symm
                simp only [Nat.zero_add]
                rw [getD_set (by omega), if_pos rfl]
              · rename_i hd
                refine after_agree pre 0 xs f0 f0 rfl fun j oj hj hdj => ?_
                simp only [Nat.zero_add]
                rw [getD_set (by omega), if_neg]
                rintro rfl
                rw [hi'] at hj; cases hj
                exact hd hdj
            rw [← e]; exact hI'
        -- the content that a store or a new object leaves
        have last : ∀ d, v = some d → contL pre vs ys (fun j => (listed.setIfInBounds i true).getD j false) d = y := by
          intro d hv
          refine after_last (vops pre vs) 0 ys _ i _ y hvo hyi hv (by simp only [Nat.zero_add]; rw [hL', if_pos rfl]) fun j' o' hj' hlt' hl' hd' => ?_
          simp only [Nat.zero_add] at hl'
          rw [hL', if_neg (by omega)] at hl'
          obtain ⟨oj, hoj, hk⟩ := kind hj' hd'
          have hself : o.dst = some d ∨ (putB o = true ∧ (putAt o).1 = d) := by
            cases hst with
            | base _ _ h2 => rw [h2] at hv; cases hv
            | made _ _ h2 => exact .inl (h2 ▸ hv)
            | put hp _ _ h2 => rw [h2] at hv; exact .inr ⟨hp, Option.some.inj hv⟩
          have hfalse : (edgeTo oj i = true ∨ edgeTo o j' = true) → False := fun hee => by
            have := lean hoj hee.symm
            rw [hl'] at this
            have : j' < i := by simpa using this.symm
            omega
          rcases hk with hk | ⟨hk1, hk2⟩ <;> rcases hself with hs | ⟨hs1, hs2⟩
          · have := hD.one j' i oj o d hoj hi' hk hs; omega
          · exact hfalse (hD.order i j' o oj d hi' hoj (by omega) hk (hs2 ▸ (rdput hs1).1)).symm
          · exact hfalse (hD.order j' i oj o d hoj hi' (by omega) hs (hk2 ▸ (rdput hk1).1))
          · exact hfalse (hD.puts j' i oj o hoj hi' (by omega) hk1 hs1 (hk2.trans hs2.symm))
        have stay : ∀ d, v ≠ some d → contL pre vs ys (fun j => (listed.setIfInBounds i true).getD j false) d = contL pre vs ys (fun j => listed.getD j false) d := by
          intro d hv
          refine hC fun j o' hj hd => ?_
          rw [hL', if_neg]
          rintro rfl
          rw [hvo] at hj
          cases hj
          exact hv hd
        by_cases hpb : putB o = true
        · -- a store into an object that is not counted yet
          cases hst with
          | base hs => cases hs with
            | run hq2 => rw [(quiet_not hq2).2] at hpb; cases hpb
            | skip j want g hg => rw [(rdput hpb).2.2.1] at hg; cases hg
            | made hg d hd => rw [(rdput hpb).2.2.2] at hd; cases hd
          | made hs => cases hs with
            | run hq2 => rw [(quiet_not hq2).2] at hpb; cases hpb
            | skip j want g hg => rw [(rdput hpb).2.2.1] at hg; cases hg
            | made hg d hd => rw [(rdput hpb).2.2.2] at hd; cases hd
          | put hp hx0 hi0 hv h1 h2 h3 h4 hpm s1 hr hh ha hy hb =>
            obtain ⟨r1, r2, hg, hdn⟩ := rdput hp
            rcases hpd' _ hpm with e | ⟨j0, o0, x0, p1, p2, p3, p4⟩
            · rw [hpd] at e; cases e
            have hlj0 : listed.getD j0 false = true := by
              have := lean p2 (hD.order i j0 o o0 _ hi' p2 (by omega) p3 r1)
              rw [this]; simpa using p1
            have hcont : contL pre vs ys (fun j => listed.getD j false) (putAt o).1 = after (fun j => decide (j < 0 + i)) 0 (vops pre vs) ys (fun _ => .unk) (putAt o).1 := by
              refine after_agree (vops pre vs) 0 ys _ _ rfl fun j o' hj hd => ?_
              simp only [Nat.zero_add]
              by_cases hji : j = i
              · subst hji; rw [hif]; simp
              · obtain ⟨oj, hoj, hk⟩ := kind hj hd
                rcases hk with hk | ⟨hk1, hk2⟩
                · exact lean hoj (hD.order i j o oj _ hi' hoj (Ne.symm hji) hk r1)
                · exact lean hoj (hD.puts i j o oj hi' hoj (Ne.symm hji) hp hk1 hk2.symm)
            have hitem := hIt.item j0 o0 _ x0 p2 p3 p4 hlj0
            rw [← hcont] at h3 hr
            rw [h3] at hitem
            rw [← reads _ r2] at h1 h2 hr
            have hst' := Inv.put (Q := Q) (K := wpAny S.P .any all.toArray Q fuel (listed.setIfInBounds i true)) hT hS hn hI hitem hdn hg h1 h2 hr hh ha hy h4 (fun w' U' hI' hnew hoth => by
              refine goOn a w' U' β γ (by rw [hdn, upd_none]; exact hI') ⟨fun j o' d x1 q1 q2 q3 q4 => ?_, fun j j' x1 x2 c q1 q2 q3 q4 g1 g2 => ?_⟩
              · have hji : i ≠ j := fun e => by rw [← e, hit, hi0] at q3; cases q3
                rw [hL', if_neg hji] at q4
                by_cases e : d = (putAt o).1
                · have hjj : j = j0 := hD.one j j0 o' o0 d q1 p2 q2 (e ▸ p3)
                  subst hjj
                  rw [e, last _ hv, hb]
                  exact hnew
                · rw [stay d (by rw [hv]; exact fun e2 => e (Option.some.inj e2).symm)]
                  refine hoth _ _ _ _ (hIt.item j o' d x1 q1 q2 q3 q4) fun c hc hc2 => ?_
                  have := hIt.inj j j0 x1 x0 c q3 p4 q4 hlj0 hc hc2
                  subst this
                  rw [q1] at p2; cases p2
                  rw [q2] at p3; exact e (Option.some.inj p3)
              · have e1 : i ≠ j := fun e => by rw [← e, hit, hi0] at q1; cases q1
                have e2 : i ≠ j' := fun e => by rw [← e, hit, hi0] at q2; cases q2
                rw [hL', if_neg e1] at q3
                rw [hL', if_neg e2] at q4
                exact hIt.inj j j' x1 x2 c q1 q2 q3 q4 g1 g2)
            unfold wpOp
            simp only [ho]
            rw [if_pos (wanted_none hg)]
            exact .inl hst'
        · have hb : ∃ hs : StepP S.E h all H o (after (fun j => decide (j < 0 + i)) 0 pre xs f0) x it, (it = none ∧ v = none) ∨ (it = some y ∧ v = o.dst) := by
            cases hst with
            | base hs hi hv => exact ⟨hs, .inl ⟨hi, hv⟩⟩
            | made hs hi hv => exact ⟨hs, .inr ⟨hi, hv⟩⟩
            | put hp => exact absurd hp hpb
          obtain ⟨hs, hkind⟩ := hb
          have hst' := Inv.step (Q := Q) (K := wpAny S.P .any all.toArray Q fuel (listed.setIfInBounds i true)) hT hS hn hI hs reads (fun a' w' U' β' hI' hr' hA' hn' => ?_)
          · unfold wpOp
            simp only [ho]
            split
            · rename_i hw; rw [if_pos hw] at hst'; exact .inl hst'
            · rename_i hw; rw [if_neg hw] at hst'; exact hst'
          · obtain ⟨γ', hIt'⟩ := hIt.step (C' := contL pre vs ys fun j => (listed.setIfInBounds i true).getD j false) (L' := fun j => (listed.setIfInBounds i true).getD j false) hlen3 hi' hit hL' hif (fun j o' d x1 h1 hd h2 hne _ => by
              have hnd : o.dst ≠ some d := fun e => hne (hD.one _ _ _ _ _ h1 hi' hd e)
              refine ⟨hnd, stay d fun e => ?_⟩
              rcases hkind with ⟨_, hv⟩ | ⟨_, hv⟩
              · rw [hv] at e; cases e
              · exact hnd (hv ▸ e)) (fun d x1 hd e => by
              rcases hkind with ⟨h1, _⟩ | ⟨h1, hv⟩
              · rw [h1] at e; cases e
              · rw [h1] at e; cases e
                exact last d (hv.trans hd)) (fun j o' x1 h1 h2 => (hsome j o' x1 h1 h2).2) hr' hA' hn'
            exact goOn a' w' U' β' γ' hI' hIt'
      · -- the chain
        have hall : ∀ j, j < i → listed.getD j false = true := hlast i (by omega) listed hcl o hia hready'
        have hi0 : i = pre.length := by
          refine Classical.byContradiction fun hne => ?_
          have h1 := hnl pre.length (Nat.le_refl _)
          rw [hall pre.length (by omega)] at h1; cases h1
        subst hi0
        have hI' : Inv S n H w0 U0 β0 (updL pre f0 xs) a w U β := by rw [eall listed hall]; exact hI
        have hw := hq a w U β γ hI' (full (fun j hj => hall j hj) hIt)
        have hd : all.drop pre.length = rest := by rw [hp0]; simp
        exact wpAny_chain_at hbel hlast rest pre.length (Nat.le_refl _) (fuel + 1) listed a w hd hsz hall hnl hun hw pre.length hi

theorem Adv.any_app {H H' : Heap} {U' : Nat → Prop} {β' : Nat → Blk} {app : List Nat} (hA : Adv w U β H w' U' β' H' []) : Adv w U β H w' U' β' H' app :=
  ⟨⟨hA.use, hA.same, hA.len, fun id e xs hl he => (hA.row id e xs hl he).imp fun _ h => ⟨h.1, fun _ => h.2 (by simp)⟩, hA.box⟩, hA.keep⟩

theorem draw_sound (hT : TIok S.P S.E) (hS : SpecsOK S.P S.E) (hm : S.P.follows .mixedOrders = true) (hn : h.n = n) {ops : Array Oper} {id : Nat} {k : St → Option α} (hR : FRel S n U β s a w) {pre rest : List Oper} (hp0 : ops.toList = pre ++ rest) (hD : DrawOK S.E h ops.toList pre)
    (hbel : ∀ i o, ops.toList[i]? = some o → ∀ e ∈ o.after, Region.binds .any e = true → e.on < i)
    (hlast : ∀ i, pre.length ≤ i → ChainP ops.toList i)
    (hk : opsD S.E h ops.toList pre s [] k = some r)
    (hq : ∀ a' w', Handed S n U β s w k r a' w' → wpList S.P ops Q rest a' w') : (Code.region id ops true).wp S.P Q a w := by
  obtain ⟨xs, its, vs, ys, s', hL, hk', hg, hh, happ⟩ := lex_of pre s (fun _ => .unk) [] k hD.quiet hk
  obtain ⟨_, hlen3, hlen4, hlen5⟩ := lex_len _ _ _ _ _ _ _ _ hL
  refine wp_region_any hm ?_
  have hb : Below w.heap.size w { w with drawn := w.drawn + 1 } := (Below.refl _ _).drew
  have hG := hR.grow hb (U' := U) (fun b => ⟨.inl, fun h => h.elim (fun h => h) fun h => h.2.2⟩)
  have hand : ∀ a w1 U1 β1 γ, Inv S n s.heap w U β (updL pre s.get xs) a w1 U1 β1 → Items S s.heap w pre its (contL pre vs ys fun _ => true) (fun _ => true) γ a w1 U1 β1 → Handed S n U β s w k r a w1 := by
    intro a' w1 U1 β1 γ hI hIt
    have hF : FRel S n U1 β1 s' a' w1 := ⟨hI.defers, hI.size, fun t => by
      have := hI.regs t
      rw [← hg] at this
      rw [hh]; exact this, hh ▸ hI.wrel⟩
    obtain ⟨p1, p2⟩ := pdlF_spec pre _ _ _ _ _ _ _ [] hL List.nodup_nil (fun _ _ _ _ _ h => by cases h) hD.one
    have hC : updL (vops pre vs) (fun _ => .unk) ys = contL pre vs ys fun _ => true := by
      rw [updL_all _ _ _ (by rw [hlen4]; exact hlen5)]
      funext t
      refine after_agree (vops pre vs) 0 ys _ _ rfl fun j o hj _ => ?_
      have := (List.getElem?_eq_some_iff.1 hj).1
      simpa using this
    rw [hC] at hk'
    have hex : ∀ d, d ∈ pdlF pre its [] → ∃ (j : Nat) (o : Oper) (x : TV), pre[j]? = some o ∧ o.dst = some d ∧ its[j]? = some (some x) := fun d hd => (p2 d hd).resolve_left (by simp)
    let ix : Nat → Nat := fun d => Classical.epsilon fun j => ∃ (o : Oper) (x : TV), pre[j]? = some o ∧ o.dst = some d ∧ its[j]? = some (some x)
    have hix : ∀ d, d ∈ pdlF pre its [] → ∃ (o : Oper) (x : TV), pre[ix d]? = some o ∧ o.dst = some d ∧ its[ix d]? = some (some x) := fun d hd => by
      exact Classical.epsilon_spec (p := fun j => ∃ (o : Oper) (x : TV), pre[j]? = some o ∧ o.dst = some d ∧ its[j]? = some (some x)) (hex d hd)
    have hitems : ∀ d, d ∈ pdlF pre its [] → Item S s.heap w w1 U1 β1 (contL pre vs ys (fun _ => true) d) (bOf (contL pre vs ys (fun _ => true) d)) (a'.tmps.getD d undef) (γ (ix d)) := fun d hd => by
      obtain ⟨o, x, q1, q2, q3⟩ := hix d hd
      exact hIt.item _ o d x q1 q2 q3 rfl
    obtain ⟨β2, g1, g2, g3⟩ := adopt_all (S := S) (H := s.heap) (w0 := w) (pdlF pre its []) (fun d => γ (ix d)) s' β1 hF (by rw [hh]; exact hI.adv) (fun d hd => hitems d hd) p1 (fun d hd d' hd' c h1 h2 => by
      obtain ⟨o, x, q1, q2, q3⟩ := hix d hd
      obtain ⟨o', x', q1', q2', q3'⟩ := hix d' hd'
      have e := hIt.inj _ _ x x' c q3 q3' rfl rfl h1 h2
      rw [e, q1'] at q1
      cases q1
      rw [q2'] at q2
      exact (Option.some.inj q2).symm) (fun id c hid hc d hd h1 => by
      rw [hh] at hid
      exact ((hitems d hd).blk c h1).2.2 id hid hc)
    exact ⟨_, U1, β2, hk', g1, g2.any_app, fun _ _ h => by rw [g3, happ]; exact h⟩
  have := draw_any (Q := Q) hT hS hn hp0 rfl hD hbel hlast hL (fun a w1 U1 β1 γ hI hIt => by
      have := hq _ _ (hand a w1 U1 β1 γ hI hIt)
      simpa using this) ops.size (Array.replicate ops.size false) a { w with drawn := w.drawn + 1 } U β (fun _ => ⟨none, 0⟩) (by simp) (by simpa using unl_false ops.size)
    (fun j _ => by
      rw [Array.getD_eq_getD_getElem?]
      by_cases hj : j < ops.size
      · rw [Array.getElem?_eq_getElem (by simpa using hj)]; simp
      · rw [Array.getElem?_eq_none (by simpa using hj)]; rfl)
    (fun j o hj hl => by
      have hlt := (List.getElem?_eq_some_iff.1 hj).1
      rw [Array.getD_eq_getD_getElem?, Array.getElem?_eq_getElem (by simpa using hlt)] at hl
      simp at hl)
    (by
      have e : after (fun j => (Array.replicate ops.size false).getD j false) 0 pre xs s.get = s.get := after_none _ _ _ _ _ fun j => by
        rw [Array.getD_eq_getD_getElem?]
        by_cases hj : 0 + j < ops.size
        · rw [Array.getElem?_eq_getElem (by simpa using hj)]; simp
        · rw [Array.getElem?_eq_none (by simpa using hj)]; rfl
      rw [e]
      exact ⟨hG.defers, hG.size, hG.regs, hG.wrel, Adv.grow hb.block hR.wrel.uin (fun _ h => h) (fun _ _ h => h)⟩)
    (by
      have hf : ∀ j, (Array.replicate ops.size false).getD j false = false := fun j => by
        rw [Array.getD_eq_getD_getElem?]
        by_cases hj : j < ops.size
        · rw [Array.getElem?_eq_getElem (by simpa using hj)]; simp
        · rw [Array.getElem?_eq_none (by simpa using hj)]; rfl
      exact ⟨fun j o d x _ _ _ hl => by (simp only [hf] at hl; cases hl), fun j j' x x' c _ _ hl => by (simp only [hf] at hl; cases hl)⟩)
  simpa using this
end
end Go.Dp
/- What is forgotten where ways meet. -/
set_option autoImplicit false
set_option linter.unusedVariables false
set_option linter.unusedSimpArgs false
namespace Go.Dp
open Go.RowKit

section
variable {w w' : World} {U U' : Nat → Prop} {β β' : Nat → Blk} {H H' : Heap} {m : Nat}

theorem memN_in : ∀ {l : List Nat} {i : Nat}, memN l i = true → i ∈ l := by
  intro l
  induction l with
  | nil => intro i h; cases h
  | cons j l ih =>
    intro i h
    simp only [memN] at h
    cases hb : Nat.beq j i with
    | true => rw [beqN hb]; exact List.mem_cons_self
    | false => rw [hb] at h; exact List.mem_cons_of_mem _ (ih h)

end

theorem castL_some : ∀ (ts : List Ty) (xs : List TV) (y : tysDen ts), castL ts xs = some y → unL ts y = xs ∧ xs.map (·.t) = ts := by
  intro ts
  induction ts with
  | nil =>
    intro xs y h
    cases xs with
    | nil => exact ⟨rfl, rfl⟩
    | cons x xs => cases h
  | cons t ts ih =>
    intro xs y h
    cases xs with
    | nil => cases h
    | cons x xs =>
      unfold castL at h
      split at h
      · rename_i a ha
        split at h
        · rename_i b hb
          cases h
          obtain ⟨h1, h2⟩ := ih _ _ hb
          have := cast_some ha
          subst this
          exact ⟨by simp [unL, h1], by simp [h2]⟩
        · cases h
      · cases h

theorem zipR_mask (f : Nat → TV) : ∀ l : List (Nat × Ty), zipR l (maskT l f) = maskF (l.map (·.1)) f := by
  intro l
  induction l with
  | nil => rfl
  | cons p l ih => simp only [maskT, List.map_cons, zipR, maskF]; rw [show l.map (fun p => f p.1) = maskT l f from rfl, ih]; rfl

theorem regTys_map : ∀ l : List (Nat × Ty), regTys l = l.map (·.2) := by
  intro l
  induction l with
  | nil => rfl
  | cons p l ih => simp [regTys, ih]

/-- What is packed is what was there. -/
theorem unpack_pack {g : Seg} {s : St} {y : g.den} (h : pack g s = some y) (hg : g.ok = true) :
    unpack g y = ⟨maskF (g.regs.map (·.1)) s.get, s.heap.take g.heap.length, g.app⟩ ∧ gcOK g.heap.length (maskT g.regs s.get) = true ∧ gcOK g.heap.length (s.heap.take g.heap.length) = true ∧
      ∀ i, i < g.heap.length → i ∈ s.app → i ∈ g.app := by
  unfold pack at h
  obtain ⟨h1, h⟩ := bif_some h
  split at h
  · rename_i a ha
    split at h
    · rename_i b hb
      cases h
      obtain ⟨e1, e2⟩ := castL_some _ _ _ ha
      obtain ⟨e3, e4⟩ := castL_some _ _ _ hb
      obtain ⟨g1, g2⟩ := and2 hg
      refine ⟨?_, ?_, ?_, fun i hi hm => ?_⟩
      · unfold unpack
        simp only [e1, e3, zipR_mask]
      · unfold gcOK
        rw [List.all_eq_true]
        intro x hx
        have : x.t ∈ regTys g.regs := by rw [← e2]; exact List.mem_map_of_mem hx
        rw [regTys_map] at this
        obtain ⟨p, hp, he⟩ := List.mem_map.1 this
        rw [← he]
        exact List.all_eq_true.1 g1 p hp
      · unfold gcOK
        rw [List.all_eq_true]
        intro x hx
        have : x.t ∈ g.heap := by rw [← e4]; exact List.mem_map_of_mem hx
        exact List.all_eq_true.1 g2 _ this
      · have h2 := List.all_eq_true.1 h1 i hm
        have h3 : Nat.blt i g.heap.length = true := by simpa using hi
        rw [h3] at h2
        exact memN_in (by simpa using h2)
    · cases h
  · cases h

section
variable {S : Base} {n : Nat} {U : Nat → Prop} {β : Nat → Blk} {s : St} {a : Act} {w : World}

theorem pack_ok {w0 : World} {U0 : Nat → Prop} {β0 : Nat → Blk} {H0 : Heap} {app0 : List Nat} {g : Seg} {y : g.den} (hp : pack g s = some y) (hg : g.ok = true) (hR : FRel S n U β s a w) (hA : Adv w0 U0 β0 H0 w U β s.heap s.app)
    (hm : ∀ id, id < H0.length → id ∈ app0 → id ∈ s.app) (hl : H0.length ≤ g.heap.length) :
    FRel S n U β (unpack g y) a w ∧ Adv w0 U0 β0 H0 w U β (unpack g y).heap (unpack g y).app ∧ ∀ id, id < H0.length → id ∈ app0 → id ∈ (unpack g y).app := by
  obtain ⟨e, h1, h2, h3⟩ := unpack_pack hp hg
  rw [e]
  refine ⟨⟨hR.defers, hR.size, fun i => ?_, hR.wrel.take h2⟩, hA.take hl fun id hi h => h3 id (by omega) h, fun id hi h => h3 id (by omega) (hm id hi h)⟩
  show EncV w U β (s.heap.take g.heap.length) (lookTV (maskF (g.regs.map (·.1)) s.get) i) _
  have key : ∀ l' : List (Nat × Ty), gcOK g.heap.length (maskT l' s.get) = true → EncV w U β (s.heap.take g.heap.length) (lookTV (maskF (l'.map (·.1)) s.get) i) (a.tmps.getD i undef) := by
    intro l'
    induction l' with
    | nil => intro _; exact .inl rfl
    | cons j l' ih =>
      intro hg
      simp only [maskT, List.map_cons, gcOK, List.all_cons, Bool.and_eq_true] at hg
      simp only [maskF, List.map_cons, lookTV]
      cases hj : Nat.beq j.1 i with
      | true => obtain rfl := beqN hj; exact (hR.regs j.1).take hg.1
      | false => exact ih hg.2
  exact key _ h1

theorem xeq_eq {e f : XEx} (h : xeq e f = true) : e = f := by
  cases e <;> cases f <;> first | rfl | (cases h; done) | (rw [beqN h])

/-- What is packed at the end of a part, taken up behind it. -/
theorem packO_ok {α : Type} {k : XEx → St → Option α} {r : α} {e : XEx} : ∀ (outs : Outs) (y : outDen outs), packO outs e s = some y → unpackO k outs y = some r →
    ∃ g, (e, g) ∈ outs ∧ ∃ z : g.den, pack g s = some z ∧ k e (unpack g z) = some r := by
  intro outs
  induction outs with
  | nil => intro y h; cases h
  | cons p l ih =>
    intro y h hk
    obtain ⟨t, g⟩ := p
    cases l with
    | nil =>
      simp only [packO] at h
      obtain ⟨h1, h2⟩ := bif_some h
      obtain rfl := xeq_eq h1
      exact ⟨g, List.mem_cons_self, y, h2, hk⟩
    | cons p l =>
      simp only [packO] at h
      cases hx : xeq t e with
      | true =>
        rw [hx] at h
        obtain rfl := xeq_eq hx
        simp only [cond_true] at h
        split at h
        · rename_i z hz
          cases h
          exact ⟨g, List.mem_cons_self, z, hz, hk⟩
        · cases h
      | false =>
        rw [hx] at h
        simp only [cond_false] at h
        split at h
        · rename_i z hz
          cases h
          obtain ⟨g', h1, h2⟩ := ih z hz hk
          exact ⟨g', List.mem_cons_of_mem _ h1, h2⟩
        · cases h
end
end Go.Dp
/- Regions in the order of the text; a variable that is stored once; drawn regions in which one operation does more than give a value. -/
set_option autoImplicit false
set_option linter.unusedVariables false
set_option linter.unusedSimpArgs false
namespace Go.Dp
open Go.RowKit

section
variable {S : Base} {n : Nat} {U : Nat → Prop} {β : Nat → Blk} {s : St} {a : Act} {w w' : World} {α : Type} {r : α} {h : Hint} {Q : Exit → Act → World → Prop} {o : Oper} {call : CallT α}

theorem hset_last {x y : TV} : ∀ H : Heap, hset (H ++ [x]) H.length y = H ++ [y] := by
  intro H
  induction H with
  | nil => rfl
  | cons z l ih => simp only [List.cons_append, List.length_cons, hset, ih]

theorem new_blk {H : Heap} {y : TV} {U' : Nat → Prop} {β' : Nat → Blk} (hW : WRel S U' β' (H ++ [y]) w') (hA : Adv w U β H w' U' β' (H ++ [y]) []) : ∀ c, (β' H.length).blk = some c → w.heap.size ≤ c := fun c hcb => by
  refine Classical.byContradiction fun hlt' => ?_
  have hlen : H.length < (H ++ [y]).length := by simp
  have g1 := hW.blk_lt hlen hcb
  have hnu : ¬ U c := fun hu => g1.2.2 (hA.use c hu)
  have hnb : ∀ id, id < H.length → (β id).blk ≠ some c := fun id hid hbk => by
    have := hW.heap.inj id H.length c (by simp; omega) hlen (by rw [hA.blk_eq hid]; exact hbk) hcb
    omega
  exact (hA.keep c (by omega) hnu hnb).2.2 H.length hlen hcb

theorem pure_notObj {t : Ty} (h : t.pure = true) : t.isObj = false := by
  cases t <;> simp_all [Ty.pure, Ty.isObj]

/-- A new variable that is stored once, at once, and never again. -/
theorem pair_sound (hT : TIok S.P S.E) (hS : SpecsOK S.P S.E) (hC : CallSound S (call := (noCall : CallT St))) (hn : h.n = n) {o2 : Oper} {l all : List Oper} {e t d : Nat} {y : Operand} {k : St → Option α} (hR : FRel S n U β s a w) (hg : o.guard = none) (hp : pairOf h o (o2 :: l) = some (e, t, d, y))
    (hk : pairC S.E h s e t d (ev S.E s t y) k = some r) (hq : ∀ a' w', Handed S n U β s w k r a' w' → wpList S.P all.toArray Q l a' w') : wpList S.P all.toArray Q (o :: o2 :: l) a w := by
  unfold pairOf at hp
  simp only at hp
  split at hp
  · rename_i e' d' t' d'' y' hop hd ho2 hg2 hd2
    obtain ⟨h1, hp⟩ := bif_some hp
    cases hp
    obtain ⟨h1, hown⟩ := and2 h1
    obtain ⟨h1, hyd⟩ := and2 h1
    obtain ⟨him, hdd⟩ := and2 h1
    have hdd := beqN hdd
    subst hdd
    have hown : memN h.own d = false := by simpa using hown
    unfold pairC at hk
    obtain ⟨h1, hk⟩ := bif_some hk
    obtain ⟨h1, hsh⟩ := and2 h1
    obtain ⟨h1, hpure⟩ := and2 h1
    obtain ⟨h1, hst⟩ := and2 h1
    obtain ⟨h1, hz⟩ := and2 h1
    obtain ⟨h1, hcs⟩ := and2 h1
    obtain ⟨hgc, hlt⟩ := and2 h1
    have hYo := pure_notObj hpure
    have hTo := zOK_notObj hz
    generalize hY : ev S.E s t y = Y at *
    let T := (tiOf S.E e).ty
    let s1 : St := (⟨s.regs, s.heap ++ [⟨(tiOf S.E e).ty, (tiOf S.E e).ty.dflt⟩], []⟩ : St).set d ⟨.loc s.heap.length false [], (0 : Nat)⟩
    have hR0 : FRel S n U β ⟨s.regs, s.heap, []⟩ a w := ⟨hR.defers, hR.size, hR.regs, hR.wrel⟩
    have hk1 : opC S.E h (noCall : CallT St) o ⟨s.regs, s.heap, []⟩ some = some s1 := by
      unfold opC
      rw [hop]
      simp only [Hint.isOwn, hd, hown, cond_false, hcs, hz, Bool.and_self, cond_true, putC, hlt]
      rfl
    refine wpList_step fun K hK => ?_
    rw [if_pos (wanted_none hg)]
    refine Oper.wp_mono ?_ (wp_put (op_sound hT hS hC hn hR0 hk1))
    rintro a1 w1 ⟨hh1, v1, hv1⟩
    obtain ⟨s1', U1, β1, e1, R1, A1, _⟩ := hh1.out
    obtain rfl : s1 = s1' := (Option.some.inj e1).symm
    refine hK _ _ (wpList_step fun K2 hK2 => ?_)
    rw [if_pos (wanted_none hg2)]
    have hevY : ev S.E s1 t y = Y := by
      rw [← hY]
      cases y with
      | tmp i =>
        have hne : Nat.beq d i = false := by simpa using hyd
        show (s1.get i) = s.get i
        simp only [s1]
        rw [get_set, hne]
        rfl
      | _ => rfl
    have hx2 : EncV w1 U1 β1 s1.heap ⟨.loc s.heap.length false [], (0 : Nat)⟩ (a1.eval (.tmp d)) := by
      have := R1.regs d
      have hgd : s1.get d = ⟨.loc s.heap.length false [], (0 : Nat)⟩ := by simp only [s1]; rw [get_set, Nat.beq_refl]; rfl
      rw [hgd] at this
      exact this
    have hy2 : EncV w1 U1 β1 s1.heap Y (a1.eval y) := by
      have := R1.ev t y
      rw [hevY] at this
      exact this
    have hs1h : s1.heap = s.heap ++ [⟨(tiOf S.E e).ty, (tiOf S.E e).ty.dflt⟩] := rfl
    have hk2 : storeC S.E s1 t ⟨.loc s.heap.length false [], (0 : Nat)⟩ Y (fun s => putC h s o2.dst .unk some) = some ⟨s1.regs, s.heap ++ [Y], []⟩ := by
      unfold storeC
      simp only [hst, cond_true]
      rw [hs1h, hget_append_at]
      have hsh := decT hsh
      simp only [partAt, setAt, hset_last, hTo, hYo, Bool.not_false, Bool.and_true, hd2, putC, hsh, decide_true, cond_true]
      rfl
    refine Oper.wp_mono ?_ (wp_put (storeV_ok (Q := Q) (k := some) hT hn R1 ho2 hx2 hy2 hk2))
    rintro a2 w2 ⟨hh2, v2, hv2⟩
    obtain ⟨s2', U2, β2, e2, R2, A2, _⟩ := hh2.out
    obtain rfl := (Option.some.inj e2).symm
    refine hK2 _ _ (hq _ _ ?_)
    have hW2 : WRel S U2 β2 (s.heap ++ [Y]) w2 := R2.wrel
    have hA : Adv w U β s.heap w2 U2 β2 (s.heap ++ [Y]) [] := A1.trans A2 (fun _ _ h => h)
    have hnew := new_blk hW2 hA
    have htake : (s.heap ++ [Y]).take s.heap.length = s.heap := by simp
    have hAH : Adv w U β s.heap w2 U2 β2 s.heap [] := by
      have := hA.take (m := s.heap.length) (Nat.le_refl _) (A := []) (fun _ _ h => h)
      rwa [htake] at this
    have hWH : WRel S U2 β2 s.heap w2 := by
      have := hW2.take (m := s.heap.length) (by rw [htake]; exact hgc)
      rwa [htake] at this
    have hlast : s.heap.length < (s.heap ++ [Y]).length := by simp
    obtain ⟨b, cs, el, fr, h4, hge, hnU, h5, hfr, h6, hcap⟩ := (hW2.heap.obj s.heap.length hlast).box (by rw [hget_append_at]; exact hYo)
    have h6 : EncM w2 U2 β2 (s.heap ++ [Y]) false Y.t Y.v cs.toList := by
      have hgy : hget (s.heap ++ [Y]) s.heap.length = Y := hget_append_at
      rw [hgy] at h6
      exact h6
    let U3 : Nat → Prop := fun c => U2 c ∨ c = b
    have hU3 : ∀ c, U2 c → U3 c := fun c h => .inl h
    have hAc : AdvC w2 U2 β2 s.heap w2 U3 β2 s.heap [] := ⟨hU3, fun _ _ => rfl, Nat.le_refl _, fun _ _ xs _ he => ⟨xs, he, fun _ => ⟨rfl, rfl⟩⟩, fun _ _ hn => ⟨rfl, rfl, hn⟩⟩
    have hfar : ∀ id c, id < s.heap.length → (β2 id).blk = some c → ¬ U3 c := fun id c hid hc hu => by
      rcases hu with hu | rfl
      · exact (hWH.blk_lt hid hc).2.2 hu
      · have := hW2.heap.inj id s.heap.length c (by simp; omega) hlast hc h4
        omega
    have hW3 : WRel S U3 β2 s.heap w2 := by
      refine ⟨⟨fun id hid => (hWH.heap.obj id hid).advC hAc rfl rfl (fun c hc => ⟨rfl, hfar id c hid hc⟩) (avoidsO_nil _), hWH.heap.inj⟩, hWH.below, fun c hc => ?_, fun c hc => ⟨fun h => ?_, fun h => .inl ((hWH.uold c hc).2 h)⟩, fun g z hz => ?_⟩
      · rcases hc with hc | rfl
        · exact hWH.uin c hc
        · exact (hW2.blk_lt hlast h4).1
      · rcases h with h | h
        · exact (hWH.uold c hc).1 h
        · omega
      · rcases hWH.globs g z hz with q | ⟨q1, q2, q3⟩
        · exact .inl q
        · exact .inr ⟨q1, q2, q3.advC hAc (avoids_nil _)⟩
    have hA3 : Adv w U β s.heap w2 U3 β2 s.heap [] := ⟨⟨fun c h => .inl (hAH.use c h), hAH.same, hAH.len, hAH.row, hAH.box⟩, fun c hc hu hnb => ⟨(hAH.keep c hc hu hnb).1, fun h => h.elim (hAH.keep c hc hu hnb).2.1 (fun q => by have := hnew b h4; omega), (hAH.keep c hc hu hnb).2.2⟩⟩
    have ha2 : a2.tmps = (a.put (some d) v1).tmps := by rw [hv2, hd2, ← hd]; exact hv1
    refine ⟨s.set d ⟨.ref Y.t, Y.v⟩, U3, β2, hk, ⟨R2.defers, R2.size, fun i => ?_, hW3⟩, hA3.any_app, fun _ _ h => h⟩
    rw [get_set]
    cases hb : Nat.beq d i with
    | true =>
      have := beqN hb
      subst this
      have hm := (R2.regs d)
      have hgd : (⟨s1.regs, s.heap ++ [Y], []⟩ : St).get d = ⟨.loc s.heap.length false [], (0 : Nat)⟩ := by
        show s1.get d = _
        simp only [s1]; rw [get_set, Nat.beq_refl]; rfl
      rw [hgd] at hm
      have hm := hm.one rfl rfl
      simp only [EncM, LocAt] at hm
      obtain ⟨b', off, hv, _, hb', _, _, ho⟩ := hm
      have hv := (List.cons.inj hv).1
      obtain rfl : b = b' := by rw [h4] at hb'; exact Option.some.inj hb'
      have ho : off = 0 := ho
      subst ho
      refine .inr ⟨by rw [hv]; rfl, ?_⟩
      show EncM w2 U3 β2 s.heap false (.ref Y.t) Y.v _
      rw [hv]
      simp only [EncM, Value.cells]
      refine ⟨b, 0, cs.toList, rfl, .inr rfl, (EncM.more hU3 _ _ _ _ h6).pure_any _ _ _ _ hpure, fun j hj => ?_⟩
      simp only [Array.length_toList] at hj
      simp only [World.cell?, h5, Nat.zero_add, Array.getElem_toList]
      exact Array.getElem?_eq_getElem hj
    | false =>
      have hne : some d ≠ some i := fun q => by cases q; rw [Nat.beq_refl] at hb; cases hb
      rw [ha2, getD_put hne]
      exact (hR.regs i).advC hA3.toAdvC (avoids_nil _)
  · cases hp

theorem ops_sound (hT : TIok S.P S.E) (hS : SpecsOK S.P S.E) (hC : CallSound S call) (hn : h.n = n) {all : List Oper} {k : St → Option α} : ∀ (m : Nat) (l : List Oper) (U : Nat → Prop) (β : Nat → Blk) (s : St) (a : Act) (w : World), l.length ≤ m → FRel S n U β s a w → opsC S.E h call all l s k = some r →
    (∀ a' w', Handed S n U β s w k r a' w' → Q .normal a' w') → wpList S.P all.toArray Q l a w := by
  intro m
  induction m with
  | zero =>
    intro l U β s a w hl hR hk hq
    obtain rfl : l = [] := List.eq_nil_of_length_eq_zero (by omega)
    exact hq _ _ ⟨s, U, β, hk, hR, Adv.refl _ _ _ _ _, fun _ _ h => h⟩
  | succ m ih =>
    intro l U β s a w hl hR hk hq
    cases l with
    | nil => exact hq _ _ ⟨s, U, β, hk, hR, Adv.refl _ _ _ _ _, fun _ _ h => h⟩
    | cons o l =>
    have next : ∀ {K : Act → World → Prop}, (∀ a w, wpList S.P all.toArray Q l a w → K a w) → ∀ a' w', Handed S n U β s w (fun s => opsC S.E h call all l s k) r a' w' → K a' w' := by
      intro K hK a' w' hh
      obtain ⟨s', U', β', h1, h2, h3, h4⟩ := hh.out
      exact hK _ _ (ih l U' β' s' a' w' (by simp at hl; omega) h2 h1 fun a'' w'' hh' => hq _ _ (hh'.after h3 h4))
    unfold opsC at hk
    split at hk
    · rename_i hg
      split at hk
      · rename_i e t d y o2 r2 hp
        refine pair_sound hT hS noCall_sound hn hR hg hp hk fun a' w' hh => ?_
        obtain ⟨s', U', β', h1, h2, h3, h4⟩ := hh.out
        exact ih r2 U' β' s' a' w' (by simp at hl; omega) h2 h1 fun a'' w'' hh' => hq _ _ (hh'.after h3 h4)
      · refine wpList_step fun K hK => ?_
        rw [if_pos (wanted_none hg)]
        exact Oper.wp_mono (next hK) (op_sound hT hS hC hn hR hk)
    · rename_i j want hg
      refine wpList_step fun K hK => ?_
      split at hk
      · rename_i g hd
        rcases guardC_some hk with ⟨b, hb, hk⟩ | ⟨hb, hk⟩
        case inr =>
          rw [wanted_undef hg (yields_none hR hd hb), if_neg (by simp)]
          exact next hK _ _ (putC_ok hn hR EncV.und (Adv.refl _ _ _ _ _) (fun _ _ h => h) hk)
        rw [wanted_some hg (yields_ok hR hd hb)]
        cases hw : (bif want then b else !b) with
        | true =>
          rw [hw] at hk
          rw [if_pos rfl]
          have e : b = want := by cases want <;> cases b <;> simp_all
          subst e
          exact Oper.wp_mono (fun a' w' hh => next hK a' w' hh.refined) (op_sound hT hS hC hn (hR.refine hb) hk)
        | false =>
          rw [hw] at hk
          rw [if_neg (by simp)]
          have e : b = !want := by cases want <;> cases b <;> simp_all
          subst e
          exact next hK _ _ (Handed.refined (putC_ok hn (hR.refine hb) EncV.und (Adv.refl _ _ _ _ _) (fun _ _ h => h) hk))
      · cases hk

/-! One operation does more than give a value. -/
theorem kill_stab {p : Nat → Bool} : ∀ (t : Ty) (v : t.den), stab t = true → killV p t v = ⟨t, v⟩ := by
  intro t
  induction t with
  | scons a r iha ihr =>
    intro v hs
    simp only [stab, Bool.and_eq_true] at hs
    simp only [killV]
    rw [iha _ hs.1, ihr _ hs.2]
  | tup r ih => intro v hs; simp only [killV]; rw [ih _ hs]
  | fn f c ih => intro v hs; simp only [killV]; rw [ih _ hs]
  | bm f c ih => intro v hs; simp only [killV]; rw [ih _ hs]
  | hl r ih => intro v hs; simp only [stab] at hs; simp only [killV, hs, cond_true]
  | list r ih => intro v hs; simp only [stab] at hs; simp only [killV, hs, cond_true]
  | xls r ih => intro v hs; simp only [stab] at hs; simp only [killV, hs, cond_true]
  | ref r ih => intro v hs; simp only [stab] at hs; simp only [killV, hs, cond_true]
  | iface t r ih => intro v hs; simp only [stab] at hs; simp only [killV, hs, cond_true]
  | slw j => intro v hs; cases hs
  | slv j => intro v hs; cases hs
  | loc j ix q => intro v hs; simp only [stab, Bool.not_eq_true'] at hs; simp only [killV, hs, Bool.and_false, cond_false]
  | _ => intro v hs; rfl
theorem pure_stab : ∀ t : Ty, t.pure = true → stab t = true := by
  intro t
  induction t <;> simp_all [Ty.pure, stab]

inductive StepN (E : Env) (h : Hint) (all : List Oper) (H : Heap) (anc : Bool) (o : Oper) (f : Nat → TV) (x : TV) : Prop where
  | anc (hc : anc = true) (hs : StepP E h all H o f x none)
  | mv (t : Nat) (hop : o.op = .move (.tmp t)) (hst : stab (f t).t = true) (hx : x = f t) (hd : ∀ d, o.dst = some d → d < h.n)
  | loc (hq : quietB E h o = true) (hp : ∀ t, t ∈ opLooks o.op → (f t).t.pure = true) (s1 : St) (hr : opC E h noCall o ⟨maskF (opLooks o.op) f, [], []⟩ some = some s1) (hh : s1.heap = []) (ha : s1.app = []) (hd : ∀ d, o.dst = some d → d < h.n ∧ s1.get d = x ∧ x.t.pure = true)

def LexN (E : Env) (h : Hint) (all : List Oper) (H : Heap) (anc : List Nat) (p : Nat) : Nat → List Oper → (Nat → TV) → List TV → Prop
  | _, [], _, xs => xs = []
  | i, o :: l, f, xs => ∃ x xs', xs = x :: xs' ∧ (i ≠ p → StepN E h all H (memN anc i) o f x) ∧ LexN E h all H anc p (i + 1) l (if i ≠ p then upd f o.dst x else f) xs'

theorem moveOf_some {op : Op} {t : Nat} (h : moveOf op = some t) : op = .move (.tmp t) := by
  unfold moveOf at h
  split at h
  · cases h; rfl
  · cases h

theorem lexN_of {E : Env} {all : List Oper} {anc : List Nat} {p : Nat} {k : St → Option α} : ∀ (l : List Oper) (i : Nat) (s : St), (∀ j o, l[j]? = some o → i + j ≠ p → quietB E h o = true) → (∀ o, o ∈ l → o.guard = none) → opsN E h all anc p i l s k = some r →
    ∃ xs s', LexN E h all s.heap anc p i l s.get xs ∧ l.length = xs.length ∧ k s' = some r ∧ s'.get = after (fun m => decide (m ≠ p)) i l xs s.get ∧ s'.heap = s.heap ∧ s'.app = s.app := by
  intro l
  induction l with
  | nil => intro i s _ _ hk; exact ⟨[], s, rfl, rfl, hk, rfl, rfl, rfl⟩
  | cons o l ih =>
    intro i s hq hg hk
    have hq' : ∀ j o', l[j]? = some o' → i + 1 + j ≠ p → quietB E h o' = true := fun j o' hj hne => hq (j + 1) o' (by simpa using hj) (by omega)
    have hg' : ∀ o', o' ∈ l → o'.guard = none := fun o' ho => hg o' (List.mem_cons_of_mem _ ho)
    unfold opsN at hk
    cases hip : Nat.beq i p with
    | true =>
      rw [hip] at hk
      have hip := beqN hip
      obtain ⟨xs, s', h1, h2, h3, h4, h5, h6⟩ := ih (i + 1) s hq' hg' hk
      refine ⟨.unk :: xs, s', ⟨.unk, xs, rfl, fun hne => absurd hip hne, by rw [if_neg (by simpa using hip)]; exact h1⟩, by simp [h2], h3, ?_, h5, h6⟩
      rw [h4]
      simp [after, hip]
    | false =>
      have hne : i ≠ p := fun e => by rw [e, Nat.beq_refl] at hip; cases hip
      rw [hip] at hk
      simp only [cond_false] at hk
      have hqo := hq 0 o rfl (by simpa using hne)
      -- from what the step leaves
      have fin : ∀ (x : TV) (s0 : St), StepN E h all s.heap (memN anc i) o s.get x → s0.get = upd s.get o.dst x → s0.heap = s.heap → s0.app = s.app → opsN E h all anc p (i + 1) l s0 k = some r →
          ∃ xs s', LexN E h all s.heap anc p i (o :: l) s.get xs ∧ (o :: l).length = xs.length ∧ k s' = some r ∧ s'.get = after (fun m => decide (m ≠ p)) i (o :: l) xs s.get ∧ s'.heap = s.heap ∧ s'.app = s.app := by
        intro x s0 hst e1 e2 e3 hk
        obtain ⟨xs, s', h1, h2, h3, h4, h5, h6⟩ := ih (i + 1) s0 hq' hg' hk
        rw [e1, e2] at h1
        refine ⟨x :: xs, s', ⟨x, xs, rfl, fun _ => hst, by rw [if_pos hne]; exact h1⟩, by simp [h2], h3, ?_, h5.trans e2, h6.trans e3⟩
        rw [h4, e1]
        simp [after, hne]
      have graft_get : ∀ (s1 s0 : St) (x : TV), (∀ d, o.dst = some d → s1.get d = x) → (graft o.dst s1 s0).get = upd s0.get o.dst x ∧ (graft o.dst s1 s0).heap = s0.heap ∧ (graft o.dst s1 s0).app = s0.app := by
        intro s1 s0 x hx
        cases hd : o.dst with
        | none => exact ⟨by funext t; simp [graft, upd], rfl, rfl⟩
        | some d => exact ⟨by simp only [graft]; rw [hx d hd, get_set_upd], rfl, rfl⟩
      cases ha : memN anc i with
      | true =>
        rw [ha] at hk
        simp only [cond_true] at hk
        obtain ⟨s1, g1, g2, g3, g4, g5⟩ := op_det (γ := St) hqo hk
        simp only at g2 g3
        have hx : ∃ x, ∀ d, o.dst = some d → s1.get d = x := by
          cases hd : o.dst with
          | none => exact ⟨.unk, fun d e => by cases e⟩
          | some d => exact ⟨s1.get d, fun d' e => by cases e; rfl⟩
        obtain ⟨x, hx⟩ := hx
        obtain ⟨e1, e2, e3⟩ := graft_get s1 s x hx
        refine fin x _ (.anc ha (.run hqo (.inl (hg o List.mem_cons_self)) s1 (g5 some) g2 g3 (fun d hd => ⟨g4 d hd, hx d hd⟩) rfl)) e1 e2 e3 g1
      | false =>
        rw [ha] at hk
        simp only [cond_false] at hk
        split at hk
        · rename_i t hm
          obtain ⟨hst, hk⟩ := bif_some hk
          cases hd : o.dst with
          | none =>
            rw [hd] at hk
            simp only [putC] at hk
            exact fin (s.get t) s (.mv t (moveOf_some hm) hst rfl (fun d e => by rw [hd] at e; cases e)) (by funext q; simp [upd, hd]) rfl rfl hk
          | some d =>
            rw [hd] at hk
            simp only [putC] at hk
            obtain ⟨hlt, hk⟩ := bif_some hk
            exact fin (s.get t) (s.set d (s.get t)) (.mv t (moveOf_some hm) hst rfl (fun d' e => by rw [hd] at e; cases e; exact bltN hlt)) (by rw [hd, get_set_upd]) rfl rfl hk
        · obtain ⟨hpu, hk⟩ := bif_some hk
          obtain ⟨s1, g1, g2, g3, g4, g5⟩ := op_det (γ := St) hqo hk
          simp only at g2 g3
          obtain ⟨hres, g1⟩ := bif_some g1
          have hx : ∃ x : TV, ∀ d, o.dst = some d → s1.get d = x ∧ x.t.pure = true := by
            cases hd : o.dst with
            | none => exact ⟨.unk, fun d e => by cases e⟩
            | some d => rw [hd] at hres; exact ⟨s1.get d, fun d' e => by cases e; exact ⟨rfl, hres⟩⟩
          obtain ⟨x, hx⟩ := hx
          obtain ⟨e1, e2, e3⟩ := graft_get s1 s x fun d hd => (hx d hd).1
          refine fin x _ (.loc hqo (fun t ht => List.all_eq_true.1 hpu t ht) s1 (g5 some) g2 g3 (fun d hd => ⟨g4 d hd, hx d hd⟩)) e1 e2 e3 g1

theorem lexN_at {E : Env} {all : List Oper} {anc : List Nat} {p : Nat} {H : Heap} : ∀ (l : List Oper) (i : Nat) (f : Nat → TV) (xs : List TV) (j : Nat) (o : Oper), LexN E h all H anc p i l f xs → l[j]? = some o → i + j ≠ p →
    ∃ x, xs[j]? = some x ∧ StepN E h all H (memN anc (i + j)) o (after (fun m => decide (m < i + j) && decide (m ≠ p)) i l xs f) x := by
  intro l
  induction l with
  | nil => intro i f xs j o _ hj; simp at hj
  | cons o l ih =>
    intro i f xs j o' hx hj hne
    obtain ⟨x, xs', rfl, h1, h2⟩ := hx
    cases j with
    | zero =>
      obtain rfl : o = o' := by simpa using hj
      refine ⟨x, rfl, ?_⟩
      rw [after_none _ _ _ _ _ fun j => by
        show (decide (i + j < i + 0) && decide (i + j ≠ p)) = false
        rw [decide_eq_false (by omega), Bool.false_and]]
      exact h1 (by simpa using hne)
    | succ j =>
      obtain ⟨x2, q1, q2⟩ := ih (i + 1) _ xs' j o' h2 (by simpa using hj) (by omega)
      refine ⟨x2, by simpa using q1, ?_⟩
      have e1 : i + 1 + j = i + (j + 1) := by omega
      rw [e1] at q2
      have e4 : after (fun m => decide (m < i + (j + 1)) && decide (m ≠ p)) i (o :: l) (x :: xs') f = after (fun m => decide (m < i + (j + 1)) && decide (m ≠ p)) (i + 1) l xs' (if i ≠ p then upd f o.dst x else f) := by
        show after _ _ _ _ (if (decide (i < i + (j + 1)) && decide (i ≠ p)) = true then upd f o.dst x else f) = _
        rw [decide_eq_true (by omega : i < i + (j + 1)), Bool.true_and]
        by_cases hip : i = p
        · simp [hip]
        · simp [hip]
      rw [e4]
      exact q2

/-- What the check says. -/
structure NOK (E : Env) (h : Hint) (all pre : List Oper) (p : Nat) : Prop where
  gnone : ∀ (i : Nat) (o : Oper), pre[i]? = some o → o.guard = none
  quiet : ∀ (i : Nat) (o : Oper), pre[i]? = some o → i ≠ p → quietB E h o = true
  below : ∀ (i : Nat) (o : Oper), pre[i]? = some o → ∀ e ∈ o.after, Region.binds .any e = true → e.on < i
  one : ∀ (i j : Nat) (oi oj : Oper) (t : Nat), pre[i]? = some oi → pre[j]? = some oj → oi.dst = some t → oj.dst = some t → i = j
  order : ∀ (i j : Nat) (oi oj : Oper) (t : Nat), pre[i]? = some oi → pre[j]? = some oj → i ≠ j → oj.dst = some t → t ∈ readsOf all oi → edgeTo oi j = true ∨ edgeTo oj i = true
  nop : ∀ (i : Nat) (o : Oper), pre[i]? = some o → edgeTo o p = false

theorem drawN_spec {E : Env} {all : List Oper} {p : Nat} : ∀ (l : List Oper) (m : Nat), drawN E h all p m l = true → ∀ i o, l[i]? = some o → o.guard = none ∧ (m + i ≠ p → quietB E h o = true) ∧ edgesBelow o (m + i) = true ∧ drawChk all (m + i) o 0 all = true ∧ edgeTo o p = false := by
  intro l
  induction l with
  | nil => intro m _ i o hi; simp at hi
  | cons o l ih =>
    intro m hc i o' hi
    simp only [drawN, Bool.and_eq_true] at hc
    cases i with
    | zero =>
      obtain rfl : o = o' := by simpa using hi
      refine ⟨Option.isNone_iff_eq_none.1 hc.1.1.1.1.1, fun hne => ?_, hc.1.1.1.2, hc.1.1.2, by simpa using hc.1.2⟩
      have := hc.1.1.1.1.2
      have hb : Nat.beq m p = false := by
        cases hb : Nat.beq m p with
        | true => exact absurd (beqN hb) (by simpa using hne)
        | false => rfl
      rw [hb] at this
      simpa using this
    | succ i =>
      have := ih (m + 1) hc.2 i o' (by simpa using hi)
      rwa [Nat.add_assoc, Nat.add_comm 1 i] at this

theorem drawN_ok {E : Env} {all pre rest : List Oper} {p : Nat} (hp0 : all = pre ++ rest) (hc : drawN E h all p 0 pre = true) : NOK E h all pre p := by
  have hs := drawN_spec pre 0 hc
  have up : ∀ {i : Nat} {o : Oper}, pre[i]? = some o → all[i]? = some o := by
    intro i o hi
    rw [hp0, List.getElem?_append_left (List.getElem?_eq_some_iff.1 hi).1]; exact hi
  simp only [Nat.zero_add] at hs
  have hp : ∀ i j oi oj, pre[i]? = some oi → pre[j]? = some oj → i ≠ j → pairOK all i oi j oj = true := by
    intro i j oi oj hi hj hne
    have := drawChk_spec all 0 (hs i oi hi).2.2.2.1 j oj (up hj) (by simpa using Ne.symm hne)
    simpa using this.1
  refine ⟨fun i o hi => (hs i o hi).1, fun i o hi => (hs i o hi).2.1, ?_, ?_, ?_, fun i o hi => (hs i o hi).2.2.2.2⟩
  · intro i o hi e he hb
    have h1 := (hs i o hi).2.2.1
    unfold edgesBelow at h1
    have h2 := List.all_eq_true.1 h1 e (Array.mem_toList_iff.2 he)
    rw [hb] at h2
    exact bltN (by simpa using h2)
  · intro i j oi oj t hi hj h1 h2
    refine Classical.byContradiction fun hne => ?_
    have h3 := hp i j oi oj hi hj hne
    unfold pairOK at h3
    rw [h2] at h3
    simp only [Bool.and_eq_true] at h3
    have h4 : isDst t oi.dst = true := isDst_iff.2 h1
    rw [h4] at h3
    simp at h3
  · intro i j oi oj t hi hj hne h1 h2
    have h3 := hp i j oi oj hi hj hne
    unfold pairOK at h3
    rw [h1] at h3
    simp only [Bool.and_eq_true] at h3
    have h4 := h3.2
    rw [memN_of h2] at h4
    simpa using h4

theorem lookTV_in (f : Nat → TV) (t : Nat) : ∀ l : List Nat, (t ∈ l ∧ lookTV (maskF l f) t = f t) ∨ (lookTV (maskF l f) t).t.isUnk = true := by
  intro l
  induction l with
  | nil => exact .inr rfl
  | cons i l ih =>
    simp only [maskF, List.map_cons, lookTV]
    cases hb : Nat.beq i t with
    | true => obtain rfl := beqN hb; exact .inl ⟨List.mem_cons_self, rfl⟩
    | false => exact ih.imp_left fun h => ⟨List.mem_cons_of_mem _ h.1, h.2⟩

/-- A step that looks at no object. -/
theorem local_step (hT : TIok S.P S.E) (hS : SpecsOK S.P S.E) (hn : h.n = n) {all : List Oper} {H H0 : Heap} {g f1 : Nat → TV} {x : TV} (hdef : a.defers = S.D) (hsz : a.tmps.size = n) (hregs : ∀ t, EncV w U β H (g t) (a.tmps.getD t undef)) (hW : WRel S U β H w)
    (hst : StepN S.E h all H0 false o f1 x) (hf : ∀ t, t ∈ opLooks o.op → g t = f1 t) {K : Act → World → Prop}
    (hK : ∀ a' w' U', a'.defers = S.D → a'.tmps.size = n → (∀ t, EncV w' U' β H (upd g o.dst x t) (a'.tmps.getD t undef)) → WRel S U' β H w' → Adv w U β H w' U' β H [] → (∀ d, o.dst = some d → stab x.t = true) → K a' w') : o.wp S.P a w K Q := by
  cases hst with
  | anc hc => cases hc
  | mv t hop hs hx hd =>
    unfold Oper.wp
    have hrun : (execOp a.eval o).run S.P w = .ok (.value (a.tmps.getD t undef)) w := by
      simp only [execOp, hop, Sem.run_pure]
      rfl
    rw [hrun]
    refine hK _ w U (by cases o.dst <;> exact hdef) (by rw [size_put]; exact hsz) (fun q => ?_) hW (Adv.refl _ _ _ _ _) (fun _ _ => by rw [hx]; exact hs)
    unfold upd
    by_cases hdq : o.dst = some q
    · rw [if_pos hdq, hdq]
      have hq : q < a.tmps.size := by rw [hsz, ← hn]; exact hd q hdq
      have : (a.put (some q) (a.tmps.getD t undef)).tmps.getD q undef = a.tmps.getD t undef := by
        simp only [Act.put, Array.getD_eq_getD_getElem?, Array.getElem?_setIfInBounds, if_true, hq, Option.getD_some]
      rw [this, hx, ← hf t (by rw [hop]; simp [opLooks, rdO])]
      exact hregs t
    · rw [if_neg hdq, getD_put hdq]; exact hregs q
  | loc hq hp s1 hr hh ha hd =>
    have hW0 : WRel S U β [] w := by
      have := hW.take (m := 0) (by simp [gcOK])
      simpa using this
    have hR : FRel S n U β ⟨maskF (opLooks o.op) f1, [], []⟩ a w := by
      refine ⟨hdef, hsz, fun t => ?_, hW0⟩
      show EncV w U β [] (lookTV (maskF (opLooks o.op) f1) t) _
      rcases lookTV_in f1 t (opLooks o.op) with ⟨h1, h2⟩ | h1
      · rw [h2]
        have h3 := hregs t
        rw [hf t h1] at h3
        exact h3.imp id fun h3 => ⟨h3.1, h3.2.pure_any _ _ _ _ (hp t h1)⟩
      · exact .inl h1
    refine Oper.wp_mono ?_ (wp_put (op_sound (Q := Q) hT hS noCall_sound hn hR hr))
    rintro a' w' ⟨hh', v, hv⟩
    obtain ⟨s', U', β', e1, e2, e3, e4⟩ := hh'.out
    obtain rfl : s1 = s' := (Option.some.inj e1).symm
    rw [hh, ha] at e3
    have hoth : ∀ c, c < w.heap.size → ¬ U c → w'.heap[c]? = w.heap[c]? ∧ ¬ U' c := fun c hc hu => by
      obtain ⟨g1, g2, _⟩ := e3.keep c hc hu (fun id hid => absurd hid (by simp))
      exact ⟨g1, g2⟩
    have hAc : AdvC w U β H w' U' β H [] := ⟨e3.use, e3.same, Nat.le_refl _, fun _ _ xs _ he => ⟨xs, he, fun _ => ⟨rfl, rfl⟩⟩, fun _ _ hn => ⟨rfl, rfl, hn⟩⟩
    have hW' : WRel S U' β H w' := by
      refine ⟨⟨fun id hid => ?_, hW.heap.inj⟩, e2.wrel.below, e2.wrel.uin, e2.wrel.uold, fun gl z hz => ?_⟩
      · refine (hW.heap.obj id hid).advC hAc rfl rfl (fun c hc => ?_) (avoidsO_nil _)
        obtain ⟨g1, _, g3⟩ := hW.blk_lt hid hc
        exact hoth c g1 g3
      · rcases hW.globs gl z hz with e | ⟨e1, e2, e3⟩
        · exact .inl e
        · exact .inr ⟨e1, e2, e3.advC hAc (avoids_nil _)⟩
    refine hK a' w' U' e2.defers e2.size (fun t => ?_) hW' ⟨hAc, fun c hc hu hnb => ⟨(hoth c hc hu).1, (hoth c hc hu).2, hnb⟩⟩ (fun d hd' => pure_stab _ (hd d hd').2.2)
    unfold upd
    by_cases hdt : o.dst = some t
    · rw [if_pos hdt]
      obtain ⟨_, h2, h3⟩ := hd t hdt
      have h4 := e2.regs t
      rw [h2] at h4
      exact h4.imp id fun h4 => ⟨h4.1, h4.2.pure_any _ _ _ _ h3⟩
    · rw [if_neg hdt, hv, getD_put hdt]
      exact (hregs t).advC hAc (avoids_nil _)

def g2 (d : Option Nat) (s1 : St) (f : Nat → TV) (t : Nat) : TV := if d = some t then s1.get t else killT (memN s1.app) (f t)
structure Inv2 (S : Base) (n : Nat) (H : Heap) (w0 : World) (U0 : Nat → Prop) (β0 : Nat → Blk) (d : Option Nat) (s1 : St) (f : Nat → TV) (a : Act) (w : World) (U : Nat → Prop) (β : Nat → Blk) : Prop where
  defers : a.defers = S.D
  size : a.tmps.size = n
  regs : ∀ t, EncV w U β s1.heap (g2 d s1 f t) (a.tmps.getD t undef)
  wrel : WRel S U β s1.heap w
  adv : Adv w0 U0 β0 H w U β s1.heap s1.app

theorem drawN_any (hT : TIok S.P S.E) (hS : SpecsOK S.P S.E) (hC : CallSound S call) (hn : h.n = n) {all pre rest : List Oper} (hp0 : all = pre ++ rest) {H : Heap} {w0 : World} {U0 : Nat → Prop} {β0 : Nat → Blk} {f0 : Nat → TV} {xs : List TV} {anc : List Nat} {p : Nat} {op : Oper} (hpp : pre[p]? = some op) (hN : NOK S.E h all pre p)
    (hbel : ∀ i o, all[i]? = some o → ∀ e ∈ o.after, Region.binds .any e = true → e.on < i)
    (hlast : ∀ i, pre.length ≤ i → ChainP all i)
    (hanc : ∀ listed : Array Bool, (∀ j o, all[j]? = some o → listed.getD j false = true → ∀ e ∈ o.after, Region.binds .any e = true → listed.getD e.on false = true) → listed.getD p false = true → ∀ j ∈ anc, listed.getD j false = true)
    (hL : LexN S.E h all H anc p 0 pre f0 xs) (hlen : pre.length = xs.length) {kk : St → Option α}
    (hk : opC S.E h call op ⟨maskF (opLooks op.op) (after (fun m => decide (m ≠ p)) 0 pre xs f0), H, []⟩ kk = some r)
    (hq : ∀ s1 a w U β, kk s1 = some r → Inv2 S n H w0 U0 β0 op.dst s1 (after (fun m => decide (m ≠ p)) 0 pre xs f0) a w U β → wpList S.P all.toArray Q rest a w) :
    ∀ (fuel : Nat) (listed : Array Bool) (a : Act) (w : World), listed.size = all.length → unl listed all.length = fuel →
      (∀ j, pre.length ≤ j → listed.getD j false = false) →
      (∀ j o, all[j]? = some o → listed.getD j false = true → ∀ e ∈ o.after, Region.binds .any e = true → listed.getD e.on false = true) →
      ((listed.getD p false = false ∧ ∃ U β, Inv S n H w0 U0 β0 (after (fun j => listed.getD j false && decide (j ≠ p)) 0 pre xs f0) a w U β) ∨
       (listed.getD p false = true ∧ ∃ s1 U β, kk s1 = some r ∧ Inv2 S n H w0 U0 β0 op.dst s1 (after (fun j => listed.getD j false && decide (j ≠ p)) 0 pre xs f0) a w U β)) →
      wpAny S.P .any all.toArray Q fuel listed a w := by
  have hlen2 : all.length = pre.length + rest.length := by rw [hp0]; simp
  have hpl : p < pre.length := (List.getElem?_eq_some_iff.1 hpp).1
  have up : ∀ {i : Nat} {o : Oper}, i < pre.length → all[i]? = some o → pre[i]? = some o := by
    intro i o hlt hi
    rw [hp0, List.getElem?_append_left hlt] at hi; exact hi
  have dn : ∀ {i : Nat} {o : Oper}, pre[i]? = some o → all[i]? = some o := by
    intro i o hi
    rw [hp0, List.getElem?_append_left (List.getElem?_eq_some_iff.1 hi).1]; exact hi
  have eall : ∀ listed : Array Bool, (∀ j, j < pre.length → listed.getD j false = true) → after (fun j => listed.getD j false && decide (j ≠ p)) 0 pre xs f0 = after (fun m => decide (m ≠ p)) 0 pre xs f0 := by
    intro listed hall
    funext t
    refine after_agree pre 0 xs f0 f0 rfl fun j o hj _ => ?_
    have hlt := (List.getElem?_eq_some_iff.1 hj).1
    simp only [Nat.zero_add]
    rw [hall j hlt, Bool.true_and]
  -- all are listed
  have finish : ∀ (listed : Array Bool) (a : Act) (w : World), (∀ j, j < pre.length → listed.getD j false = true) → ((listed.getD p false = false ∧ ∃ U β, Inv S n H w0 U0 β0 (after (fun j => listed.getD j false && decide (j ≠ p)) 0 pre xs f0) a w U β) ∨
       (listed.getD p false = true ∧ ∃ s1 U β, kk s1 = some r ∧ Inv2 S n H w0 U0 β0 op.dst s1 (after (fun j => listed.getD j false && decide (j ≠ p)) 0 pre xs f0) a w U β)) → wpList S.P all.toArray Q rest a w := by
    intro listed a w hall hJ
    rcases hJ with ⟨h1, _⟩ | ⟨_, s1, U, β, h2, h3⟩
    · rw [hall p hpl] at h1; cases h1
    · rw [eall listed hall] at h3
      exact hq s1 a w U β h2 h3
  intro fuel
  induction fuel with
  | zero =>
    intro listed a w hsz hun hnl hcl hJ
    have hall := unl_zero _ hun
    have hrest : rest = [] := by
      cases rest with
      | nil => rfl
      | cons o r =>
        have h1 := hnl pre.length (Nat.le_refl _)
        rw [hall pre.length (by rw [hlen2]; simp)] at h1; cases h1
    have h1 := finish listed a w (fun j hj => hall j (by omega)) hJ
    rw [hrest] at h1
    exact ⟨ready_none hsz hun, h1⟩
  | succ fuel ih =>
    intro listed a w hsz hun hnl hcl hJ
    refine ⟨fun hr => ?_, fun i hi => ?_⟩
    · obtain ⟨j, h1, h2, h3⟩ := unl_first (listed := listed) all.length (by omega)
      have hj : j ∈ Region.ready .any all.toArray listed := by
        rw [mem_ready]
        have hj : all[j]? = some all[j] := List.getElem?_eq_getElem h1
        refine ⟨?_, all[j], by simp [h1], fun e he hb => h3 _ (hbel j _ hj e he hb)⟩
        rw [Array.getD_eq_getD_getElem?, Array.getElem?_eq_getElem (by omega)] at h2 ⊢
        simpa using h2
      rw [hr] at hj
      cases hj
    · obtain ⟨h1, o, ho, hready⟩ := mem_ready.1 hi
      have hia : all[i]? = some o := by simpa using ho
      have hlta := (List.getElem?_eq_some_iff.1 hia).1
      have hif : listed.getD i false = false := by
        rw [Array.getD_eq_getD_getElem?, Array.getElem?_eq_getElem (by omega)] at h1 ⊢
        simpa using h1
      have hready' : ∀ e ∈ o.after, Region.binds .any e = true → listed.getD e.on false = true := by
        intro e he hb
        exact hready e he hb
      by_cases hlt : i < pre.length
      · have hi' := up hlt hia
        have hg := hN.gnone i o hi'
        have hL' : ∀ j, (listed.setIfInBounds i true).getD j false = if i = j then true else listed.getD j false := fun j => getD_set (by omega)
        -- how it goes on
        have goOn : ∀ (a' : Act) (w' : World), ((((listed.setIfInBounds i true).getD p false = false ∧ ∃ U β, Inv S n H w0 U0 β0 (after (fun j => (listed.setIfInBounds i true).getD j false && decide (j ≠ p)) 0 pre xs f0) a' w' U β)) ∨
              ((listed.setIfInBounds i true).getD p false = true ∧ ∃ s1 U β, kk s1 = some r ∧ Inv2 S n H w0 U0 β0 op.dst s1 (after (fun j => (listed.setIfInBounds i true).getD j false && decide (j ≠ p)) 0 pre xs f0) a' w' U β)) →
            wpAny S.P .any all.toArray Q fuel (listed.setIfInBounds i true) a' w' := by
          intro a' w' hJ'
          refine ih (listed.setIfInBounds i true) a' w' (by simpa using hsz) ?_ ?_ ?_ hJ'
          · have := unl_set (i := i) (by omega) hif all.length
            rw [if_pos hlta] at this
            omega
          · intro j hj
            rw [getD_set_ne false (by omega)]
            exact hnl j hj
          · intro j oj hj hl e he hb
            by_cases hji : i = j
            · subst hji
              rw [hia] at hj; cases hj
              exact getD_set_true (hready e he hb)
            · rw [getD_set_ne false hji] at hl
              exact getD_set_true (hcl j oj hj hl e he hb)
        have wpOp_of : o.wp S.P a w (wpAny S.P .any all.toArray Q fuel (listed.setIfInBounds i true)) Q → wpOp S.P all.toArray Q i (wpAny S.P .any all.toArray Q fuel (listed.setIfInBounds i true)) a w := by
          intro hh
          unfold wpOp
          simp only [ho]
          rw [if_pos (wanted_none hg)]
          exact .inl hh
        refine wpOp_of ?_
        -- an operation on which this one leans, and one that leans on it
        have lean : ∀ {j : Nat} {oj : Oper}, pre[j]? = some oj → edgeTo o j = true ∨ edgeTo oj i = true → listed.getD j false = decide (j < i) := by
          intro j oj hj hee
          rcases hee with he | he
          · obtain ⟨e, h2, h3, h4⟩ := edgeTo_spec he
            have h5 := hN.below i o hi' e h2 h3
            have h6 := hready e h2 h3
            rw [h4] at h5 h6
            rw [h6]; simpa using h5
          · obtain ⟨e, h2, h3, h4⟩ := edgeTo_spec he
            have h5 := hN.below j oj hj e h2 h3
            have h6 : listed.getD j false = false := by
              cases hl : listed.getD j false with
              | false => rfl
              | true =>
                have := hcl j oj (dn hj) hl e h2 h3
                rw [h4, hif] at this; cases this
            rw [h6]
            have : ¬ j < i := by omega
            simp [this]
        by_cases hip : i = p
        · -- the one that does more
          subst hip
          obtain rfl : o = op := by rw [hpp] at hi'; exact (Option.some.inj hi').symm
          rcases hJ with ⟨_, U, β, hI⟩ | ⟨h1, _⟩
          · have hagree : ∀ t, t ∈ opLooks o.op → after (fun j => listed.getD j false && decide (j ≠ i)) 0 pre xs f0 t = after (fun m => decide (m ≠ i)) 0 pre xs f0 t := fun t ht => by
              refine after_agree pre 0 xs f0 f0 rfl fun j oj hj hd => ?_
              simp only [Nat.zero_add]
              by_cases hji : j = i
              · subst hji; simp
              · have hrd : t ∈ readsOf all o := by unfold readsOf; rw [hg]; exact ht
                rcases hN.order i j o oj t hi' hj (Ne.symm hji) hd hrd with he | he
                · obtain ⟨e, h2, h3, h4⟩ := edgeTo_spec he
                  have h6 := hready e h2 h3
                  rw [h4] at h6
                  rw [h6, Bool.true_and]
                · rw [hN.nop j oj hj] at he; cases he
            have hmask : maskF (opLooks o.op) (after (fun j => listed.getD j false && decide (j ≠ i)) 0 pre xs f0) = maskF (opLooks o.op) (after (fun m => decide (m ≠ i)) 0 pre xs f0) := List.map_congr_left fun t ht => by rw [hagree t ht]
            rw [← hmask] at hk
            refine Oper.wp_mono ?_ (wp_put (op_sound (Q := Q) hT hS hC hn (hI.mask (opLooks o.op)) hk))
            rintro a' w' ⟨hh', v, hv⟩
            obtain ⟨s1, U', β', e1, e2, e3, e4⟩ := hh'.out
            refine goOn a' w' (.inr ⟨by rw [hL', if_pos rfl], s1, U', β', e1, ?_⟩)
            have hsame : after (fun j => (listed.setIfInBounds i true).getD j false && decide (j ≠ i)) 0 pre xs f0 = after (fun j => listed.getD j false && decide (j ≠ i)) 0 pre xs f0 := by
              funext t
              refine after_agree pre 0 xs f0 f0 rfl fun j oj hj hdj => ?_
              simp only [Nat.zero_add]
              by_cases hji : j = i
              · subst hji; simp
              · rw [hL', if_neg (Ne.symm hji)]
            rw [hsame]
            refine ⟨e2.defers, e2.size, fun t => ?_, e2.wrel, hI.adv.trans e3 fun _ _ h => absurd h (by simp)⟩
            unfold g2
            by_cases hdt : o.dst = some t
            · rw [if_pos hdt]; exact e2.regs t
            · rw [if_neg hdt, hv, getD_put hdt]
              exact (hI.regs t).kill (fun _ h => memN_of h) e3
          · rw [hif] at h1; cases h1
        · obtain ⟨x, hx, hst⟩ := lexN_at pre 0 f0 xs i o hL hi' (by simpa using hip)
          simp only [Nat.zero_add] at hst
          have reads : ∀ t, t ∈ readsOf all o → after (fun j => listed.getD j false && decide (j ≠ p)) 0 pre xs f0 t = after (fun m => decide (m < i) && decide (m ≠ p)) 0 pre xs f0 t := fun t ht => by
            refine after_agree pre 0 xs f0 f0 rfl fun j oj hj hd => ?_
            simp only [Nat.zero_add]
            by_cases hji : j = i
            · subst hji; rw [hif]; simp
            · rw [lean hj (hN.order i j o oj t hi' hj (Ne.symm hji) hd ht)]
          have looks : ∀ t, t ∈ opLooks o.op → t ∈ readsOf all o := by
            intro t ht
            unfold readsOf
            rw [hg]; exact ht
          have enext : upd (after (fun j => listed.getD j false && decide (j ≠ p)) 0 pre xs f0) o.dst x = after (fun j => (listed.setIfInBounds i true).getD j false && decide (j ≠ p)) 0 pre xs f0 := by
            funext t
            unfold upd
            split
            · rename_i hd
              refine (after_hit pre 0 xs f0 i o x hi' hx hd ?_ fun j' o' hj' hne hd' => hne (hN.one _ _ _ _ _ hj' hi' hd' hd)).symm
              simp only [Nat.zero_add]
              rw [hL', if_pos rfl]
              simp [hip]
            · rename_i hd
              refine after_agree pre 0 xs f0 f0 rfl fun j oj hj hdj => ?_
              simp only [Nat.zero_add]
              rw [hL', if_neg]
              rintro rfl
              rw [hi'] at hj; cases hj
              exact hd hdj
          have hp' : (listed.setIfInBounds i true).getD p false = listed.getD p false := by rw [hL', if_neg hip]
          rcases hJ with ⟨h1, U, β, hI⟩ | ⟨h1, s1, U, β, hks, hI⟩
          · have go1 : ∀ a' w' U' β', Inv S n H w0 U0 β0 (upd (after (fun j => listed.getD j false && decide (j ≠ p)) 0 pre xs f0) o.dst x) a' w' U' β' → wpAny S.P .any all.toArray Q fuel (listed.setIfInBounds i true) a' w' := by
              intro a' w' U' β' hI'
              rw [enext] at hI'
              exact goOn a' w' (.inl ⟨by rw [hp']; exact h1, U', β', hI'⟩)
            have viaLocal : StepN S.E h all H false o (after (fun m => decide (m < i) && decide (m ≠ p)) 0 pre xs f0) x → o.wp S.P a w (wpAny S.P .any all.toArray Q fuel (listed.setIfInBounds i true)) Q := by
              intro hst
              refine local_step hT hS hn hI.defers hI.size hI.regs hI.wrel hst (fun t ht => reads t (looks t ht)) fun a' w' U' q1 q2 q3 q4 q5 _ => ?_
              exact go1 a' w' U' β ⟨q1, q2, q3, q4, hI.adv.trans q5 fun _ _ h => h⟩
            cases hst with
            | anc hc hs =>
              have := Inv.step (Q := Q) (K := wpAny S.P .any all.toArray Q fuel (listed.setIfInBounds i true)) hT hS hn hI hs reads (fun a' w' U' β' hI' _ _ _ => go1 a' w' U' β' hI')
              rwa [if_pos (wanted_none hg)] at this
            | mv t hop hs hx hd => exact viaLocal (.mv t hop hs hx hd)
            | loc hq hp s1 hr hh ha hd => exact viaLocal (.loc hq hp s1 hr hh ha hd)
          · have hstab : ∀ t, t ∈ opLooks o.op → stab (after (fun m => decide (m < i) && decide (m ≠ p)) 0 pre xs f0 t).t = true → g2 op.dst s1 (after (fun j => listed.getD j false && decide (j ≠ p)) 0 pre xs f0) t = after (fun m => decide (m < i) && decide (m ≠ p)) 0 pre xs f0 t := by
              intro t ht hs
              have hne : op.dst ≠ some t := fun hd => by
                rcases hN.order i p o op t hi' hpp hip hd (looks t ht) with he | he
                · rw [hN.nop i o hi'] at he; cases he
                · obtain ⟨e, h2, h3, h4⟩ := edgeTo_spec he
                  have := hcl p op (dn hpp) h1 e h2 h3
                  rw [h4, hif] at this; cases this
              unfold g2
              rw [if_neg hne, reads t (looks t ht)]
              exact kill_stab _ _ hs
            have viaLocal : StepN S.E h all H false o (after (fun m => decide (m < i) && decide (m ≠ p)) 0 pre xs f0) x → (∀ t, t ∈ opLooks o.op → stab (after (fun m => decide (m < i) && decide (m ≠ p)) 0 pre xs f0 t).t = true) → o.wp S.P a w (wpAny S.P .any all.toArray Q fuel (listed.setIfInBounds i true)) Q := by
              intro hst hall
              refine local_step hT hS hn hI.defers hI.size hI.regs hI.wrel hst (fun t ht => hstab t ht (hall t ht)) fun a' w' U' q1 q2 q3 q4 q5 q6 => ?_
              refine goOn a' w' (.inr ⟨by rw [hp']; exact h1, s1, U', β, hks, q1, q2, fun t => ?_, q4, hI.adv.trans q5.any_app fun _ _ h => h⟩)
              have := q3 t
              rw [← enext]
              have e : g2 op.dst s1 (upd (after (fun j => listed.getD j false && decide (j ≠ p)) 0 pre xs f0) o.dst x) t = upd (g2 op.dst s1 (after (fun j => listed.getD j false && decide (j ≠ p)) 0 pre xs f0)) o.dst x t := by
                unfold g2 upd
                by_cases hdt : o.dst = some t
                · have hne : op.dst ≠ some t := fun hd => hip (hN.one i p o op t hi' hpp hdt hd)
                  simp only [hdt, if_true, if_neg hne]
                  exact kill_stab _ _ (q6 t hdt)
                · simp only [if_neg hdt]
              rw [e]; exact this
            cases hst with
            | anc hc hs =>
              have := hanc listed hcl h1 i (memN_in' hc)
              rw [hif] at this; cases this
            | mv t hop hs hx hd => exact viaLocal (.mv t hop hs hx hd) (fun q hq => by rw [hop] at hq; simp [opLooks, rdO] at hq; subst hq; exact hs)
            | loc hq hp s1 hr hh ha hd => exact viaLocal (.loc hq hp s1 hr hh ha hd) (fun q hq => pure_stab _ (hp q hq))
      · -- the chain
        have hall : ∀ j, j < i → listed.getD j false = true := hlast i (by omega) listed hcl o hia hready'
        have hi0 : i = pre.length := by
          refine Classical.byContradiction fun hne => ?_
          have h1 := hnl pre.length (Nat.le_refl _)
          rw [hall pre.length (by omega)] at h1; cases h1
        subst hi0
        have hw := finish listed a w hall hJ
        have hd : all.drop pre.length = rest := by rw [hp0]; simp
        exact wpAny_chain_at hbel hlast rest pre.length (Nat.le_refl _) (fuel + 1) listed a w hd hsz hall hnl hun hw pre.length hi

theorem get_join {d : Option Nat} {s1 s2 : St} : (joinN d s1 s2).get = g2 d s1 s2.get := by
  funext t
  unfold joinN graft g2
  cases d with
  | none =>
    rw [if_neg (by simp)]
    show lookTV (killR (memN s1.app) s2.regs) t = _
    rw [look_killR]
    rfl
  | some d =>
    rw [get_set]
    cases hb : Nat.beq d t with
    | true => have := beqN hb; subst this; simp
    | false =>
      have : ¬ (some d = some t) := fun e => by cases e; rw [Nat.beq_refl] at hb; cases hb
      rw [if_neg this]
      show lookTV (killR (memN s1.app) s2.regs) t = _
      rw [look_killR]
      rfl

theorem drawN_sound (hT : TIok S.P S.E) (hS : SpecsOK S.P S.E) (hm : S.P.follows .mixedOrders = true) (hC : CallSound S call) (hn : h.n = n) {ops : Array Oper} {id : Nat} {k : St → Option α} (hR : FRel S n U β s a w) {pre rest : List Oper} {p : Nat} (hp0 : ops.toList = pre ++ rest)
    (hbel0 : belowAll ops.toList 0 ops.toList = true → ∀ i o, ops.toList[i]? = some o → ∀ e ∈ o.after, Region.binds .any e = true → e.on < i)
    (hlast : ∀ i, pre.length ≤ i → ChainP ops.toList i)
    (hk : regionN S.E h call ops.toList pre rest p s k = some r)
    (hq : ∀ a' w', Handed S n U β s w k r a' w' → Q .normal a' w') : (Code.region id ops true).wp S.P Q a w := by
  unfold regionN at hk
  split at hk
  · rename_i op hop
    obtain ⟨h1, hk⟩ := bif_some hk
    obtain ⟨h1, hdn⟩ := and2 h1
    obtain ⟨hbl, hpl⟩ := and2 h1
    have hpl := bltN hpl
    have hbel := hbel0 hbl
    have hN := drawN_ok hp0 hdn
    have hpp : pre[p]? = some op := by rw [hp0, List.getElem?_append_left hpl] at hop; exact hop
    obtain ⟨xs, s2, hL, hlen, hk, hg2, hh2, ha2⟩ := lexN_of pre 0 s (fun j o hj hne => hN.quiet j o hj (by simpa using hne)) (fun o ho => by
      obtain ⟨j, hj⟩ := List.mem_iff_getElem?.1 ho
      exact hN.gnone j o hj) hk
    rw [hg2, hh2] at hk
    refine wp_region_any hm ?_
    have hb : Below w.heap.size w { w with drawn := w.drawn + 1 } := (Below.refl _ _).drew
    have hG := hR.grow hb (U' := U) (fun b => ⟨.inl, fun h => h.elim (fun h => h) fun h => h.2.2⟩)
    have hrep : ∀ j, (Array.replicate ops.size false).getD j false = false := fun j => by
      rw [Array.getD_eq_getD_getElem?]
      by_cases hj : j < ops.size
      · rw [Array.getElem?_eq_getElem (by simpa using hj)]; simp
      · rw [Array.getElem?_eq_none (by simpa using hj)]; rfl
    have := drawN_any (Q := Q) (w0 := w) (U0 := U) (β0 := β) hT hS hC hn hp0 hpp hN hbel hlast (fun listed hcl hp j hj => ?_) hL hlen hk (fun s1 a1 w1 U1 β1 hks hI => ?_) ops.size (Array.replicate ops.size false) a { w with drawn := w.drawn + 1 } (by simp) (by simpa using unl_false ops.size)
      (fun j _ => hrep j) (fun j o hj hl => by rw [hrep] at hl; cases hl) (.inl ⟨hrep p, U, β, ?_⟩)
    · simpa using this
    · refine anc_listed (L := fun j => listed.getD j false = true) (fun i' hi' m hm => ?_) _ _ (fun m hm => ?_) j hj
      · unfold edgesAt at hm
        split at hm
        · rename_i oi hoi
          obtain ⟨e, g1, g2, rfl⟩ := bindsL_spec.1 hm
          exact hcl i' oi hoi hi' e g1 g2
        · cases hm
      · unfold edgesAt at hm
        rw [hop] at hm
        obtain ⟨e, g1, g2, rfl⟩ := bindsL_spec.1 hm
        exact hcl p op hop hp e g1 g2
    · have hF : FRel S n U1 β1 (joinN op.dst s1 s2) a1 w1 := by
        refine ⟨hI.defers, hI.size, fun t => ?_, ?_⟩
        · rw [get_join, hg2]
          have := hI.regs t
          have hjh : (joinN op.dst s1 s2).heap = s1.heap := by unfold joinN graft; cases op.dst <;> rfl
          rw [hjh]; exact this
        · have hjh : (joinN op.dst s1 s2).heap = s1.heap := by unfold joinN graft; cases op.dst <;> rfl
          rw [hjh]; exact hI.wrel
      have hjh : (joinN op.dst s1 s2).heap = s1.heap := by unfold joinN graft; cases op.dst <;> rfl
      have hja : (joinN op.dst s1 s2).app = s1.app ++ s2.app := by unfold joinN graft; cases op.dst <;> rfl
      have hA : Adv w U β s.heap w1 U1 β1 (joinN op.dst s1 s2).heap (joinN op.dst s1 s2).app := by
        rw [hjh, hja]
        refine ⟨⟨hI.adv.use, hI.adv.same, hI.adv.len, fun i e' xs' hi he' => ?_, hI.adv.box⟩, hI.adv.keep⟩
        obtain ⟨ys', g1, g2⟩ := hI.adv.row i e' xs' hi he'
        exact ⟨ys', g1, fun hn => g2 fun hm => hn (List.mem_append_left _ hm)⟩
      have := ops_sound (Q := Q) hT hS hC hn (all := ops.toList) rest.length rest U1 β1 (joinN op.dst s1 s2) a1 w1 (Nat.le_refl _) hF hks (fun a3 w3 hh => hq a3 w3 (hh.after hA fun i _ hm => by rw [hja, ha2]; exact List.mem_append_right _ hm))
      simpa using this
    · have e : after (fun j => (Array.replicate ops.size false).getD j false && decide (j ≠ p)) 0 pre xs s.get = s.get := after_none _ _ _ _ _ fun j => by rw [hrep, Bool.false_and]
      rw [e]
      exact ⟨hG.defers, hG.size, hG.regs, hG.wrel, Adv.grow hb.block hR.wrel.uin (fun _ h => h) (fun _ _ h => h)⟩
  · cases hk
end
end Go.Dp
/- Code. -/
set_option autoImplicit false
set_option linter.unusedVariables false
set_option linter.unusedSimpArgs false
namespace Go.Dp
open Go.RowKit

section
variable {S : Base} {n : Nat} {U : Nat → Prop} {β : Nat → Blk} {s : St} {a : Act} {w w' : World} {α : Type} {r : α} {h : Hint} {Q : Exit → Act → World → Prop} {o : Oper} {call : CallT α}

/-- What code leaves. -/
def IPost (S : Base) (n : Nat) (U : Nat → Prop) (β : Nat → Blk) (s : St) (w : World) {α : Type} (k : XEx → St → Option α) (r : α) : Exit → Act → World → Prop
  | .normal, a', w' => Handed S n U β s w (k .normal) r a' w'
  | .exit id, a', w' => Handed S n U β s w (k (.exit id)) r a' w'
  | .ret, a', w' => Handed S n U β s w (k .ret) r a' w'
  | _, _, _ => False

theorem Handed.imp {k k' : St → Option α} {a' : Act} {w' : World} (hk : ∀ s', k s' = some r → k' s' = some r) (h : Handed S n U β s w k r a' w') : Handed S n U β s w k' r a' w' := by
  obtain ⟨s', U', β', h1, h2⟩ := h.out
  exact ⟨s', U', β', hk s' h1, h2⟩

theorem Handed.now {k : St → Option α} (hR : FRel S n U β s a w) (hk : k s = some r) : Handed S n U β s w k r a w :=
  ⟨s, U, β, hk, hR, Adv.refl _ _ _ _ _, fun _ _ h => h⟩

/-- What is handed on, packed and taken up. -/
theorem Handed.taken {outs : Outs} {e : XEx} {k : XEx → St → Option α} {y : outDen outs} {a' : Act} {w' : World} (hok : outs.ok s.heap.length = true) (hy : unpackO k outs y = some r) (h : Handed S n U β s w (packO outs e) y a' w') :
    Handed S n U β s w (k e) r a' w' := by
  obtain ⟨s', U', β', h1, h2, h3, h4⟩ := h.out
  obtain ⟨g, hg, z, hz, hk⟩ := packO_ok outs y h1 hy
  obtain ⟨g1, g2⟩ := and2 (List.all_eq_true.1 hok _ hg)
  obtain ⟨q1, q2, q3⟩ := pack_ok hz g1 h2 h3 h4 (Nat.le_of_ble_eq_true g2)
  exact ⟨_, U', β', hk, q1, q2, q3⟩

theorem IPost.after {s1 : St} {U1 : Nat → Prop} {β1 : Nat → Blk} {w1 : World} {k : XEx → St → Option α} (hA : Adv w U β s.heap w1 U1 β1 s1.heap s1.app) (hm : ∀ id, id < s.heap.length → id ∈ s.app → id ∈ s1.app) :
    ∀ e a' w', IPost S n U1 β1 s1 w1 k r e a' w' → IPost S n U β s w k r e a' w' := by
  intro e a' w' h
  cases e <;> first | exact Handed.after hA hm h | exact h

theorem IPost.taken {outs : Outs} {k : XEx → St → Option α} {y : outDen outs} (hok : outs.ok s.heap.length = true) (hy : unpackO k outs y = some r) : ∀ e a' w', IPost S n U β s w (packO outs) y e a' w' → IPost S n U β s w k r e a' w' := by
  intro e a' w' h
  cases e <;> first | exact Handed.taken hok hy h | exact h

theorem IPost.block {id : Nat} {k : XEx → St → Option α} : ∀ e a' w', IPost S n U β s w (kBlock id k) r e a' w' → Exit.inBlock id (IPost S n U β s w k r) e a' w' := by
  intro e a' w' hh
  cases e with
  | normal => exact hh
  | exit j =>
    simp only [Exit.inBlock]
    split
    · rename_i e
      subst e
      refine Handed.imp (fun s' hs => ?_) hh
      simpa [kBlock, Nat.beq_refl] using hs
    · rename_i hne
      refine Handed.imp (fun s' hs => ?_) hh
      have : Nat.beq j id = false := by
        cases hb : Nat.beq j id with
        | true => exact absurd (beqN hb) hne
        | false => rfl
      simpa [kBlock, this] using hs
  | ret => exact hh
  | _ => exact hh

theorem region_sound (hT : TIok S.P S.E) (hS : SpecsOK S.P S.E) (hm : S.P.follows .mixedOrders = true) (hC : CallSound S call) (hn : h.n = n) {id : Nat} {ops : Array Oper} {dr : Bool} {k : XEx → St → Option α} (hR : FRel S n U β s a w)
    (hk : regionC S.E h call ops.toList dr s k = some r) : (Code.region id ops dr).wp S.P (IPost S n U β s w k r) a w := by
  unfold regionC at hk
  cases dr with
  | false => exact wp_region_list (by have := ops_sound (Q := IPost S n U β s w k r) hT hS hC hn (all := ops.toList) _ ops.toList U β s a w (Nat.le_refl _) hR hk (fun a' w' hh => hh); simpa using this)
  | true =>
    simp only [cond_true] at hk
    have hp0 : ops.toList = ops.toList.take (chainCut ops.toList ops.toList.length) ++ ops.toList.drop (chainCut ops.toList ops.toList.length) := (List.take_append_drop _ _).symm
    have hbel0 : belowAll ops.toList 0 ops.toList = true → ∀ i o, ops.toList[i]? = some o → ∀ e ∈ o.after, Region.binds .any e = true → e.on < i := by
      intro hbl
      have key : ∀ (l : List Oper) (m : Nat), belowAll ops.toList m l = true → ∀ i o, l[i]? = some o → ∀ e ∈ o.after, Region.binds .any e = true → e.on < m + i := by
        intro l
        induction l with
        | nil => intro m _ i o hi; simp at hi
        | cons o l ih =>
          intro m hb i o' hi e he hbi
          simp only [belowAll] at hb
          obtain ⟨g1, g2⟩ := and2 hb
          cases i with
          | zero =>
            obtain rfl : o = o' := by simpa using hi
            unfold edgesBelow at g1
            have h3 := List.all_eq_true.1 g1 e (Array.mem_toList_iff.2 he)
            rw [hbi] at h3
            exact bltN (show Nat.blt e.on m = true by simpa using h3)
          | succ i =>
            have := ih (m + 1) g2 i o' (by simpa using hi) e he hbi
            omega
      intro i o hi e he hb
      have := key ops.toList 0 hbl i o hi e he hb
      omega
    have hcut : ∀ (m i : Nat), chainCut ops.toList m ≤ i → i < m → chainAt ops.toList i = true := by
      intro m
      induction m with
      | zero => intro i _ h; omega
      | succ m ih =>
        intro i h1 h2
        simp only [chainCut] at h1
        cases hc : chainAt ops.toList m with
        | true =>
          rw [hc] at h1
          by_cases e : i = m
          · subst e; exact hc
          · exact ih i h1 (by omega)
        | false => rw [hc] at h1; simp at h1; omega
    have hcle : ∀ m, chainCut ops.toList m ≤ m := by
      intro m
      induction m with
      | zero => exact Nat.le_refl _
      | succ m ih =>
        simp only [chainCut]
        cases chainAt ops.toList m with
        | true => simp only [cond_true]; omega
        | false => exact Nat.le_refl _
    have hlen : (ops.toList.take (chainCut ops.toList ops.toList.length)).length = chainCut ops.toList ops.toList.length := by
      rw [List.length_take]; have := hcle ops.toList.length; omega
    have hlast : ∀ i, (ops.toList.take (chainCut ops.toList ops.toList.length)).length ≤ i → ChainP ops.toList i := by
      intro i hi listed hcl o ho hr j hj
      have hlt := (List.getElem?_eq_some_iff.1 ho).1
      have hch := hcut ops.toList.length i (by rw [hlen] at hi; exact hi) hlt
      unfold chainAt at hch
      refine anc_listed (L := fun j => listed.getD j false = true) (fun i' hi' m hm => ?_) _ _ (fun m hm => ?_) j (allIn_spec _ hch j hj)
      · unfold edgesAt at hm
        split at hm
        · rename_i oi hoi
          obtain ⟨e, g1, g2, rfl⟩ := bindsL_spec.1 hm
          exact hcl i' oi hoi hi' e g1 g2
        · cases hm
      · unfold edgesAt at hm
        rw [ho] at hm
        obtain ⟨e, g1, g2, rfl⟩ := bindsL_spec.1 hm
        exact hr e g1 g2
    cases hd : (belowAll ops.toList 0 ops.toList && drawAll S.E h ops.toList 0 (ops.toList.take (chainCut ops.toList ops.toList.length))) with
    | true =>
      rw [hd] at hk
      obtain ⟨hbl, hda⟩ := and2 hd
      have hD := drawAll_ok hp0 hda
      refine draw_sound hT hS hm hn hR hp0 hD (hbel0 hbl) hlast hk (fun a' w' hh => ?_)
      obtain ⟨s', U', β', e1, e2, e3, e4⟩ := hh.out
      have := ops_sound (Q := IPost S n U β s w k r) hT hS hC hn (all := ops.toList) _ (ops.toList.drop (chainCut ops.toList ops.toList.length)) U' β' s' a' w' (Nat.le_refl _) e2 e1 (fun a2 w2 hh2 => hh2.after e3 e4)
      simpa using this
    | false =>
      rw [hd] at hk
      exact drawN_sound hT hS hm hC hn hR hp0 hbel0 hlast hk (fun a' w' hh => hh)

theorem interp_sound {call : AnyCall} (hT : TIok S.P S.E) (hS : SpecsOK S.P S.E) (hm : S.P.follows .mixedOrders = true) (hC : ∀ α, CallSound S (call α)) (hn : h.n = n) : ∀ (c : Code) (α : Type) (U : Nat → Prop) (β : Nat → Blk) (s : St) (a : Act) (w : World) (k : XEx → St → Option α) (r : α),
    FRel S n U β s a w → interp S.E h call c α s k = some r → c.wp S.P (IPost S n U β s w k r) a w := by
  intro c
  induction c with
  | skip => intro α U β s a w k r hR hk; exact wp_skip (Handed.now hR hk)
  | label l => intro α U β s a w k r hR hk; exact wp_label (Handed.now hR hk)
  | ret => intro α U β s a w k r hR hk; exact wp_ret (Handed.now hR hk)
  | exit id => intro α U β s a w k r hR hk; exact wp_exit (Handed.now hR hk)
  | region id ops dr =>
    intro α U β s a w k r hR hk
    unfold interp at hk
    split at hk
    · rename_i outs ho
      obtain ⟨hok, hk⟩ := bif_some hk
      rw [Option.bind_eq_some_iff] at hk
      obtain ⟨z, hz, hk⟩ := hk
      exact wp_mono (region_sound hT hS hm (hC _) hn hR hz) (IPost.taken hok hk)
    · exact region_sound hT hS hm (hC α) hn hR hk
  | seq x y ihx ihy =>
    intro α U β s a w k r hR hk
    unfold interp at hk
    refine wp_seq (wp_mono (ihx α U β s a w _ r hR hk) fun e a' w' hh => ?_)
    cases e with
    | normal =>
      obtain ⟨s', U', β', h1, h2, h3, h4⟩ := Handed.out hh
      exact wp_mono (ihy α U' β' s' a' w' k r h2 h1) (IPost.after h3 h4)
    | exit id => exact hh
    | ret => exact hh
    | _ => exact hh
  | cond c x y ihx ihy =>
    intro α U β s a w k r hR hk
    unfold interp at hk
    obtain ⟨v, hv, hk⟩ := asB_some hk
    have hc := hR.ev 0 c
    rw [hv] at hc
    refine wp_cond hc.bool ?_
    split at hk
    · rename_i outs ho
      obtain ⟨hok, hk1⟩ := bif_some hk
      rw [Option.bind_eq_some_iff] at hk1
      obtain ⟨z, hz, hk2⟩ := hk1
      cases v with
      | true => exact wp_mono (ihx _ U β s a w _ z hR hz) (IPost.taken hok hk2)
      | false => exact wp_mono (ihy _ U β s a w _ z hR hz) (IPost.taken hok hk2)
    · cases v with
      | true => exact ihx α U β s a w k r hR hk
      | false => exact ihy α U β s a w k r hR hk
  | block id b ih =>
    intro α U β s a w k r hR hk
    unfold interp at hk
    split at hk
    · rename_i outs ho
      obtain ⟨hok, hk⟩ := bif_some hk
      rw [Option.bind_eq_some_iff] at hk
      obtain ⟨z, hz, hk⟩ := hk
      refine wp_block (wp_mono (ih _ U β s a w _ z hR hz) fun e a' w' hh => ?_)
      have := IPost.block e a' w' hh
      cases e with
      | normal => exact IPost.taken hok hk .normal a' w' this
      | exit j =>
        simp only [Exit.inBlock] at this ⊢
        split
        · rename_i e; rw [if_pos e] at this; exact IPost.taken hok hk .normal a' w' this
        · rename_i e; rw [if_neg e] at this; exact IPost.taken hok hk (.exit j) a' w' this
      | ret => exact IPost.taken hok hk .ret a' w' this
      | _ => exact this
    · exact wp_block (wp_mono (ih α U β s a w _ r hR hk) IPost.block)
  | loop b ih =>
    intro α U β s a w k r hR hk
    unfold interp at hk
    split at hk
    · rename_i g outs ho
      obtain ⟨hok, hk⟩ := bif_some hk
      obtain ⟨hok, hgo, hle⟩ := and3 hok
      have hle := Nat.le_of_ble_eq_true hle
      rw [Option.bind_eq_some_iff] at hk
      obtain ⟨x, hx, hk⟩ := hk
      rw [Option.bind_eq_some_iff] at hk
      obtain ⟨z, hz, hk⟩ := hk
      obtain ⟨g1, g2, g3⟩ := pack_ok hx hgo hR (Adv.refl w U β s.heap s.app) (fun _ _ h => h) hle
      refine wp_mono ?_ (IPost.taken hok hk)
      refine wp_loop_ghost (fun m a' w' => ∃ x' U' β', loopV outs g (interp S.E h call b (outDen outs)) m x' = some z ∧ FRel S n U' β' (unpack g x') a' w' ∧
        Adv w U β s.heap w' U' β' (unpack g x').heap (unpack g x').app ∧ ∀ id, id < s.heap.length → id ∈ s.app → id ∈ (unpack g x').app) S.E.K ⟨x, U, β, hz, g1, g2, g3⟩ ?_
      rintro m a1 w1 ⟨x1, U1, β1, h1, h2, h3, h4⟩
      cases m with
      | zero => cases h1
      | succ m =>
        refine wp_mono (ih _ U1 β1 _ a1 w1 _ z h2 h1) fun e a' w' hh => ?_
        have hl := h3.len
        cases e with
        | normal =>
          obtain ⟨s', U', β', e1, e2, e3, e4⟩ := Handed.out hh
          simp only [Option.bind_eq_some_iff] at e1
          obtain ⟨x', hx', e1⟩ := e1
          obtain ⟨q1, q2, q3⟩ := pack_ok hx' hgo e2 (h3.trans e3 fun id hl' hi => e4 id (by omega) hi) (fun id hl' hi => e4 id (by omega) (h4 id hl' hi)) hle
          exact ⟨m, Nat.lt_succ_self m, x', U', β', e1, q1, q2, q3⟩
        | exit id => exact Handed.after h3 h4 hh
        | ret => exact Handed.after h3 h4 hh
        | _ => exact hh
    · refine wp_loop_ghost (fun m a' w' => ∃ s' U' β', loopC (interp S.E h call b α) m s' k = some r ∧ FRel S n U' β' s' a' w' ∧
        Adv w U β s.heap w' U' β' s'.heap s'.app ∧ ∀ id, id < s.heap.length → id ∈ s.app → id ∈ s'.app) S.E.U ⟨_, U, β, hk, hR, Adv.refl w U β s.heap s.app, fun _ _ h => h⟩ ?_
      rintro m a1 w1 ⟨s1, U1, β1, h1, h2, h3, h4⟩
      cases m with
      | zero => cases h1
      | succ m =>
        refine wp_mono (ih α U1 β1 s1 a1 w1 _ r h2 h1) fun e a' w' hh => ?_
        cases e with
        | normal =>
          obtain ⟨s', U', β', e1, e2, e3, e4⟩ := Handed.out hh
          have hl := h3.len
          exact ⟨m, Nat.lt_succ_self m, s', U', β', e1, e2, h3.trans e3 fun id hl' hi => e4 id (by omega) hi, fun id hl' hi => e4 id (by omega) (h4 id hl' hi)⟩
        | exit id => exact Handed.after h3 h4 hh
        | ret => exact Handed.after h3 h4 hh
        | _ => exact hh
  | scope b ih =>
    intro α U β s a w k r hR hk
    unfold interp at hk
    refine wp_scope_straight (wp_mono (ih α U β s a w _ r hR hk) fun e a' w' hh => ?_)
    cases e <;> exact hh
  | _ => intro α U β s a w k r hR hk; simp [interp] at hk
end
end Go.Dp
/- Functions. -/
set_option autoImplicit false
set_option linter.unusedVariables false
set_option linter.unusedSimpArgs false
namespace Go.Dp
open Go.RowKit

/-- A deferred call that does nothing where nothing panics, whatever it has captured. -/
def Harm (P : Program) (g : Nat) : Prop := ∀ (caps : Array Value) (w : World), (invoke (.fn (.func g) caps) #[]).run P w = .ok (.enter g caps) w ∧
  CallsD P g caps .returning w fun e u' w' => (∃ v, e = .returned v) ∧ settle u' = .returning ∧ w' = w
def HarmD (P : Program) (d : Deferred) : Prop := ∃ g caps, d = { target := .fn (.func g) caps, args := #[] } ∧ Harm P g

/-- The functions that the table holds are the program's. -/
structure FnsOK (P : Program) (E : Env) : Prop where
  ok : ∀ f fb h, look E.fns f = some (fb, h) → P.funcs[f]? = some fb ∧ EnterOK P f
  dfr : ∀ f fb h, look E.fns f = some (fb, h) → ∀ g ∈ h.dfr, Harm P g

section
variable {S : Base} {n : Nat} {U : Nat → Prop} {β : Nat → Blk} {s : St} {a : Act} {w w' : World} {α : Type} {r : α} {h : Hint} {call : CallT α}

theorem load_asAddr {P : Program} {t : TypeId} {x v : Value} (h : (Instr.loadAt t x).run P w = .ok v w') : (do loadVar t (← asAddr x) : Sem Value).run P w = .ok v w' := by
  unfold Instr.loadAt Instr.sureAddr at h
  cases x <;> first | exact h | (simp at h; done) | skip
  rename_i A
  cases A <;> first | exact h | (simp at h; done)

/-- The result variables one by one. -/
theorem resC_ok (hT : TIok S.P S.E) (hR : FRel S n U β s a w) : ∀ (l : List ResultVar) (k : List TV → Option α), resC S.E s l k = some r →
    ∃ xs vs, k xs = some r ∧ xs.length = vs.length ∧ vs.length = l.length ∧ (∀ i (h : i < xs.length) (h' : i < vs.length), EncV w U β s.heap xs[i] vs[i]) ∧
      ∀ f : ResultVar → Sem Value, (∀ t, f (.tmp t) = pure (a.tmps.getD t undef)) → (∀ a' t, f (.cell a' t) = do loadVar t (← asAddr (a.tmps.getD a' undef))) → (l.mapM f).run S.P w = .ok vs w := by
  intro l
  induction l with
  | nil => intro k hk; exact ⟨[], [], hk, rfl, rfl, fun i h => by simp at h, fun f _ _ => by simp⟩
  | cons x l ih =>
    intro k hk
    cases x with
    | tmp t =>
      obtain ⟨xs, vs, h1, h2, h3, h4, h5⟩ := ih _ hk
      refine ⟨s.get t :: xs, a.tmps.getD t undef :: vs, h1, by simp [h2], by simp [h3], fun i hi hi' => ?_, fun f f1 f2 => ?_⟩
      · cases i with
        | zero => exact hR.regs t
        | succ i => exact h4 i (by simpa using hi) (by simpa using hi')
      · simp only [List.mapM_cons, f1, Sem.run_bind, Sem.run_pure, Result.andThen_ok, h5 f f1 f2]
    | cell b t =>
      obtain ⟨z, v, h1, h2, h3⟩ := loadC_ok (P := S.P) hT hR.wrel.heap (hR.regs b) hk
      obtain ⟨xs, vs, g1, g2, g3, g4, g5⟩ := ih _ h1
      refine ⟨z :: xs, v :: vs, g1, by simp [g2], by simp [g3], fun i hi hi' => ?_, fun f f1 f2 => ?_⟩
      · cases i with
        | zero => exact h2
        | succ i => exact g4 i (by simpa using hi) (by simpa using hi')
      · have h3' : (do loadVar t (← asAddr (a.tmps.getD b undef)) : Sem Value).run S.P w = .ok v w := load_asAddr h3
        rw [List.mapM_cons, f2, Sem.run_bind, h3']
        simp only [Result.andThen_ok, Sem.run_bind, g5 f f1 f2, Sem.run_pure]

theorem oneOrTup_ok {H : Heap} {xs : List TV} {vs : List Value} (hl : xs.length = vs.length) (hv : ∀ i (h : i < xs.length) (h' : i < vs.length), EncV w U β H xs[i] vs[i]) :
    EncV w U β H (oneOrTup xs) (if h : vs.toArray.size = 1 then vs.toArray[0] else .tuple vs.toArray) := by
  by_cases h1 : vs.length = 1
  · rw [dif_pos (by simpa using h1)]
    obtain ⟨v, rfl⟩ : ∃ v, vs = [v] := by
      cases vs with
      | nil => simp at h1
      | cons v l => cases l with
        | nil => exact ⟨v, rfl⟩
        | cons _ _ => simp at h1
    obtain ⟨x, rfl⟩ : ∃ x, xs = [x] := by
      cases xs with
      | nil => simp at hl
      | cons v l => cases l with
        | nil => exact ⟨v, rfl⟩
        | cons _ _ => simp at hl
    exact hv 0 (by simp) (by simp)
  · rw [dif_neg (by simpa using h1)]
    have : oneOrTup xs = ⟨.tup (chMk xs).t, (chMk xs).v⟩ := by
      unfold oneOrTup
      split
      · simp at hl; omega
      · rfl
    rw [this]
    refine .inr ⟨rfl, ?_⟩
    simp only [EncM, Value.cells]
    exact ⟨_, rfl, chMk_true _ _ hl hv⟩

theorem regsOf_get : ∀ (l : List TV) (i j : Nat), lookTV (regsOf i l) j = if i ≤ j then (l[j - i]?).getD .unk else .unk := by
  intro l
  induction l with
  | nil => intro i j; simp [regsOf, lookTV]
  | cons x l ih =>
    intro i j
    simp only [regsOf, lookTV]
    cases hb : Nat.beq i j with
    | true => obtain rfl := beqN hb; simp
    | false =>
      have hne : i ≠ j := fun e => by subst e; rw [Nat.beq_refl] at hb; cases hb
      simp only [cond_false]
      rw [ih]
      by_cases hij : i ≤ j
      · rw [if_pos hij, if_pos (by omega)]
        have : j - i = (j - (i + 1)) + 1 := by omega
        rw [this]
        simp
      · rw [if_neg hij, if_neg (by omega)]

/-- The same set-up with other deferred calls. -/
def Base.nd (S : Base) (D : List Deferred) : Base := ⟨S.P, S.E, S.w0, S.U0, D⟩
theorem WRel.nd {S : Base} {U : Nat → Prop} {β : Nat → Blk} {H : Heap} {w : World} (h : WRel S U β H w) (D : List Deferred) : WRel (S.nd D) U β H w := ⟨h.heap, h.below, h.uin, h.uold, h.globs⟩
theorem WRel.dn {S : Base} {U : Nat → Prop} {β : Nat → Blk} {H : Heap} {w : World} {D : List Deferred} (h : WRel (S.nd D) U β H w) : WRel S U β H w := ⟨h.heap, h.below, h.uin, h.uold, h.globs⟩
theorem CallSound.nd {S : Base} {α : Type} {call : CallT α} (h : CallSound S call) (D : List Deferred) : CallSound (S.nd D) call := by
  intro f args H k r hk
  obtain ⟨h1, h2⟩ := h f args H k r hk
  refine ⟨h1, fun U β w vals hW hl hv => (h2 U β w vals hW.dn hl hv).mono ?_⟩
  rintro e w' ⟨v, x, H', app, U', β', e1, e2, e3, e4, e5⟩
  exact ⟨v, x, H', app, U', β', e1, e2, e3.nd D, e4, e5⟩

theorem memN_elim : ∀ {l : List Nat} {i : Nat}, memN l i = true → i ∈ l := by
  intro l
  induction l with
  | nil => intro i h; cases h
  | cons j l ih =>
    intro i h
    simp only [memN] at h
    cases hb : Nat.beq j i with
    | true => rw [Nat.eq_of_beq_eq_true hb]; exact List.mem_cons_self
    | false => rw [hb] at h; exact List.mem_cons_of_mem _ (ih h)

theorem defReg_some {c : Code} {o1 o2 : Oper} (h : defReg c = some (o1, o2)) : ∃ id ops, c = .region id ops false ∧ ops.toList = [o1, o2] ∧ o1.guard = none ∧ o2.guard = none ∧ o2.dst = none := by
  unfold defReg at h
  split at h
  · rename_i id ops
    split at h
    · rename_i p q hl
      obtain ⟨h1, h⟩ := bif_some h
      cases h
      obtain ⟨h1, _⟩ := and2 h1
      obtain ⟨h1, h4⟩ := and2 h1
      obtain ⟨h2, h3⟩ := and2 h1
      exact ⟨id, ops, rfl, hl, by simpa using h2, by simpa using h3, by simpa using h4⟩
    · cases h
  · cases h

/-- A call is deferred. -/
theorem deferC_ok {o : Oper} {k : St → Option α} {next : Act → World → Prop} {Q : Exit → Act → World → Prop} (hharm : ∀ g ∈ h.dfr, Harm S.P g) (hdst : o.dst = none) (hR : FRel (S.nd []) n U β s a w) (hk : deferC S.E h s o k = some r)
    (hn : ∀ d a', HarmD S.P d → FRel (S.nd [d]) n U β s a' w → k s = some r → next a' w) : o.wp S.P a w next Q := by
  unfold deferC at hk
  split at hk
  · rename_i c hop
    obtain ⟨callee, args, ats⟩ := c
    simp only at hk
    split at hk
    · rename_i f hargs
      split at hk
      · rename_i g c cv hf
        obtain ⟨h1, hk⟩ := bif_some hk
        have hv := hR.ev 0 f
        rw [show ev (S.nd []).E s 0 f = ev S.E s 0 f from rfl, hf] at hv
        have hm := hv.one rfl rfl
        simp only [EncM] at hm
        obtain ⟨vs, e, _⟩ := hm
        have e := (List.cons.inj e).1
        have ha : args = #[] := by apply Array.ext'; simpa using hargs
        subst ha
        have hrun : (execOp a.eval o).run S.P w = .ok (.defer { target := .fn (.func g) vs, args := #[] }) w := by
          simp only [execOp, hop, resolve, e, Deferred.ofValue, Sem.run_bind, Sem.run_pure, Result.andThen_ok]
          simp
        unfold Oper.wp
        rw [hrun, Oper.upon_defer, hdst]
        refine hn { target := .fn (.func g) vs, args := #[] } _ ⟨g, vs, rfl, hharm g (memN_elim h1)⟩ ?_ hk
        have hd : a.defers = [] := hR.defers
        exact ⟨by show _ :: a.defers = _; rw [hd]; rfl, hR.size, hR.regs, ⟨hR.wrel.heap, hR.wrel.below, hR.wrel.uin, hR.wrel.uold, hR.wrel.globs⟩⟩
      · cases hk
    · cases hk
  · cases hk

/-- What code leaves in which one call may have been deferred. -/
def DPost (S : Base) (n : Nat) (U : Nat → Prop) (β : Nat → Blk) (s : St) (w : World) {α : Type} (k : XEx → St → Option α) (r : α) (e : Exit) (a' : Act) (w' : World) : Prop :=
  IPost (S.nd []) n U β s w k r e a' w' ∨ ∃ d, HarmD S.P d ∧ IPost (S.nd [d]) n U β s w k r e a' w'

theorem interpD_sound {call : AnyCall} (hT : TIok S.P S.E) (hS : SpecsOK S.P S.E) (hm : S.P.follows .mixedOrders = true) (hC : ∀ α, CallSound S (call α)) (hn : h.n = n) (hharm : ∀ g ∈ h.dfr, Harm S.P g) : ∀ (c : Code) (α : Type) (U : Nat → Prop) (β : Nat → Blk) (s : St) (a : Act) (w : World) (k : XEx → St → Option α) (r : α),
    FRel (S.nd []) n U β s a w → interpD S.E h call c α s k = some r → c.wp S.P (DPost S n U β s w k r) a w := by
  have plain : ∀ (c : Code) (α : Type) (U : Nat → Prop) (β : Nat → Blk) (s : St) (a : Act) (w : World) (k : XEx → St → Option α) (r : α),
      FRel (S.nd []) n U β s a w → interp S.E h call c α s k = some r → c.wp S.P (DPost S n U β s w k r) a w := fun c α U β s a w k r hR hk =>
    wp_mono (interp_sound (S := S.nd []) hT hS hm (fun α => (hC α).nd []) hn c α U β s a w k r hR hk) fun e a' w' hh => .inl hh
  intro c
  induction c with
  | seq x y _ ihy =>
    intro α U β s a w k r hR hk
    unfold interpD at hk
    split at hk
    · rename_i o1 o2 hd
      obtain ⟨id, ops, rfl, hl, g1, g2, g3⟩ := defReg_some hd
      refine wp_seq (wp_region_list ?_)
      rw [hl]
      refine wpList_step fun K hK => ?_
      rw [if_pos (wanted_none g1)]
      refine Oper.wp_mono ?_ (op_sound (S := S.nd []) (Q := _) hT hS ((hC α).nd []) hn hR hk)
      intro a1 w1 hh
      refine hK _ _ ?_
      obtain ⟨s1, U1, β1, h1, h2, h3, h4⟩ := Handed.out hh
      refine wpList_step fun K2 hK2 => ?_
      rw [if_pos (wanted_none g2)]
      refine deferC_ok hharm g3 h2 h1 fun d a2 hd hR2 hk2 => hK2 _ _ ?_
      show y.wp S.P _ a2 w1
      exact wp_mono (interp_sound (S := S.nd [d]) hT hS hm (fun α => (hC α).nd [d]) hn y α U1 β1 s1 a2 w1 k r hR2 hk2) fun e a' w' hh => .inr ⟨d, hd, IPost.after h3 h4 e a' w' hh⟩
    · refine wp_seq (wp_mono (interp_sound (S := S.nd []) hT hS hm (fun α => (hC α).nd []) hn x α U β s a w _ r hR hk) fun e a' w' hh => ?_)
      cases e with
      | normal =>
        obtain ⟨s', U', β', h1, h2, h3, h4⟩ := Handed.out hh
        refine wp_mono (ihy α U' β' s' a' w' k r h2 h1) fun e a'' w'' hh => ?_
        rcases hh with hh | ⟨d, hd, hh⟩
        · exact .inl (IPost.after h3 h4 e a'' w'' hh)
        · exact .inr ⟨d, hd, IPost.after h3 h4 e a'' w'' hh⟩
      | exit id => exact .inl hh
      | ret => exact .inl hh
      | _ => exact .inl hh
  | _ => intro α U β s a w k r hR hk; exact plain _ α U β s a w k r hR hk

theorem callF_sound (hT : TIok S.P S.E) (hS : SpecsOK S.P S.E) (hF : FnsOK S.P S.E) (hm : S.P.follows .mixedOrders = true) : ∀ d, ∀ α, CallSound S (callF S.E d α) := by
  intro d
  induction d with
  | zero => intro α f args H k r hk; simp [callF] at hk
  | succ d ih =>
    intro α f args H k r hk
    unfold callF at hk
    split at hk
    · rename_i fb h hlook
      obtain ⟨hfn, hent⟩ := hF.ok f fb h hlook
      split at hk
      · rename_i c hbody
        obtain ⟨h1, hk⟩ := bif_some hk
        obtain ⟨h1, h2⟩ := and2 h1
        have hn : h.n = fb.ntmps := beqN h1
        have hle : args.length ≤ h.n := Nat.le_of_ble_eq_true h2
        refine ⟨hent, fun U β w vals hW hl hv => ?_⟩
        have hR : FRel (S.nd []) h.n U β ⟨regsOf 0 args, H, []⟩ { tmps := vals.toArray ++ Array.replicate (fb.ntmps - vals.toArray.size) undef, defers := [] } w := by
          refine ⟨rfl, by simp; omega, fun i => ?_, hW.nd []⟩
          show EncV w U β H (lookTV (regsOf 0 args) i) _
          rw [regsOf_get]
          simp only [Nat.zero_le, if_true, Nat.sub_zero]
          by_cases hi : i < args.length
          · have := hv i hi (by omega)
            rw [List.getElem?_eq_getElem hi]
            simp only [Option.getD_some]
            have e : (vals.toArray ++ Array.replicate (fb.ntmps - vals.toArray.size) undef).getD i undef = vals[i]'(by omega) := by
              rw [Array.getD_eq_getD_getElem?, Array.getElem?_append_left (by simp; omega)]
              simp [show i < vals.length by omega]
            rw [e]; exact this
          · rw [List.getElem?_eq_none (by omega)]; exact .inl rfl
        -- the end
        have leave : ∀ {D : List Deferred} {s' : St} {U' : Nat → Prop} {β' : Nat → Blk} {a' : Act} {w' : World}, (resC S.E s' fb.results.toList fun r => leaveC H.length s' k (oneOrTup r)) = some r → FRel (S.nd D) h.n U' β' s' a' w' → Adv w U β H w' U' β' s'.heap s'.app →
            a'.defers = D ∧ ∃ v, (results fb a'.tmps).run S.P w' = .ok v w' ∧ CallPost S U β H w k r (.returned v) w' := by
          intro D s' U' β' a' w' hk hR' hA
          obtain ⟨xs, vs, g1, g2, g3, g4, g5⟩ := resC_ok (S := S.nd D) hT hR' _ _ hk
          simp only [Base.nd] at g5
          refine ⟨hR'.defers, if h : vs.toArray.size = 1 then vs.toArray[0] else .tuple vs.toArray, ?_, ?_⟩
          · unfold results
            rw [← Array.toArray_toList (xs := fb.results), List.mapM_toArray]
            simp only [Sem.run_bind, Sem.run_map]
            rw [g5 _ (fun _ => rfl) (fun _ _ => rfl)]
            rfl
          · have he := oneOrTup_ok g2 g4
            unfold leaveC at g1
            cases hb : gcOK H.length (oneOrTup xs :: s'.heap.take H.length) with
            | false =>
              rw [hb] at g1
              exact ⟨_, _, _, _, U', β', rfl, he, hR'.wrel.dn, hA, g1⟩
            | true =>
              rw [hb] at g1
              simp only [gcOK, List.all_cons, Bool.and_eq_true] at hb
              exact ⟨_, _, _, _, U', β', rfl, he.take hb.1, (hR'.wrel.take hb.2).dn, hA.take (Nat.le_refl _) fun _ _ h => h, g1⟩
        cases hde : h.dfr.isEmpty with
        | true =>
          rw [hde, cond_true] at hk
          refine calls_of_wp hfn hbody (wp_mono (interp_sound (S := S.nd []) hT hS hm (fun α => (ih α).nd []) rfl c α U β _ _ w _ r hR hk) ?_)
          intro e a' w' hh
          cases e with
          | normal =>
            obtain ⟨s', U', β', e1, e2, e3, e4⟩ := Handed.out hh
            exact leave e1 e2 e3
          | ret =>
            obtain ⟨s', U', β', e1, e2, e3, e4⟩ := Handed.out hh
            exact leave e1 e2 e3
          | exit id => obtain ⟨s', U', β', e1, e2⟩ := Handed.out hh; cases e1
          | _ => exact hh.elim
        | false =>
          rw [hde, cond_false] at hk
          refine calls_of_wp_defers hfn hbody (wp_mono (interpD_sound hT hS hm ih rfl (hF.dfr f fb h hlook) c α U β _ _ w _ r hR hk) ?_)
          -- the deferred calls are run
          have fin : ∀ (D : List Deferred) (s' : St) (U' : Nat → Prop) (β' : Nat → Blk) (a' : Act) (w' : World), (D = [] ∨ ∃ d, HarmD S.P d ∧ D = [d]) → (resC S.E s' fb.results.toList fun r => leaveC H.length s' k (oneOrTup r)) = some r → FRel (S.nd D) h.n U' β' s' a' w' → Adv w U β H w' U' β' s'.heap s'.app →
              Leaves S.P fb a'.tmps (CallPost S U β H w k r) a'.defers .returning w' := by
            intro D s' U' β' a' w' hD hk hR' hA
            obtain ⟨g1, v, g2, g3⟩ := leave hk hR' hA
            rw [g1]
            rcases hD with rfl | ⟨d, ⟨g, caps, rfl, hg⟩, rfl⟩
            · exact ⟨v, g2, g3⟩
            · obtain ⟨q1, q2⟩ := hg caps w'
              refine ⟨by simp, _, _, _, _, rfl, q1, fun c cs hc => ?_⟩
              obtain ⟨e, u', w2, fr, ⟨⟨v2, he⟩, hu, hw⟩, hcomes⟩ := q2 c cs hc
              subst he; subst hw
              refine ⟨.returned v2, u', w2, fr, ?_, hcomes⟩
              show Leaves S.P fb a'.tmps _ [] (settle u') w2
              rw [hu]
              exact ⟨v, g2, g3⟩
          intro e a' w' hh
          rcases hh with hh | ⟨d, hd, hh⟩
          · cases e with
            | normal =>
              obtain ⟨s', U', β', e1, e2, e3, e4⟩ := Handed.out hh
              exact fin [] s' U' β' a' w' (.inl rfl) e1 e2 e3
            | ret =>
              obtain ⟨s', U', β', e1, e2, e3, e4⟩ := Handed.out hh
              exact fin [] s' U' β' a' w' (.inl rfl) e1 e2 e3
            | exit id => obtain ⟨s', U', β', e1, e2⟩ := Handed.out hh; cases e1
            | _ => exact hh.elim
          · cases e with
            | normal =>
              obtain ⟨s', U', β', e1, e2, e3, e4⟩ := Handed.out hh
              exact fin [d] s' U' β' a' w' (.inr ⟨d, hd, rfl⟩) e1 e2 e3
            | ret =>
              obtain ⟨s', U', β', e1, e2, e3, e4⟩ := Handed.out hh
              exact fin [d] s' U' β' a' w' (.inr ⟨d, hd, rfl⟩) e1 e2 e3
            | exit id => obtain ⟨s', U', β', e1, e2⟩ := Handed.out hh; cases e1
            | _ => exact hh.elim
      · cases hk
    · cases hk
end
end Go.Dp
/- Contracts. -/
set_option autoImplicit false
set_option linter.unusedVariables false
set_option linter.unusedSimpArgs false
namespace Go.Dp
open Go.RowKit

def Env.at (E : Env) (K : Nat) : Env := ⟨E.ti, E.gl, E.muts, E.owns, E.fns, E.specs, K, E.U⟩

/-- All that is shown once of a program's tables. -/
structure Known0 (P : Program) (E : Env) : Prop where
  ti : TIok P E
  fns : FnsOK P E
  mixed : P.follows .mixedOrders = true

theorem contract_of {P : Program} {E : Env} (h0 : Known0 P E) (hS : SpecsOK P E) {f d : Nat} {Sp : Spec} (hent : EnterOK P f) (ha : Sp.args.pure = true) (hr : Sp.res.pure = true)
    (hb : ∀ K x r, Sp.F K x = some r → body (E.at K) d f Sp x = some r) : Contract P E.gl f Sp := by
  refine ⟨ha, hr, fun K x r hx w U vals hU hg he => .inl ⟨hent, ?_⟩⟩
  have hW : WRel ⟨P, E.at K, w, U, []⟩ U noB [] w := by
    refine ⟨⟨fun id hi => absurd hi (by simp), fun id id' b hi => absurd hi (by simp)⟩, Below.refl _ _, hU, fun b _ => Iff.rfl, hg⟩
  obtain ⟨h1, h2⟩ := chList_ok _ _ _ he
  obtain ⟨_, hc⟩ := callF_sound (S := ⟨P, E.at K, w, U, []⟩) ⟨h0.ti.eqs, h0.ti.ok⟩ ⟨hS.ok, hS.turn, hS.own⟩ ⟨h0.fns.ok, h0.fns.dfr⟩ h0.mixed d Sp.res.den f (chList Sp.args x) [] (fin Sp.res) r (hb K x r hx)
  refine (hc U noB w vals.toList hW h1 h2).mono ?_
  rintro e w' ⟨v, y, H', app, U', β', rfl, hy, hW', hA, hk⟩
  let U2 : Nat → Prop := fun b => U' b ∨ ∃ id, id < H'.length ∧ (β' id).blk = some b
  have hval := deepF_val (U2 := U2) hW'.heap (fun b h => .inl h) (fun id b h1 h2 => .inr ⟨id, h1, h2⟩) 3 hy
  have hcast := cast_some hk
  rw [hcast] at hval
  refine ⟨v, U2, rfl, hW'.below, fun b => ⟨fun h => ?_, fun h => ?_⟩, ?_⟩
  · rcases h with h | ⟨id, hi, hb⟩
    · by_cases hlt : b < w.heap.size
      · exact .inl ((hW'.uold b hlt).1 h)
      · exact .inr ⟨by omega, hW'.uin b h, .inl h⟩
    · obtain ⟨g1, g2, _⟩ := hW'.blk_lt hi hb
      exact .inr ⟨g2, g1, .inr ⟨id, hi, hb⟩⟩
  · rcases h with h | ⟨_, _, h⟩
    · exact .inl ((hW'.uold b (hU b h)).2 h)
    · exact h
  · rcases hval with h | ⟨g1, g2⟩
    · exact .inl h
    · exact .inr ⟨g1, g2.pure_any _ _ _ _ hr⟩
end Go.Dp
namespace Go.Dp
open Go.RowKit

/-- The same of a function whose answer is a row of its own. -/
def finO (e : Ty) (x : TV) (H : Heap) (_ : List Nat) : Option (List e.den) :=
  match x with
  | ⟨.slw id, _⟩ => match hget H id with
    | ⟨.row e', xs⟩ => cast (.list e) ⟨.list e', xs⟩
    | _ => none
  | _ => none
def bodyO (E : Env) (d f : Nat) (O : OSpec) (x : O.args.den) : Option (List O.e.den) :=
  callF E d (List O.e.den) f (chList O.args x) [] [] (finO O.e)

theorem ocontract_of {P : Program} {E : Env} (h0 : Known0 P E) (hS : SpecsOK P E) {f d : Nat} {O : OSpec} (hent : EnterOK P f) (ha : O.args.pure = true) (hn : O.e.noMem = true) (hel : O.e.elem = true)
    (hb : ∀ K x r, O.F K x = some r → bodyO (E.at K) d f O x = some r) : OContract P E.gl f O := by
  refine ⟨ha, hn, hel, hent, fun K x zs hx w U vals hU hg he => ?_⟩
  have hW : WRel ⟨P, E.at K, w, U, []⟩ U noB [] w := by
    refine ⟨⟨fun id hi => absurd hi (by simp), fun id id' b hi => absurd hi (by simp)⟩, Below.refl _ _, hU, fun b _ => Iff.rfl, hg⟩
  obtain ⟨h1, h2⟩ := chList_ok _ _ _ he
  obtain ⟨_, hc⟩ := callF_sound (S := ⟨P, E.at K, w, U, []⟩) ⟨h0.ti.eqs, h0.ti.ok⟩ ⟨hS.ok, hS.turn, hS.own⟩ ⟨h0.fns.ok, h0.fns.dfr⟩ h0.mixed d (List O.e.den) f (chList O.args x) [] (finO O.e) zs (hb K x zs hx)
  refine (hc U noB w vals.toList hW h1 h2).mono ?_
  rintro e w' ⟨v, y, H', app, U', β', rfl, hy, hW', hA, hk⟩
  unfold finO at hk
  split at hk
  · rename_i id u
    split at hk
    · rename_i e' xs hg'
      have hcast := cast_some hk
      cases hcast
      have hm := hy.one rfl rfl
      simp only [EncM] at hm
      obtain ⟨e2, xs2, hid, hg2, hv⟩ := hm
      rw [hg'] at hg2
      cases hg2
      have hv := (List.cons.inj hv).1
      subst hv
      refine ⟨β' id, rfl, hW'.below, ?_⟩
      obtain ⟨_, hrow⟩ := (hW'.heap.obj id hid).row hg'
      rcases hrow with ⟨q1, q2, q3⟩ | ⟨b, arr, el, fr, q1, q2, q3, q4, q5, q6, q7, q8⟩
      · exact .inl ⟨q1, q2, q3⟩
      · refine .inr ⟨b, arr, el, fr, q1, q2, q4, q5, q6, q7, fun i hi => ?_⟩
        obtain ⟨cs, g1, g2⟩ := q8 i hi
        exact ⟨cs, noMem_any _ _ _ _ hn g1, g2⟩
    · cases hk
  · cases hk
end Go.Dp
/- Tables. -/
set_option autoImplicit false
set_option linter.unusedVariables false
set_option linter.unusedSimpArgs false
namespace Go.Dp
open Go.RowKit

/-! Types. -/
def veq1 : Value → Value → Bool
  | .int k n, .int k' n' => decide (k = k') && decide (n = n')
  | .bool b, .bool b' => b == b'
  | .string s, .string s' => decide (s.data.toList = s'.data.toList)
  | .slice none 0 0, .slice none 0 0 => true
  | .nilFunc, .nilFunc => true
  | .pointer none, .pointer none => true
  | .nilIface, .nilIface => true
  | .map none, .map none => true
  | _, _ => false

def veqL : List Value → List Value → Bool
  | [], [] => true
  | v :: l, v' :: l' => veq1 v v' && veqL l l'
  | _, _ => false

def veq : Value → Value → Bool
  | .agg a, .agg b => veqL a.toList b.toList
  | v, v' => veq1 v v'

theorem veq1_eq {v v' : Value} (h : veq1 v v' = true) : v = v' := by
  unfold veq1 at h
  split at h
  · obtain ⟨h1, h2⟩ := and2 h
    rw [of_decide_eq_true h1, of_decide_eq_true h2]
  · rw [eq_of_beq h]
  · rename_i s s'
    have h := of_decide_eq_true h
    obtain ⟨⟨a⟩⟩ := s
    obtain ⟨⟨b⟩⟩ := s'
    simp only at h
    rw [h]
  · rfl
  · rfl
  · rfl
  · rfl
  · rfl
  · cases h

theorem veqL_eq : ∀ {l l' : List Value}, veqL l l' = true → l = l' := by
  intro l
  induction l with
  | nil => intro l' h; cases l' <;> first | rfl | cases h
  | cons v l ih =>
    intro l' h
    cases l' with
    | nil => cases h
    | cons v' l' =>
      simp only [veqL] at h
      obtain ⟨h1, h2⟩ := and2 h
      rw [veq1_eq h1, ih h2]

theorem veq_eq {v v' : Value} (h : veq v v' = true) : v = v' := by
  unfold veq at h
  split at h
  · rename_i a b
    have := veqL_eq h
    congr 1
    exact Array.ext' this
  · exact veq1_eq h

def zeroOK (z : Option Value) (t : Ty) : Bool :=
  match z with
  | some v => veq v (zval t)
  | none => false

def tiOK1 (P : Program) (t : Nat) (i : TI) : Bool :=
  match P.info? t, P.underlying t with
  | some info, some d => decide (tdOf d = i.td) && Nat.beq info.size i.size && Nat.beq info.bytes i.bytes && (aggD d == i.ty.isAgg) && (!i.ty.zOK || zeroOK info.zero i.ty) && (bif isStructTD i.td && flat i.ty then eqP P t else true)
  | _, _ => false

theorem look_mem {β : Type} : ∀ {l : List (Nat × β)} {i : Nat} {x : β}, look l i = some x → (i, x) ∈ l := by
  intro l
  induction l with
  | nil => intro i x h; cases h
  | cons p l ih =>
    intro i x h
    obtain ⟨j, y⟩ := p
    simp only [look] at h
    cases hb : Nat.beq j i with
    | true => rw [hb] at h; obtain rfl := beqN hb; cases h; exact List.mem_cons_self
    | false => rw [hb] at h; exact List.mem_cons_of_mem _ (ih h)

theorem TIok_of {P : Program} {E : Env} (h : E.ti.all (fun p => tiOK1 P p.1 p.2) = true) : TIok P E := by
  refine ⟨fun t i hl hs hf => ?_, fun t i hl => ?_⟩
  · have h1 := List.all_eq_true.1 h _ (look_mem hl)
    unfold tiOK1 at h1
    simp only at h1
    split at h1
    · obtain ⟨_, h7⟩ := and2 h1
      rw [hs, hf] at h7
      exact h7
    · cases h1
  have h1 := List.all_eq_true.1 h _ (look_mem hl)
  unfold tiOK1 at h1
  simp only at h1
  split at h1
  · rename_i info d e1 e2
    obtain ⟨h1, _⟩ := and2 h1
    obtain ⟨h1, h6⟩ := and2 h1
    obtain ⟨h1, h5⟩ := and2 h1
    obtain ⟨h1, h4⟩ := and2 h1
    obtain ⟨h2, h3⟩ := and2 h1
    refine ⟨info, d, e1, e2, of_decide_eq_true h2, beqN h3, beqN h4, eq_of_beq h5, fun hz => ?_⟩
    rw [hz] at h6
    have h7 : zeroOK info.zero i.ty = true := by simpa using h6
    unfold zeroOK at h7
    split at h7
    · rename_i v e3; rw [e3, veq_eq h7]
    · cases h7
  · cases h1

/-! Functions. -/
def FnsAll (P : Program) : List (Nat × Func × Hint) → Prop
  | [] => True
  | p :: l => (P.funcs[p.1]? = some p.2.1 ∧ EnterOK P p.1) ∧ FnsAll P l

theorem FnsAll.mem {P : Program} : ∀ {l : List (Nat × Func × Hint)} {p}, FnsAll P l → p ∈ l → P.funcs[p.1]? = some p.2.1 ∧ EnterOK P p.1 := by
  intro l
  induction l with
  | nil => intro p _ hm; cases hm
  | cons q l ih =>
    intro p h hm
    rcases List.mem_cons.1 hm with rfl | hm
    · exact h.1
    · exact ih h.2 hm

def HarmAll (P : Program) : List Nat → Prop
  | [] => True
  | g :: l => Harm P g ∧ HarmAll P l
def DfrAll (P : Program) : List (Nat × Func × Hint) → Prop
  | [] => True
  | p :: l => HarmAll P p.2.2.dfr ∧ DfrAll P l
theorem HarmAll.mem {P : Program} : ∀ {l : List Nat}, HarmAll P l → ∀ g ∈ l, Harm P g := by
  intro l
  induction l with
  | nil => intro _ g hm; cases hm
  | cons q l ih =>
    intro h g hm
    rcases List.mem_cons.1 hm with rfl | hm
    · exact h.1
    · exact ih h.2 g hm
theorem DfrAll.mem {P : Program} : ∀ {l : List (Nat × Func × Hint)}, DfrAll P l → ∀ p ∈ l, ∀ g ∈ p.2.2.dfr, Harm P g := by
  intro l
  induction l with
  | nil => intro _ p hm; cases hm
  | cons q l ih =>
    intro h p hm
    rcases List.mem_cons.1 hm with rfl | hm
    · exact h.1.mem
    · exact ih h.2 p hm
theorem FnsOK_of {P : Program} {E : Env} (h : FnsAll P E.fns) (h2 : DfrAll P E.fns := by (repeat' constructor)) : FnsOK P E :=
  ⟨fun f fb h' hl => h.mem (look_mem hl), fun f fb h' hl => h2.mem _ (look_mem hl)⟩

def SpecsAll (P : Program) (gl : List (Nat × TV)) : List (Nat × Spec) → Prop
  | [] => True
  | p :: l => Contract P gl p.1 p.2 ∧ SpecsAll P gl l

def MutsAll (P : Program) : List (Nat × MSpec) → Prop
  | [] => True
  | p :: l => MContract P p.1 p.2 ∧ MutsAll P l

def OwnsAll (P : Program) (gl : List (Nat × TV)) : List (Nat × OSpec) → Prop
  | [] => True
  | p :: l => OContract P gl p.1 p.2 ∧ OwnsAll P gl l
theorem SpecsOK_of {P : Program} {E : Env} (h : SpecsAll P E.gl E.specs) (h' : MutsAll P E.muts := by trivial) (h2 : OwnsAll P E.gl E.owns := by trivial) : SpecsOK P E := by
  refine ⟨fun f Sp hm => ?_, fun f M hm => ?_, fun f O hm => ?_⟩
  · generalize E.specs = l at h hm
    induction l with
    | nil => cases hm
    | cons q l ih =>
      rcases List.mem_cons.1 hm with rfl | hm
      · exact h.1
      · exact ih h.2 hm
  · generalize E.muts = l at h' hm
    induction l with
    | nil => cases hm
    | cons q l ih =>
      rcases List.mem_cons.1 hm with rfl | hm
      · exact h'.1
      · exact ih h'.2 hm
  · generalize E.owns = l at h2 hm
    induction l with
    | nil => cases hm
    | cons q l ih =>
      rcases List.mem_cons.1 hm with rfl | hm
      · exact h2.1
      · exact ih h2.2 hm

/-- A function that the model answers in place. -/
theorem callFunc_extern {P : Program} {f : Nat} {fn : Func} {e : Array Value → Sem Value} (hf : P.funcs[f]? = some fn) (hn : (fn.name == "runtime.NumGoroutine") = false) (hb : fn.body = none) (h1 : (Extern.findNext fn).isNone = true)
    (h2 : Extern.find fn = some e) (args : Array Value) (w : World) : (callFunc f args).run P w = ((e args).run P w).andThen fun v w => .ok (.value v) w := by
  have h1 : Extern.findNext fn = none := by simpa using h1
  unfold callFunc
  have hn' : ¬ fn.name = "runtime.NumGoroutine" := by simpa using hn
  simp [Sem.run_bind, hf, hn', hb, h1, h2]

/-! internal/bytealg.IndexByteString. -/
def indexByteF (s : List UInt8) (c : Int) : Int := Lib.indexByte s c.toNat.toUInt8

def indexByteSpec : Spec := { args := .scons .str (.scons (.int .u8) .snil), res := .int .i64, own := false, F := fun _ x => some (indexByteF x.1 x.2.1) }

theorem indexByte_contract {P : Program} {gl : List (Nat × TV)} {f : Nat} {fn : Func} (hf : P.funcs[f]? = some fn) (hn : (fn.name == "runtime.NumGoroutine") = false) (hb : fn.body = none) (h1 : (Extern.findNext fn).isNone = true)
    (h2 : Extern.find fn = some Extern.BytealgIndexByte.indexByte) : Contract P gl f indexByteSpec := by
  refine ⟨rfl, rfl, fun K x r hx w U vals hU hg he => .inr ?_⟩
  obtain ⟨s, c, u⟩ := x
  cases hx
  simp only [indexByteSpec, EncM] at he
  obtain ⟨v, l2, h3, h4, v', l3, rfl, h5, rfl⟩ := he
  have e1 : v = .string ⟨s.toArray⟩ := EncV.str (w := w) (U := U) (β := noB) (H := []) h4
  have e2 : v' = .int .u8 c := EncV.int (w := w) (U := U) (β := noB) (H := []) h5
  subst e1; subst e2
  have e3 : vals = #[.string ⟨s.toArray⟩, .int .u8 c] := by apply Array.ext'; simpa using h3
  subst e3
  refine ⟨.int .i64 (indexByteF s c), w, ?_, _, U, rfl, Below.refl _ _, fun b => ⟨.inl, fun h => h.elim (fun h => h) fun h => h.2.2⟩, .mk_int _ _⟩
  rw [callFunc_extern hf hn hb h1 h2, Lib.run_indexByteString]
  simp [indexByteF]
end Go.Dp
namespace Go.Dp
/-- A part of code. -/
def Code.sub : List Nat → Code → Code
  | [], c => c
  | 0 :: p, .seq a _ => Code.sub p a
  | _ :: p, .seq _ b => Code.sub p b
  | 0 :: p, .cond _ a _ => Code.sub p a
  | _ :: p, .cond _ _ b => Code.sub p b
  | _ :: p, .block _ b => Code.sub p b
  | _ :: p, .loop b => Code.sub p b
  | _ :: p, .scope b => Code.sub p b
  | _, c => c
end Go.Dp
/- Go's library. -/
set_option autoImplicit false
set_option linter.unusedVariables false
set_option linter.unusedSimpArgs false
namespace Go.Dp
open Go.RowKit

/-! strings.makeASCIISet. -/
def setOf (s : List UInt8) : List Bool := (List.range 256).map fun j => s.contains (UInt8.ofNat j)

def asciiSetF (s : List UInt8) : Option (List Bool × Bool × Unit) := bif s.all (fun b => decide (b.toNat < 128)) && decide (s.length < 1000000) then some (setOf s, true, ()) else none

def asciiSetSpec : Spec := { args := .scons .str .snil, res := .tup (.scons (.arr 256 .bool) (.scons .bool .snil)), own := false, F := fun _ x => asciiSetF x.1 }

theorem asciiSet_contract {P : Program} {gl : List (Nat × TV)} {f : Nat} {T : TypeId} (hent : EnterOK P f)
    (hc : ∀ (s : ByteArray) (w : World), s.size < 4294967281 → (∀ (j : Nat) b, s.data.toList[j]? = some b → b.toNat < 128) →
      Calls P f #[.string s] w fun e w' => e = .returned (.tuple #[.agg (Lib.setCells s.data.toList), .bool true]) ∧ w' = w.alloc (.cells (Lib.setCells s.data.toList) T)) : Contract P gl f asciiSetSpec := by
  refine ⟨rfl, rfl, fun K x r hx w U vals hU hg he => .inl ⟨hent, ?_⟩⟩
  obtain ⟨s, u⟩ := x
  obtain ⟨h1, hx⟩ := bif_some hx
  cases hx
  obtain ⟨h1, h2⟩ := and2 h1
  simp only [asciiSetSpec, EncM] at he
  obtain ⟨v, l2, h3, h4, rfl⟩ := he
  have e1 : v = .string ⟨s.toArray⟩ := EncV.str (w := w) (U := U) (β := noB) (H := []) h4
  subst e1
  have e3 : vals = #[.string ⟨s.toArray⟩] := by apply Array.ext'; simpa using h3
  subst e3
  refine (hc ⟨s.toArray⟩ w (by have h3 : s.length < 1000000 := of_decide_eq_true h2; simp [ByteArray.size]; omega) (fun j b hb => ?_)).mono ?_
  · have hm : b ∈ s := List.mem_of_getElem? (by simpa using hb)
    exact of_decide_eq_true (List.all_eq_true.1 h1 b hm)
  rintro e w' ⟨rfl, rfl⟩
  refine ⟨_, U, rfl, below_new w _, fun b => ⟨.inl, fun h => h.elim (fun h => h) fun h => h.2.2⟩, .inr ⟨rfl, ?_⟩⟩
  simp only [asciiSetSpec, EncM, Value.cells]
  refine ⟨_, rfl, .agg (Lib.setCells s), [.bool true], rfl, .inr ⟨rfl, ?_⟩, .bool true, [], rfl, .inr ⟨rfl, ?_⟩, rfl⟩
  · simp only [EncM, Value.cells]
    rw [Lib.setCells_eq]
    refine ⟨rfl, by simp [Ty.csize], by simp [setOf], fun i hi => ?_⟩
    have hi' : i < 256 := by simpa [setOf] using hi
    simp only [Ty.csize, Nat.mul_one, Array.toList_map, Array.toList_range]
    rw [← List.map_drop, ← List.map_take]
    rw [List.drop_eq_getElem_cons (by simpa using hi')]
    simp [setOf]
  · simp [EncM, Value.cells]
end Go.Dp
namespace Go.Dp
open Go.RowKit

/-! strings.Join. -/
def joinF (l : List (List UInt8)) (sep : List UInt8) : Option (List UInt8) :=
  bif decide (l.length ≤ 140737488355328) && decide ((Lib.join l sep).length ≤ 140737488355328) then some (Lib.join l sep) else none

def joinSpec : Spec := { args := .scons (.list .str) (.scons .str .snil), res := .str, own := false, F := fun _ x => joinF x.1 x.2.1 }

theorem map_bytes (l : List (List UInt8)) : (l.map fun s => (⟨s.toArray⟩ : ByteArray)).map (·.data.toList) = l := by
  simp [Function.comp_def]

theorem join_contract {P : Program} {gl : List (Nat × TV)} {f : Nat} (hent : EnterOK P f)
    (hnone : ∀ (a : Option Addr) (c : Nat) (sep : ByteArray) (w : World), Calls P f #[.slice a 0 c, .string sep] w fun e w' => e = .returned (.string ⟨#[]⟩) ∧ w' = w)
    (hc : ∀ (bk o c : Nat) (xs : List ByteArray) (sep : ByteArray) (w : World), (∀ (j : Nat) x, xs[j]? = some x → w.cell? ⟨bk, o + j, none⟩ = some (.string x)) → bk < w.heap.size → xs.length ≤ 140737488355328 → xs.length ≤ c →
      (Lib.join (xs.map (·.data.toList)) sep.data.toList).length ≤ 140737488355328 →
      Calls P f #[.slice (some ⟨bk, o, none⟩) xs.length c, .string sep] w fun e w' => e = .returned (.string ⟨(Lib.join (xs.map (·.data.toList)) sep.data.toList).toArray⟩) ∧ Below w.heap.size w w') :
    Contract P gl f joinSpec := by
  refine ⟨rfl, rfl, fun K x r hx w U vals hU hg he => .inl ⟨hent, ?_⟩⟩
  obtain ⟨l, sep, u⟩ := x
  obtain ⟨h1, hx⟩ := bif_some hx
  cases hx
  obtain ⟨h1, h2⟩ := and2 h1
  have h1 : l.length ≤ 140737488355328 := of_decide_eq_true h1
  have h2 : (Lib.join l sep).length ≤ 140737488355328 := of_decide_eq_true h2
  simp only [joinSpec, EncM] at he
  obtain ⟨v, l2, hv1, h3, v2, l3, rfl, h4, rfl⟩ := he
  have e2 : v2 = .string ⟨sep.toArray⟩ := EncV.str (w := w) (U := U) (β := noB) (H := []) h4
  subst e2
  have h5 : EncM w U noB [] false (.list .str) l [v] := EncV.one (x := ⟨.list .str, l⟩) h3 rfl rfl
  simp only [EncM] at h5
  obtain ⟨A, c, hv, hlc, hcell⟩ := h5
  have hv := (List.cons.inj hv).1
  subst hv
  have fin : ∀ {e : Ending} {w' : World}, e = .returned (.string ⟨(Lib.join l sep).toArray⟩) → Below w.heap.size w w' → ∃ v U', e = .returned v ∧ Below w.heap.size w w' ∧ Grows w w' U U' ∧ EncV w' U' noB [] ⟨joinSpec.res, Lib.join l sep⟩ v :=
    fun {e w'} he hb => ⟨_, U, he, hb, fun b => ⟨.inl, fun h => h.elim (fun h => h) fun h => h.2.2⟩, .inr ⟨rfl, by simp only [joinSpec, EncM, Value.cells]⟩⟩
  rcases Nat.eq_zero_or_pos l.length with h0 | h0
  · obtain rfl : l = [] := List.length_eq_zero_iff.1 h0
    have e3 : vals = #[.slice A 0 c, .string ⟨sep.toArray⟩] := by apply Array.ext'; simpa using hv1
    subst e3
    refine (hnone A c ⟨sep.toArray⟩ w).mono ?_
    rintro e w' ⟨he, rfl⟩
    exact fin he (Below.refl _ _)
  · obtain ⟨b, off, rfl, hb, hcs⟩ := hcell h0
    have e3 : vals = #[.slice (some ⟨b, off, none⟩) (l.map fun s => (⟨s.toArray⟩ : ByteArray)).length c, .string ⟨sep.toArray⟩] := by apply Array.ext'; simpa using hv1
    subst e3
    refine (hc b off c (l.map fun s => (⟨s.toArray⟩ : ByteArray)) ⟨sep.toArray⟩ w (fun j x hj => ?_) (hU b hb) (by simpa using h1) (by simpa using hlc) (by rw [map_bytes]; exact h2)).mono ?_
    · rw [List.getElem?_map] at hj
      cases hl : l[j]? with
      | none => rw [hl] at hj; cases hj
      | some s =>
        rw [hl] at hj
        cases hj
        obtain ⟨hlt, hg⟩ := List.getElem?_eq_some_iff.1 hl
        obtain ⟨cs, q1, q2⟩ := hcs j hlt
        have e6 : Ty.csize .str = 1 := rfl
        rw [e6, Nat.mul_one] at q2
        rw [hg] at q1
        have q1 : cs = [.string ⟨s.toArray⟩] := q1
        subst q1
        have := q2 0 (by simp)
        simpa using this
    · rintro e w' ⟨he, hb'⟩
      rw [map_bytes] at he
      exact fin he hb'
end Go.Dp
/- Go's library: strconv.Itoa, strings.Repeat. -/
set_option autoImplicit false
set_option linter.unusedVariables false
set_option linter.unusedSimpArgs false
namespace Go.Dp
open Go.RowKit

def itoaF (n : Int) : Option (List UInt8) := bif decide (-9223372036854775808 ≤ n) && decide (n ≤ 9223372036854775807) then some (Lib.itoa n) else none
def itoaSpec : Spec := { args := .scons (.int .i64) .snil, res := .str, own := false, F := fun _ x => itoaF x.1 }

theorem below_grow' (w : World) (os : Array Obj) (n : Nat) : Below w.heap.size w (Go.Sort.grow (w.drewN n) os) := by
  refine ⟨rfl, rfl, rfl, ?_, fun k hk => ?_⟩
  · show w.heap.size ≤ (w.heap ++ os).size
    simp
  · show (w.heap ++ os)[k]? = w.heap[k]?
    rw [Array.getElem?_append_left hk]

/-- A table that a list of package-level variables holds. -/
theorem tabIs_of_glob {P : Program} {gl : List (Nat × TV)} {w : World} {U : Nat → Prop} {n : Nat} {name : String} {g : Nat} {zs : List Int} (hg : GlobOK gl w U) (hn : P.globalNamed name = some g)
    (hl : lookTV gl g = ⟨.ref (.arr n (.int .u64)), zs⟩) : Lib.TabIs P w name .u64 zs := by
  rcases hg g _ hl with h | ⟨_, _, h⟩
  · cases h
  have h1 := h.enc
  have h2 := h.whole
  simp only [EncM] at h1
  obtain ⟨b, off, cs, e, hb, hc, hj⟩ := h1
  cases e
  simp only [Whole] at h2
  obtain ⟨cells, el, fr, hw, hsz⟩ := h2
  unfold Lib.TabIs World.var?
  rw [hn]
  simp only [Option.bind_some, hw]
  obtain ⟨_, hl2, hzl, hi⟩ := hc
  have e1 : (Ty.int IntKind.u64).csize = 1 := rfl
  have e2 : (Ty.arr n (Ty.int IntKind.u64)).csize = n := by simp [Ty.csize]
  rw [e1, Nat.mul_one] at hl2
  rw [e2] at hsz
  have hcs : cs = zs.map fun z => Value.int .u64 z := by
    refine List.ext_getElem (by simp [hl2, hzl]) fun i h3 h4 => ?_
    have h5 := hi i (by rw [hzl, ← hl2]; exact h3)
    simp only [EncM, e1, Nat.mul_one] at h5
    rw [List.drop_eq_getElem_cons h3, List.take_succ_cons, List.take_zero] at h5
    simpa using (List.cons.inj h5).1
  congr 1
  refine Array.ext' (List.ext_getElem? fun i => ?_)
  simp only [Array.getElem?_toList]
  rcases Nat.lt_or_ge i n with h6 | h6
  · have h7 := hj i (by omega)
    simp only [World.cell?, hw, Nat.zero_add] at h7
    have h8 : cells[i]? = some cs[i] := h7
    rw [h8]
    subst hcs
    simp [hzl, h6]
  · rw [Array.getElem?_eq_none (by omega)]
    rw [List.getElem?_eq_none (by simp; omega)]

theorem itoa_contract {P : Program} {gl : List (Nat × TV)} {f g n : Nat} (hent : EnterOK P f) (hn : P.globalNamed "internal/strconv.uint64pow10" = some g)
    (hl : lookTV gl g = ⟨.ref (.arr n (.int .u64)), Lib.pow10Tab⟩)
    (hc : ∀ (n : Int), -9223372036854775808 ≤ n → n ≤ 9223372036854775807 → ∀ w : World, Lib.TabIs P w "internal/strconv.uint64pow10" .u64 Lib.pow10Tab →
      Calls P f #[.int .i64 n] w fun e w' => e = .returned (.string ⟨(Lib.itoa n).toArray⟩) ∧ ∃ k os, w' = Go.Sort.grow (w.drewN k) os) : Contract P gl f itoaSpec := by
  refine ⟨rfl, rfl, fun K x r hx w U vals hU hg he => .inl ⟨hent, ?_⟩⟩
  obtain ⟨m, u⟩ := x
  obtain ⟨h1, hx⟩ := bif_some hx
  cases hx
  obtain ⟨h1, h2⟩ := and2 h1
  simp only [itoaSpec, EncM] at he
  obtain ⟨v, l2, h3, h4, rfl⟩ := he
  have e1 : v = .int .i64 m := EncV.int (w := w) (U := U) (β := noB) (H := []) h4
  subst e1
  have e3 : vals = #[.int .i64 m] := by apply Array.ext'; simpa using h3
  subst e3
  refine (hc m (of_decide_eq_true h1) (of_decide_eq_true h2) w (tabIs_of_glob hg hn hl)).mono ?_
  rintro e w' ⟨rfl, k, os, rfl⟩
  exact ⟨_, U, rfl, below_grow' w os k, fun b => ⟨.inl, fun h => h.elim (fun h => h) fun h => h.2.2⟩, .inr ⟨rfl, by simp only [itoaSpec, EncM, Value.cells]⟩⟩

def repeatF (s : List UInt8) (c : Int) : Option (List UInt8) := bif decide (0 ≤ c) && decide (c ≤ 9223372036854775807) && decide (s.length * c.toNat ≤ 140737488355328) then some (Lib.repeatL s c.toNat) else none
def repeatSpec : Spec := { args := .scons .str (.scons (.int .i64) .snil), res := .str, own := false, F := fun _ x => repeatF x.1 x.2.1 }

theorem repeat_contract {P : Program} {gl : List (Nat × TV)} {f : Nat} (hent : EnterOK P f)
    (hc : ∀ (s : ByteArray) (c : Nat) (w : World), c ≤ 9223372036854775807 → s.size * c ≤ 140737488355328 →
      Calls P f #[.string s, .int .i64 c] w fun e w' => e = .returned (.string ⟨(Lib.repeatL s.data.toList c).toArray⟩) ∧ Below w.heap.size w w') : Contract P gl f repeatSpec := by
  refine ⟨rfl, rfl, fun K x r hx w U vals hU hg he => .inl ⟨hent, ?_⟩⟩
  obtain ⟨s, c, u⟩ := x
  obtain ⟨h1, hx⟩ := bif_some hx
  cases hx
  obtain ⟨h1, h3⟩ := and2 h1
  obtain ⟨h1, h2⟩ := and2 h1
  have h1 : 0 ≤ c := of_decide_eq_true h1
  have h2 : c ≤ 9223372036854775807 := of_decide_eq_true h2
  have h3 : s.length * c.toNat ≤ 140737488355328 := of_decide_eq_true h3
  simp only [repeatSpec, EncM] at he
  obtain ⟨v, l2, hv, h4, v2, l3, rfl, h5, rfl⟩ := he
  have e1 : v = .string ⟨s.toArray⟩ := EncV.str (w := w) (U := U) (β := noB) (H := []) h4
  subst e1
  have e2 : v2 = .int .i64 c := EncV.int (w := w) (U := U) (β := noB) (H := []) h5
  subst e2
  obtain ⟨m, rfl⟩ := Int.eq_ofNat_of_zero_le h1
  have e3 : vals = #[.string ⟨s.toArray⟩, .int .i64 (m : Int)] := by apply Array.ext'; simpa using hv
  subst e3
  refine (hc ⟨s.toArray⟩ m w (by have h2 : (m : Int) ≤ 9223372036854775807 := h2; omega) (by simpa [ByteArray.size] using h3)).mono ?_
  rintro e w' ⟨rfl, hb⟩
  exact ⟨_, U, rfl, hb, fun b => ⟨.inl, fun h => h.elim (fun h => h) fun h => h.2.2⟩, .inr ⟨rfl, by simp [repeatSpec, EncM, Value.cells]⟩⟩

/-! items.Quote, items.Unquote. -/
/-- What a text is quoted: its inside. -/
def quoteIn : List UInt8 → List UInt8
  | [] => []
  | b :: s => (if b = 34 ∨ b = 92 then [92, b] else [b]) ++ quoteIn s
theorem quoteIn_snoc (s : List UInt8) (b : UInt8) : quoteIn (s ++ [b]) = quoteIn s ++ (if b = 34 ∨ b = 92 then [92, b] else [b]) := by
  induction s with
  | nil => simp [quoteIn]
  | cons a s ih => simp only [List.cons_append, quoteIn, ih, List.append_assoc]
theorem quoteIn_len (s : List UInt8) : (quoteIn s).length ≤ 2 * s.length := by
  induction s with
  | nil => simp [quoteIn]
  | cons a s ih => simp only [quoteIn, List.length_append, List.length_cons]; split <;> simp <;> omega
def quoteL (s : List UInt8) : List UInt8 := 34 :: (quoteIn s ++ [34])
def unq : List UInt8 → Option (List UInt8)
  | [] => some []
  | [a] => if a = 34 ∨ a = 92 then none else some [a]
  | a :: b :: r => if a = 34 then none else if a = 92 then (unq r).map (b :: ·) else (unq (b :: r)).map (a :: ·)
theorem unq_34 (l : List UInt8) : unq (34 :: l) = none := by cases l <;> simp [unq]
theorem unq_92n : unq [92] = none := by simp [unq]
theorem unq_92 (b : UInt8) (r : List UInt8) : unq (92 :: b :: r) = (unq r).map (b :: ·) := by simp [unq]
theorem unq_other (a : UInt8) (l : List UInt8) (h : a ≠ 34) (h2 : a ≠ 92) : unq (a :: l) = (unq l).map (a :: ·) := by
  cases l <;> simp [unq, h, h2]
/-- What a quoted text is unquoted. -/
def unquoteL (s : List UInt8) : List UInt8 × Int × Unit :=
  if s.length < 2 ∨ s.getD 0 0 ≠ 34 ∨ s.getD (s.length - 1) 0 ≠ 34 then ([], 5, ()) else
  match unq ((s.take (s.length - 1)).drop 1) with
  | none => ([], 5, ())
  | some t => (t, 0, ())

def insideD (s : List UInt8) (k : Nat) : List UInt8 := (s.take (s.length - 1)).drop k
theorem insideD_cons (s : List UInt8) {k : Nat} (h : k < s.length - 1) : insideD s k = s.getD k 0 :: insideD s (k + 1) := by
  simp only [insideD]
  rw [List.drop_eq_getElem_cons (by simp; omega)]
  simp only [List.getElem_take, List.getD_eq_getElem?_getD]
  rw [List.getElem?_eq_getElem (by omega)]; rfl
theorem insideD_end (s : List UInt8) {k : Nat} (h : s.length - 1 ≤ k) : insideD s k = [] := by
  simp only [insideD]; rw [List.drop_eq_nil_of_le]; simp; omega

def quoteF (s : List UInt8) : Option (List UInt8) := bif decide (s.length ≤ 1000000000) then some (quoteL s) else none
def quoteSpec : Spec := { args := .scons .str .snil, res := .str, own := false, F := fun _ x => quoteF x.1 }
def unquoteF (s : List UInt8) : Option (List UInt8 × Int × Unit) := bif decide (s.length ≤ 1000000000) then some (unquoteL s) else none
def unquoteSpec : Spec := { args := .scons .str .snil, res := .tup (.scons .str (.scons (.int .i64) .snil)), own := false, F := fun _ x => unquoteF x.1 }

theorem quote_contract {P : Program} {gl : List (Nat × TV)} {f : Nat} (hent : EnterOK P f)
    (hc : ∀ (s : ByteArray) (w : World), s.size ≤ 1000000000 → Calls P f #[.string s] w fun e w' => e = .returned (.string ⟨(quoteL s.data.toList).toArray⟩) ∧ Below w.heap.size w w') : Contract P gl f quoteSpec := by
  refine ⟨rfl, rfl, fun K x r hx w U vals hU hg he => .inl ⟨hent, ?_⟩⟩
  obtain ⟨s, u⟩ := x
  obtain ⟨h1, hx⟩ := bif_some hx
  cases hx
  simp only [quoteSpec, EncM] at he
  obtain ⟨v, l2, h3, h4, rfl⟩ := he
  have e1 : v = .string ⟨s.toArray⟩ := EncV.str (w := w) (U := U) (β := noB) (H := []) h4
  subst e1
  have e3 : vals = #[.string ⟨s.toArray⟩] := by apply Array.ext'; simpa using h3
  subst e3
  refine (hc ⟨s.toArray⟩ w (of_decide_eq_true h1)).mono ?_
  rintro e w' ⟨rfl, hb⟩
  exact ⟨_, U, rfl, hb, fun b => ⟨.inl, fun h => h.elim (fun h => h) fun h => h.2.2⟩, .inr ⟨rfl, by simp [quoteSpec, EncM, Value.cells]⟩⟩
theorem unquote_contract {P : Program} {gl : List (Nat × TV)} {f : Nat} (hent : EnterOK P f)
    (hc : ∀ (s : ByteArray) (w : World), s.size ≤ 1000000000 → Calls P f #[.string s] w fun e w' => e = .returned (.tuple #[.string ⟨(unquoteL s.data.toList).1.toArray⟩, .int .i64 (unquoteL s.data.toList).2.1]) ∧ Below w.heap.size w w') : Contract P gl f unquoteSpec := by
  refine ⟨rfl, rfl, fun K x r hx w U vals hU hg he => .inl ⟨hent, ?_⟩⟩
  obtain ⟨s, u⟩ := x
  obtain ⟨h1, hx⟩ := bif_some hx
  cases hx
  simp only [unquoteSpec, EncM] at he
  obtain ⟨v, l2, h3, h4, rfl⟩ := he
  have e1 : v = .string ⟨s.toArray⟩ := EncV.str (w := w) (U := U) (β := noB) (H := []) h4
  subst e1
  have e3 : vals = #[.string ⟨s.toArray⟩] := by apply Array.ext'; simpa using h3
  subst e3
  refine (hc ⟨s.toArray⟩ w (of_decide_eq_true h1)).mono ?_
  rintro e w' ⟨rfl, hb⟩
  refine ⟨_, U, rfl, hb, fun b => ⟨.inl, fun h => h.elim (fun h => h) fun h => h.2.2⟩, .inr ⟨rfl, ?_⟩⟩
  simp only [unquoteSpec, EncM, Value.cells]
  exact ⟨_, rfl, .string _, _, rfl, .inr ⟨rfl, by simp [EncM, Value.cells]⟩, .int .i64 _, [], rfl, .inr ⟨rfl, by simp [EncM, Value.cells]⟩, rfl⟩
end Go.Dp
/- Plain Lean for the printed functions: loops, bytes, parts of lists. -/
set_option autoImplicit false
set_option linter.unusedVariables false
set_option linter.unusedSimpArgs false
namespace Go.Dp

theorem loop_rule {S R : Type} {l : Nat → S → Option R} (t : (S → Option R) → S → Option R) (hl : ∀ n x, l (n + 1) x = t (l n) x)
    (I : S → Prop) (m : S → Nat) (spec : S → R)
    (step : ∀ x rec, I x → (∀ y, I y → m y < m x → rec y = some (spec y)) → t rec x = some (spec x)) :
    ∀ n x, I x → m x < n → l n x = some (spec x) := by
  intro n
  induction n with
  | zero => intro x _ h; omega
  | succ n ih =>
    intro x hI h
    rw [hl]
    exact step x (l n) hI fun y hy hm => ih y hy (by omega)

@[simp] theorem bind_some' {α β : Type} (a : α) (f : α → Option β) : Option.bind (some a) f = f a := rfl

theorem wrap64 {x : Int} (h : -9223372036854775808 ≤ x) (h' : x < 9223372036854775808) : IntKind.wrap .i64 x = x := by
  have e : (2 ^ IntKind.bits .i64 : Int) = 18446744073709551616 := by decide
  have e2 : (2 ^ (IntKind.bits .i64 - 1) : Int) = 9223372036854775808 := by decide
  have e3 : IntKind.signed .i64 = true := rfl
  simp only [IntKind.wrap, e, e2, e3, Bool.true_and, decide_eq_true_eq]
  split <;> omega

theorem wrap8 {x : Int} (h : 0 ≤ x) (h' : x < 256) : IntKind.wrap .u8 x = x := by
  have e : (2 ^ IntKind.bits .u8 : Int) = 256 := by decide
  have e3 : IntKind.signed .u8 = false := rfl
  simp only [IntKind.wrap, e, e3, Bool.false_and]
  simp
  omega

theorem wrapNat {n : Nat} (h : n < 9223372036854775808) : IntKind.wrap .i64 (n : Int) = n := wrap64 (by omega) (by omega)
theorem wrapSucc {n : Nat} (h : n < 9223372036854775807) : IntKind.wrap .i64 ((n : Int) + 1) = ((n + 1 : Nat) : Int) := by rw [wrap64] <;> omega
theorem wrapPred {n : Nat} (h : n < 9223372036854775807) (h0 : 0 < n) : IntKind.wrap .i64 ((n : Int) - 1) = ((n - 1 : Nat) : Int) := by rw [wrap64] <;> omega

theorem forall_byte {p : UInt8 → Bool} (h : (List.range 256).all (fun n => p (UInt8.ofNat n)) = true) : ∀ b, p b = true := by
  intro b
  have := List.all_eq_true.1 h b.toNat (List.mem_range.2 b.toNat_lt)
  simpa using this

theorem byte_of_int {c : Int} (h0 : 0 ≤ c) (h1 : c < 256) : ∃ b : UInt8, c = (b.toNat : Int) := ⟨UInt8.ofNat c.toNat, by simp; omega⟩

@[simp] theorem ofNat_toNat' (b : UInt8) : UInt8.ofNat ((b.toNat : Int).toNat) = b := by simp
@[simp] theorem toUInt8_toNat' (b : UInt8) : ((b.toNat : Int).toNat).toUInt8 = b := by simp
theorem byte_inj {a b : UInt8} : ((a.toNat : Int) = (b.toNat : Int)) ↔ a = b := ⟨fun h => UInt8.toNat_inj.1 (by omega), fun h => h ▸ rfl⟩

@[simp] theorem length_intsOf (s : List UInt8) : (intsOf s).length = s.length := by simp [intsOf]
@[simp] theorem bytesOf_intsOf (s : List UInt8) : bytesOf (intsOf s) = s := by simp [bytesOf, intsOf, Function.comp_def]
theorem getD_intsOf (s : List UInt8) {i : Nat} (h : i < s.length) : (intsOf s).getD i 0 = ((s.getD i 0).toNat : Int) := by
  simp [intsOf, List.getD_eq_getElem?_getD, List.getElem?_eq_getElem h]
theorem bytesOf_map (s : List UInt8) (g : Int → Int) : bytesOf ((intsOf s).map g) = s.map fun b => UInt8.ofNat (g (b.toNat : Int)).toNat := by
  simp [bytesOf, intsOf, Function.comp_def]

/-! Parts. -/
@[simp] theorem cut_zero' {α : Type} (s : List α) (n : Nat) : cut s 0 n = s.take n := by simp [cut]
@[simp] theorem cut_end {α : Type} (s : List α) (i : Nat) : cut s i s.length = s.drop i := by
  simp only [cut]; rw [List.take_of_length_le]; simp
theorem getD_get {α : Type} (s : List α) (d : α) {i : Nat} (h : i < s.length) : s.getD i d = s[i] := by simp [List.getD_eq_getElem?_getD, h]
theorem drop_get {α : Type} (s : List α) (d : α) {i : Nat} (h : i < s.length) : s.drop i = s.getD i d :: s.drop (i + 1) := by
  rw [getD_get s d h]; exact List.drop_eq_getElem_cons h
theorem take_get {α : Type} (s : List α) (d : α) {i : Nat} (h : i < s.length) : s.take (i + 1) = s.take i ++ [s.getD i d] := by
  rw [getD_get s d h]; exact List.take_succ_eq_append_getElem h

/-! A map in place. -/
theorem map_step {α : Type} (xs : List α) (g : α → α) (d : α) {i : Nat} (h : i < xs.length) :
    (xs.set i (g (xs.getD i d))).take (i + 1) ++ ((xs.set i (g (xs.getD i d))).drop (i + 1)).map g = xs.take i ++ (xs.drop i).map g := by
  rw [drop_get xs d h, take_get (xs.set i (g (xs.getD i d))) d (by simpa using h)]
  have e : (xs.set i (g (xs.getD i d))).take i = xs.take i := by
    apply List.ext_getElem?; intro j; by_cases hj : j < i
    · simp [hj, List.getElem?_set, Nat.ne_of_gt hj]
    · rw [List.getElem?_take, List.getElem?_take, if_neg hj, if_neg hj]
  have e2 : (xs.set i (g (xs.getD i d))).getD i d = g (xs.getD i d) := by simp [List.getD_eq_getElem?_getD, h]
  have e3 : (xs.set i (g (xs.getD i d))).drop (i + 1) = xs.drop (i + 1) := by rw [List.drop_set]; simp
  rw [e, e2, e3]; simp

/-! Ends. -/
def rdw {α : Type} (p : α → Bool) : List α → List α
  | [] => []
  | a :: l => match rdw p l with
    | [] => bif p a then [] else [a]
    | r => a :: r
def dw {α : Type} (p : α → Bool) (l : List α) : List α := l.dropWhile p

variable {α : Type} (p : α → Bool)
@[simp] theorem rdw_nil : rdw p ([] : List α) = [] := rfl
theorem rdw_cons (a : α) (l : List α) : rdw p (a :: l) = if (rdw p l).isEmpty then (if p a then [] else [a]) else a :: rdw p l := by
  rw [rdw]; split <;> simp_all [Bool.cond_eq_ite]
theorem rdw_snoc (l : List α) (b : α) : rdw p (l ++ [b]) = if p b then rdw p l else l ++ [b] := by
  induction l with
  | nil => simp [rdw_cons]
  | cons a l ih => rw [List.cons_append, rdw_cons, ih]; by_cases h : p b <;> simp [h, rdw_cons]
theorem dw_cons (a : α) (l : List α) : dw p (a :: l) = if p a then dw p l else a :: l := by simp [dw, List.dropWhile_cons]
@[simp] theorem dw_nil : dw p ([] : List α) = [] := rfl
theorem dw_rdw (l : List α) : dw p (rdw p l) = rdw p (dw p l) := by
  induction l with
  | nil => rfl
  | cons a l ih =>
    rw [rdw_cons, dw_cons]
    by_cases h : p a
    · by_cases h2 : (rdw p l).isEmpty
      · simp only [h, h2, if_true]
        rw [← ih]; simp_all [List.isEmpty_iff]
      · simp only [h, h2, if_true]
        rw [← ih, if_neg (by simp), dw_cons, if_pos h]
    · by_cases h2 : (rdw p l).isEmpty
      · simp [h, h2, dw_cons, rdw_cons]
      · simp [h, h2, dw_cons, rdw_cons]
theorem dw_dw (l : List α) : dw p (dw p l) = dw p l := by
  induction l with
  | nil => rfl
  | cons a l ih => rw [dw_cons]; by_cases h : p a <;> simp [h, ih, dw_cons]
theorem rdw_rdw (l : List α) : rdw p (rdw p l) = rdw p l := by
  induction l with
  | nil => rfl
  | cons a l ih =>
    rw [rdw_cons]
    by_cases h2 : (rdw p l).isEmpty
    · by_cases h : p a <;> simp [h, h2, rdw_cons]
    · simp [h2, rdw_cons, ih]
theorem length_rdw (l : List α) : (rdw p l).length ≤ l.length := by
  induction l with
  | nil => simp
  | cons a l ih =>
    rw [rdw_cons]; split
    · split <;> simp
    · simp; omega
theorem length_dw (l : List α) : (dw p l).length ≤ l.length := by
  induction l with
  | nil => simp
  | cons a l ih => rw [dw_cons]; split <;> simp <;> omega
theorem dw_head (l : List α) (d : α) (h : 0 < (dw p l).length) : p ((dw p l).getD 0 d) = false := by
  induction l with
  | nil => simp at h
  | cons a l ih =>
    rw [dw_cons] at h ⊢
    by_cases h2 : p a
    · simp only [h2, if_true] at h ⊢; exact ih h
    · simp [h2]
theorem rdw_last (l : List α) (d : α) (h : 0 < (rdw p l).length) : p ((rdw p l).getD ((rdw p l).length - 1) d) = false := by
  induction l with
  | nil => simp at h
  | cons a l ih =>
    rw [rdw_cons] at h ⊢
    by_cases h2 : (rdw p l).isEmpty
    · by_cases h3 : p a <;> simp_all
    · have h4 : 0 < (rdw p l).length := by
        cases h5 : rdw p l <;> simp_all
      have h6 := ih h4
      rw [if_neg h2]
      simp only [List.length_cons, Nat.add_sub_cancel]
      cases h5 : (rdw p l).length with
      | zero => omega
      | succ n => rw [h5] at h6; simpa using h6

/-! The place of a byte. -/
theorem indexByte_eq (s : List UInt8) (b : UInt8) : Lib.indexByte s b = if s.contains b then ((s.takeWhile (· != b)).length : Int) else -1 := by
  induction s with
  | nil => simp [Lib.indexByte]
  | cons a s ih =>
    rw [Lib.indexByte, ih]
    by_cases h : a = b
    · subst h; simp
    · have h' : (a == b) = false := by simpa using h
      have h'' : (b == a) = false := by simpa using fun e => h e.symm
      by_cases h2 : s.contains b
      · have h3 : ((List.takeWhile (fun x => x != b) s).length : Int) ≠ -1 := by omega
        simp_all
      · simp_all
end Go.Dp
namespace Go.Dp
theorem map_keep {α : Type} (xs : List α) (g : α → α) (d : α) {i : Nat} (h : i < xs.length) (hg : g (xs.getD i d) = xs.getD i d) :
    xs.take (i + 1) ++ (xs.drop (i + 1)).map g = xs.take i ++ (xs.drop i).map g := by
  rw [drop_get xs d h, take_get xs d h]; simp only [List.map_cons, hg]; simp
end Go.Dp
namespace Go.Dp
theorem idx_rule {S R : Type} {l : Nat → S → Option R} (t : (S → Option R) → S → Option R) (hl : ∀ n x, l (n + 1) x = t (l n) x)
    (N : Nat) (st : Nat → S) (spec : Nat → R)
    (step : ∀ i rec, i ≤ N → (i < N → rec (st (i + 1)) = some (spec (i + 1))) → t rec (st i) = some (spec i)) :
    ∀ n i, i ≤ N → N - i < n → l n (st i) = some (spec i) := by
  intro n
  induction n with
  | zero => intro x _ h; omega
  | succ n ih =>
    intro i hI h
    rw [hl]
    exact step i (l n) hI fun hy => ih (i + 1) (by omega) (by omega)
theorem drop_len {α : Type} (s : List α) : s.drop s.length = [] := List.drop_eq_nil_of_le (Nat.le_refl _)
/-- A text is cut at a byte. -/
def cutAt (s : List UInt8) (b : UInt8) : List UInt8 × List UInt8 × Bool × Unit :=
  if s.contains b then (s.takeWhile (· != b), (s.dropWhile (· != b)).drop 1, true, ()) else (s, [], false, ())
theorem takeWhile_len (s : List UInt8) (p : UInt8 → Bool) : (s.takeWhile p).length ≤ s.length := by
  induction s with
  | nil => simp
  | cons a s ih => rw [List.takeWhile_cons]; split <;> simp; omega
theorem take_takeWhile {α : Type} (s : List α) (p : α → Bool) : s.take (s.takeWhile p).length = s.takeWhile p := by
  induction s with
  | nil => simp
  | cons a s ih => rw [List.takeWhile_cons]; split <;> simp [ih]
theorem drop_takeWhile {α : Type} (s : List α) (p : α → Bool) : s.drop (s.takeWhile p).length = s.dropWhile p := by
  induction s with
  | nil => simp
  | cons a s ih => rw [List.takeWhile_cons, List.dropWhile_cons]; split <;> simp [ih]
theorem takeWhile_lt (s : List UInt8) (b : UInt8) (h : s.contains b = true) : (s.takeWhile (· != b)).length < s.length := by
  induction s with
  | nil => simp at h
  | cons a s ih =>
    rw [List.takeWhile_cons]
    by_cases e : a = b
    · simp [e]
    · have e2 : s.contains b = true := by
        have e' : ¬ b = a := fun x => e x.symm
        simpa [e, e'] using h
      simp [e, ih e2]
theorem takeWhile_not (s : List UInt8) (b : UInt8) : (s.takeWhile (· != b)).contains b = false := by
  induction s with
  | nil => simp
  | cons a s ih =>
    rw [List.takeWhile_cons]
    by_cases e : a = b
    · simp [e]
    · have e' : ¬ b = a := fun x => e x.symm
      simp [e, e']; simpa using ih
theorem dropWhile_head (s : List UInt8) (b : UInt8) (h : s.contains b = true) : s.dropWhile (· != b) = b :: (s.dropWhile (· != b)).drop 1 := by
  induction s with
  | nil => simp at h
  | cons a s ih =>
    rw [List.dropWhile_cons]
    by_cases e : a = b
    · simp [e]
    · have e2 : s.contains b = true := by
        have e' : ¬ b = a := fun x => e x.symm
        simpa [e, e'] using h
      simp only [bne_iff_ne, ne_eq, e, not_false_eq_true, if_true]; exact ih e2
/-- The parts of a cut text. -/
theorem cutAt_join (s : List UInt8) (b : UInt8) (h : s.contains b = true) : s.takeWhile (· != b) ++ [b] ++ (s.dropWhile (· != b)).drop 1 = s := by
  rw [List.append_assoc, List.singleton_append, ← dropWhile_head s b h]; exact List.takeWhile_append_dropWhile
end Go.Dp
namespace Go.Dp
theorem byteN (b : UInt8) (n : Nat) (h : n < 256) : ((b.toNat : Int) = (n : Int)) ↔ b = UInt8.ofNat n := by
  constructor
  · intro e
    apply UInt8.toNat_inj.1
    have : b.toNat = n := by omega
    simp [this, Nat.mod_eq_of_lt h]
  · rintro rfl
    simp [Nat.mod_eq_of_lt h]
theorem byte34 (b : UInt8) : ((b.toNat : Int) = 34) ↔ b = 34 := byteN b 34 (by decide)
theorem byte92 (b : UInt8) : ((b.toNat : Int) = 92) ↔ b = 92 := byteN b 92 (by decide)
theorem byte44 (b : UInt8) : ((b.toNat : Int) = 44) ↔ b = 44 := byteN b 44 (by decide)
theorem byte32 (b : UInt8) : ((b.toNat : Int) = 32) ↔ b = 32 := byteN b 32 (by decide)
theorem byte9 (b : UInt8) : ((b.toNat : Int) = 9) ↔ b = 9 := byteN b 9 (by decide)
theorem wrapAdd {n : Nat} (k : Nat) (h : n + k < 9223372036854775808) : IntKind.wrap .i64 ((n : Int) + (k : Int)) = ((n + k : Nat) : Int) := by rw [wrap64] <;> omega
theorem wrapTwo {n : Nat} (h : n < 9223372036854775806) : IntKind.wrap .i64 ((n : Int) + 2) = ((n + 2 : Nat) : Int) := wrapAdd 2 (by omega)
section
variable {α : Type}
theorem cut_succ (s : List α) (d : α) {fr i : Nat} (h1 : fr ≤ i) (h2 : i < s.length) : cut s fr (i + 1) = cut s fr i ++ [s.getD i d] := by
  simp only [cut]
  have e : i + 1 - fr = (i - fr) + 1 := by omega
  rw [e, take_get (s.drop fr) d (by simp; omega)]
  congr 2
  simp only [List.getD_eq_getElem?_getD, List.getElem?_drop]
  rw [show fr + (i - fr) = i by omega]
@[simp] theorem cut_self (s : List α) (i : Nat) : cut s i i = [] := by simp [cut]
theorem cut_over (s : List α) {fr i : Nat} (h : s.length ≤ i) : cut s fr i = s.drop fr := by
  simp only [cut]; rw [List.take_of_length_le (by simp; omega)]
theorem length_cut (s : List α) {fr i : Nat} (h1 : fr ≤ i) (h2 : i ≤ s.length) : (cut s fr i).length = i - fr := by
  simp only [cut, List.length_take, List.length_drop]; omega
theorem length_cut_le (s : List α) (fr i : Nat) : (cut s fr i).length ≤ s.length := by
  simp only [cut, List.length_take, List.length_drop]; omega
end
end Go.Dp
namespace Go.Dp
theorem loop_ex {S R : Type} {l : Nat → S → Option R} (t : (S → Option R) → S → Option R) (hl : ∀ n x, l (n + 1) x = t (l n) x)
    (I : S → Prop) (m : S → Nat) (Q : R → Prop)
    (step : ∀ x rec, I x → (∀ y, I y → m y < m x → ∃ r, rec y = some r ∧ Q r) → ∃ r, t rec x = some r ∧ Q r) :
    ∀ n x, I x → m x < n → ∃ r, l n x = some r ∧ Q r := by
  intro n
  induction n with
  | zero => intro x _ h; omega
  | succ n ih =>
    intro x hI h
    rw [hl]
    exact step x (l n) hI fun y hy hm => ih y hy (by omega)
theorem idx_ex {S R : Type} {l : Nat → S → Option R} (t : (S → Option R) → S → Option R) (hl : ∀ n x, l (n + 1) x = t (l n) x)
    (N : Nat) (st : Nat → S) (I : Nat → Prop) (Q : R → Prop)
    (step : ∀ i rec, i ≤ N → I i → (i < N → I (i + 1) → ∃ r, rec (st (i + 1)) = some r ∧ Q r) → ∃ r, t rec (st i) = some r ∧ Q r) :
    ∀ n i, i ≤ N → N - i < n → I i → ∃ r, l n (st i) = some r ∧ Q r := by
  intro n
  induction n with
  | zero => intro x _ h; omega
  | succ n ih =>
    intro i hI h hi
    rw [hl]
    exact step i (l n) hI hi fun hy h2 => ih (i + 1) (by omega) (by omega) h2
section
universe u

/-! The usual rules, under short names. -/
theorem za' {α β : Type} (a : α) (f : α → Option β) : Option.bind (some a) f = f a := rfl
theorem zb' {α : Sort u} (a b : α) : (bif true then a else b) = a := rfl
theorem zc' {α : Sort u} (a b : α) : (bif false then a else b) = b := rfl
theorem zd' {h : Decidable True} : @decide True h = true := decide_true h
theorem ze' {h : Decidable False} : @decide False h = false := decide_false h
theorem zf' : (!true) = false := rfl
theorem zg' : (!false) = true := rfl
theorem zh' (b : Bool) : (true && b) = b := Bool.true_and b
theorem zi' (b : Bool) : (b && true) = b := Bool.and_true b
theorem zj' (b : Bool) : (b && false) = false := Bool.and_false b
theorem zk' (b : Bool) : (false && b) = false := Bool.false_and b
theorem zl' (n : Nat) : ((n : Int)).toNat = n := Int.toNat_natCast n
theorem zm' (n : Nat) : (0 : Int) ≤ (n : Int) := Int.natCast_nonneg n
theorem zn' {α : Sort u} {h : Decidable True} (a b : α) : @ite α True h a b = a := if_true a b
theorem zo' {α : Sort u} {h : Decidable False} (a b : α) : @ite α False h a b = b := if_false a b
theorem zp' : (false = true) = False := Bool.false_eq_true
theorem zq' : Int.toNat 0 = 0 := Int.toNat_zero
theorem zr' : ((0 : Nat) : Int) = 0 := Int.natCast_zero
theorem zs' : (¬ False) = True := not_false_eq_true
theorem zt' : (¬ True) = False := not_true_eq_false
end
end Go.Dp
/- Arguments and package-level variables of a row, as the small machine reads them. No condition. -/
set_option autoImplicit false
set_option linter.unusedVariables false
set_option linter.unusedSimpArgs false
namespace Go.Dp
open Go.WideShapes Go.ChangeShapes

/-! A type of the program is of a kind. -/
mutual
def okT (P : Program) : Nat → TypeId → Ty → Bool
  | 0, _, _ => false
  | d + 1, t, T => match P.underlying t, T with
    | some (.int k), .int k' => decide (k = k')
    | some .bool, .bool => true
    | some .string, .str => true
    | some (.slice e), .list E => okT P d e E && Nat.beq (P.cellsOf e) E.csize && Nat.blt 0 E.csize
    | some (.struct fs), .scons a r => Nat.beq (P.cellsOf t) (Ty.scons a r).csize && okFs P d fs.toList 0 (.scons a r)
    | _, _ => false
def okFs (P : Program) : Nat → List Field → Nat → Ty → Bool
  | _, [], _, .snil => true
  | 0, _ :: _, _, _ => false
  | d + 1, f :: fs, off, .scons a r => Nat.beq f.offset off && Nat.beq (P.cellsOf f.type) a.csize && okT P d f.type a && okFs P d fs (off + a.csize) r
  | _, _, _, _ => false
end

/-- What is known of an argument's numbers and lengths. -/
def vok : (t : Ty) → t.den → Prop
  | .int k, n => (Lit.int k n).wf = true
  | .str, s => s.length ≤ maxLen
  | .list e, xs => xs.length ≤ maxLen ∧ ∀ i (h : i < xs.length), vok e xs[i]
  | .scons a r, x => vok a x.1 ∧ vok r x.2
  | _, _ => True

theorem wf_bounds {k : IntKind} {n : Int} (h : (Lit.int k n).wf = true) : k.min ≤ n ∧ n ≤ k.max := by
  simpa [Lit.wf] using h

section
variable {H : Type} {enc : TypeId × Value → H} {P : Program} {w : World} {base : Nat} {spare : Nat → Bool} {held : Bool}

/-- All blocks of the world as it stands. -/
def oldU (w : World) (b : Nat) : Prop := b < w.heap.size

theorem cell_lt {b off : Nat} {v : Value} (h : w.cell? ⟨b, off, none⟩ = some v) : b < w.heap.size := by
  unfold World.cell? at h
  simp only at h
  split at h
  · rename_i hc
    rcases Nat.lt_or_ge b w.heap.size with h' | h'
    · exact h'
    · rw [Array.getElem?_eq_none (by omega)] at hc; cases hc
  · cases h

theorem lists_of {α : Type} (n : Nat) (p : (i : Nat) → i < n → α → Prop) (h : ∀ i (hi : i < n), ∃ x, p i hi x) : ∃ xs : List α, ∃ hl : xs.length = n, ∀ i (hi : i < xs.length), p i (by omega) xs[i] := by
  refine ⟨List.ofFn fun i : Fin n => Classical.choose (h i.1 i.2), by simp, fun i hi => ?_⟩
  have hi' : i < n := by simpa using hi
  rw [List.getElem_ofFn]
  exact Classical.choose_spec (h i hi')

theorem trod_enc : ∀ d : Nat,
    (∀ (fuel : Nat) (t : TypeId) (T : Ty) (cs : List Value) (x : DataW H × List MemPlace), okT P d t T = true → DataW.trod enc P w base spare held fuel t cs = some x → ∃ v : T.den, vok T v ∧ EncM w (oldU w) noB [] false T v cs) ∧
    (∀ (fuel : Nat) (fs : List Field) (off : Nat) (T : Ty) (pre m : List Value), okFs P d fs off T = true → pre.length = off → m.length = T.csize →
      (∀ f ∈ fs, ∃ y, DataW.trod enc P w base spare held fuel f.type (((pre ++ m).drop f.offset).take (P.cellsOf f.type)) = some y) → ∃ v : T.den, vok T v ∧ EncM w (oldU w) noB [] false T v m) := by
  intro d
  induction d with
  | zero =>
    refine ⟨fun fuel t T cs x h => by simp [okT] at h, fun fuel fs off T pre m h hp hm hf => ?_⟩
    cases fs with
    | nil => cases T <;> simp [okFs] at h; exact ⟨(), trivial, by simpa [EncM, Ty.csize] using hm⟩
    | cons f fs => simp [okFs] at h
  | succ d ih =>
    obtain ⟨ih1, ih2⟩ := ih
    refine ⟨fun fuel t T cs x h hx => ?_, fun fuel fs off T pre m h hp hm hf => ?_⟩
    · simp only [okT] at h
      split at h
      · rename_i k k' hu
        obtain rfl : k = k' := of_decide_eq_true h
        obtain ⟨n, rfl, _, hw⟩ := DataW.trod_int hu hx
        exact ⟨n, hw, by simp [EncM]⟩
      · rename_i hu
        obtain ⟨b, rfl, _⟩ := DataW.trod_bool hu hx
        exact ⟨b, trivial, by simp [EncM]⟩
      · rename_i hu
        obtain ⟨s, rfl, _, hs⟩ := DataW.trod_string hu hx
        exact ⟨s.data.toList, by simpa [vok] using hs, by simp [EncM]⟩
      · rename_i e E hu
        obtain ⟨h1, h2⟩ := Bool.and_eq_true_iff.1 h
        obtain ⟨h0, h1⟩ := Bool.and_eq_true_iff.1 h1
        have hcz : P.cellsOf e = E.csize := beqN h1
        have hpos : 0 < E.csize := bltN h2
        rcases DataW.trod_slice hu hx with ⟨rfl, _⟩ | ⟨a, len, cap, elems, rest, n, _, rfl, _, hb, hl, hm, hlen, hel, _, _⟩
        · exact ⟨[], ⟨by simp, fun i hi => absurd hi (by simp)⟩, by simp [EncM]⟩
        · have each : ∀ i (hi : i < len), ∃ v : E.den, vok E v ∧ ∃ cs, EncM w (oldU w) noB [] false E v cs ∧ w.cells? base (a.add (i * E.csize)) E.csize = some cs := by
            intro i hi
            have h3 := hel i hi
            rw [hcz, List.getElem?_eq_getElem (by omega), Option.bind_eq_some_iff] at h3
            obtain ⟨cs, h4, h5⟩ := h3
            obtain ⟨v, h6, h7⟩ := ih1 n e E cs _ h0 h5
            exact ⟨v, h6, cs, h7, h4⟩
          obtain ⟨xs, hxl, hxs⟩ := lists_of len _ each
          refine ⟨xs, ⟨by omega, fun i hi => (hxs i hi).1⟩, ?_⟩
          simp only [EncM]
          refine ⟨some a, cap, by rw [hxl], by omega, fun h0 => ?_⟩
          have hsp : a.spot = none := by
            obtain ⟨_, cs, _, h4⟩ := hxs 0 h0
            have h5 := (World.cells?_some h4).2.2 0 hpos
            rw [Nat.zero_mul] at h5
            have h6 : (a.add 0).add 0 = a := by simp [Addr.add]
            rw [h6] at h5
            have hl4 := (World.cells?_some h4).2.1
            rw [List.getElem?_eq_getElem (by omega)] at h5
            unfold World.cell? at h5
            split at h5
            · split at h5
              · cases h5
              · rename_i hs; simpa using hs
            · cases h5
          obtain ⟨ab, ao, asp⟩ := a
          simp only at hsp
          subst hsp
          have hcell : ∀ i (hi : i < xs.length), ∃ cs, EncM w (oldU w) noB [] false E xs[i] cs ∧ cellsAt w ab (ao + i * E.csize) cs := by
            intro i hi
            obtain ⟨_, cs, h3, h4⟩ := hxs i hi
            refine ⟨cs, h3, fun j hj => ?_⟩
            have hl4 := (World.cells?_some h4).2.1
            have h5 := (World.cells?_some h4).2.2 j (by omega)
            rw [List.getElem?_eq_getElem hj] at h5
            have h6 : ((⟨ab, ao, none⟩ : Addr).add (i * E.csize)).add j = ⟨ab, ao + i * E.csize + j, none⟩ := by
              unfold Addr.add
              by_cases e1 : i * E.csize = 0 <;> by_cases e2 : j = 0 <;> simp [e1, e2]
            rw [h6] at h5
            exact h5
          refine ⟨ab, ao, rfl, ?_, hcell⟩
          obtain ⟨cs, h3, h4⟩ := hcell 0 h0
          have h5 := h3.len
          exact cell_lt (h4 0 (by omega))
      · rename_i fs a r hu
        obtain ⟨h1, h2⟩ := Bool.and_eq_true_iff.1 h
        have hcz : P.cellsOf t = (Ty.scons a r).csize := beqN h1
        obtain ⟨xs, n, _, _, hl, hlen, hf⟩ := DataW.trod_struct hu hx
        refine ih2 n fs.toList 0 (.scons a r) [] cs h2 rfl (by omega) fun f hm => ?_
        obtain ⟨i, hi, hg⟩ := List.getElem_of_mem hm
        have hi' : i < fs.size := by simpa using hi
        have h3 := hf i f (by rw [Array.getElem?_eq_getElem hi', ← hg]; simp)
        rw [List.getElem?_eq_getElem (by omega)] at h3
        exact ⟨_, by simpa using h3⟩
      · cases h
    · cases fs with
      | nil => cases T <;> simp [okFs] at h; exact ⟨(), trivial, by simpa [EncM, Ty.csize] using hm⟩
      | cons f fs =>
        cases T with
        | scons a r =>
          simp only [okFs, Bool.and_eq_true] at h
          obtain ⟨⟨⟨h1, h2⟩, h3⟩, h4⟩ := h
          have ho : f.offset = off := beqN h1
          have hcz : P.cellsOf f.type = a.csize := beqN h2
          simp only [Ty.csize] at hm
          obtain ⟨y, hy⟩ := hf f List.mem_cons_self
          have e1 : ((pre ++ m).drop f.offset).take (P.cellsOf f.type) = m.take a.csize := by
            rw [ho, ← hp, List.drop_left, hcz]
          rw [e1] at hy
          obtain ⟨va, q1, q2⟩ := ih1 fuel f.type a _ y h3 hy
          obtain ⟨vr, q3, q4⟩ := ih2 fuel fs (off + a.csize) r (pre ++ m.take a.csize) (m.drop a.csize) h4 (by simp [hp]; omega) (by simp; omega) fun g hg => by
            obtain ⟨z, hz⟩ := hf g (List.mem_cons_of_mem _ hg)
            exact ⟨z, by rw [List.append_assoc, List.take_append_drop]; exact hz⟩
          refine ⟨(va, vr), ⟨q1, q3⟩, ?_⟩
          simp only [EncM]
          exact ⟨_, _, (List.take_append_drop a.csize m).symm, q2, q4⟩
        | _ => simp [okFs] at h

theorem arg_enc {d : Nat} {t : TypeId} {T : Ty} {v : Value} {x : DataW H} {ps : List MemPlace} {r : Reach} {b0 : Nat} (ok : okT P d t T = true) (hval : Value.okWide P w r b0 t v) (h : DataW.Trod enc P w base spare held t v x ps) :
    ∃ a : T.den, vok T a ∧ aggV v = T.isAgg ∧ EncM w (oldU w) noB [] false T a v.cells.toList := by
  obtain ⟨fuel, hf⟩ := h
  obtain ⟨a, h1, h2⟩ := (trod_enc d).1 fuel t T _ _ ok hf
  refine ⟨a, h1, ?_, h2⟩
  cases d with
  | zero => simp [okT] at ok
  | succ d =>
    simp only [okT] at ok
    split at ok
    · rename_i hu; obtain ⟨n, rfl⟩ := okWide_int hu hval; rfl
    · rename_i hu; obtain ⟨n, rfl⟩ := okWide_bool hu hval; rfl
    · rename_i hu; obtain ⟨n, rfl⟩ := okWide_string hu hval; rfl
    · rename_i hu; obtain ⟨_, _, _, rfl⟩ := okWide_slice hu hval; rfl
    · rename_i hu
      simp only [Value.okWide, hu] at hval
      obtain ⟨cs, rfl, _⟩ := hval
      rfl
    · cases ok
end

section
variable {w : World} {U : Nat → Prop} {β : Nat → Blk} {H : Heap}
theorem encT_nil : EncM w U β H true .snil () [] := by simp only [EncM]
theorem encT_arg {T R : Ty} {a : T.den} {x : R.den} {v : Value} {l : List Value} (h1 : aggV v = T.isAgg) (h2 : EncM w U β H false T a v.cells.toList) (h : EncM w U β H true R x l) : EncM w U β H true (.scons T R) (a, x) (v :: l) := by
  simp only [EncM]; exact ⟨_, _, rfl, .inr ⟨h1, h2⟩, h⟩
end
end Go.Dp
namespace Go.Dp
open Go.WideShapes Go.ChangeShapes

/-! What the program's text lays. -/
def chainD {H : Type} (T : Ty) (l : List (DataW H)) : DataW H :=
  match T with
  | .scons _ _ => .agg l
  | .snil => .agg l
  | _ => l.headD .nil
def toDs {H : Type} : (T : Ty) → T.den → List (DataW H)
  | .int k, n => [.lit (.int k n)]
  | .bool, b => [.lit (.bool b)]
  | .str, s => [.lit (.string s)]
  | .arr _ e, xs => [.agg (List.map (fun x => chainD e (toDs e x)) xs)]
  | .scons a r, x => chainD a (toDs a x.1) :: toDs r x.2
  | _, _ => []
def toD {H : Type} (T : Ty) (x : T.den) : DataW H := chainD T (toDs T x)
theorem toD_arr {H : Type} (n : Nat) (e : Ty) (xs : List e.den) : (toD (.arr n e) xs : DataW H) = .agg (xs.map (toD e)) := rfl
theorem toD_scons {H : Type} (a r : Ty) (x : a.den × r.den) : (toD (.scons a r) x : DataW H) = .agg (toD a x.1 :: toDs r x.2) := rfl
theorem toDs_scons {H : Type} (a r : Ty) (x : a.den × r.den) : (toDs (.scons a r) x : List (DataW H)) = toD a x.1 :: toDs r x.2 := rfl
theorem toD_int {H : Type} (k : IntKind) (n : Int) : (toD (.int k) n : DataW H) = .lit (.int k n) := rfl
theorem toD_bool {H : Type} (b : Bool) : (toD .bool b : DataW H) = .lit (.bool b) := rfl
theorem toD_str {H : Type} (s : List UInt8) : (toD .str s : DataW H) = .lit (.string s) := rfl

mutual
def okG (P : Program) : Nat → TypeId → Ty → Bool
  | 0, _, _ => false
  | d + 1, t, T => match P.underlying t, T with
    | some (.int k), .int k' => decide (k = k')
    | some .bool, .bool => true
    | some .string, .str => true
    | some (.array n e), .arr m E => Nat.beq n m && okG P d e E && Nat.beq (P.cellsOf e) E.csize && Nat.beq (P.cellsOf t) (n * E.csize) && E.pure
    | some (.struct fs), .scons a r => Nat.beq (P.cellsOf t) (Ty.scons a r).csize && okGs P d fs.toList 0 (.scons a r)
    | _, _ => false
def okGs (P : Program) : Nat → List Field → Nat → Ty → Bool
  | _, [], _, .snil => true
  | 0, _ :: _, _, _ => false
  | d + 1, f :: fs, off, .scons a r => Nat.beq f.offset off && Nat.beq (P.cellsOf f.type) a.csize && okG P d f.type a && okGs P d fs (off + a.csize) r
  | _, _, _, _ => false
end

section
variable {H : Type} {enc : TypeId × Value → H} {P : Program} {w : World} {base : Nat} {spare : Nat → Bool} {held : Bool} {U : Nat → Prop} {β : Nat → Blk} {Hp : Heap}

theorem flat_enc : ∀ d : Nat,
    (∀ (fuel : Nat) (t : TypeId) (T : Ty) (cs : List Value) (x : T.den) (ps : List MemPlace), okG P d t T = true → DataW.trod enc P w base spare held fuel t cs = some (toD T x, ps) → EncM w U β Hp false T x cs) ∧
    (∀ (fuel : Nat) (fs : List Field) (off : Nat) (T : Ty) (pre m : List Value) (x : T.den), okGs P d fs off T = true → pre.length = off → m.length = T.csize →
      (∀ (i : Nat) (f : Field), fs[i]? = some f → ∃ y q, DataW.trod enc P w base spare held fuel f.type (((pre ++ m).drop f.offset).take (P.cellsOf f.type)) = some (y, q) ∧ (toDs T x)[i]? = some y) → EncM w U β Hp false T x m) := by
  intro d
  induction d with
  | zero =>
    refine ⟨fun fuel t T cs x ps h => by simp [okG] at h, fun fuel fs off T pre m x h hp hm hf => ?_⟩
    cases fs with
    | nil => cases T <;> simp [okGs] at h; simpa [EncM, Ty.csize] using hm
    | cons f fs => simp [okGs] at h
  | succ d ih =>
    obtain ⟨ih1, ih2⟩ := ih
    refine ⟨fun fuel t T cs x ps h hx => ?_, fun fuel fs off T pre m x h hp hm hf => ?_⟩
    · simp only [okG] at h
      split at h
      · rename_i k k' hu
        obtain rfl : k = k' := of_decide_eq_true h
        obtain ⟨n, rfl, e, hw⟩ := DataW.trod_int hu hx
        simp only [toD_int, Prod.mk.injEq, DataW.lit.injEq, Lit.int.injEq] at e
        simp [EncM, e.1.2]
      · rename_i hu
        obtain ⟨b, rfl, e⟩ := DataW.trod_bool hu hx
        simp only [toD_bool, Prod.mk.injEq, DataW.lit.injEq, Lit.bool.injEq] at e
        simp [EncM, e.1]
      · rename_i hu
        obtain ⟨s, rfl, e, hs⟩ := DataW.trod_string hu hx
        simp only [toD_str, Prod.mk.injEq, DataW.lit.injEq, Lit.string.injEq] at e
        simp [EncM, e.1]
      · rename_i n e m E hu
        obtain ⟨h1, h5⟩ := Bool.and_eq_true_iff.1 h
        obtain ⟨h1, h4⟩ := Bool.and_eq_true_iff.1 h1
        obtain ⟨h1, h3⟩ := Bool.and_eq_true_iff.1 h1
        obtain ⟨h1, h2⟩ := Bool.and_eq_true_iff.1 h1
        obtain rfl : n = m := beqN h1
        have hcz : P.cellsOf e = E.csize := beqN h3
        obtain ⟨xs, q, _, ex, hl, hlen, hel⟩ := DataW.trod_array hu hx
        simp only [toD_arr, Prod.mk.injEq, DataW.agg.injEq] at ex
        have hxl : x.length = n := by
          have := congrArg List.length ex.1
          simp only [List.length_map] at this
          change List.length x = _ at this
          omega
        simp only [EncM]
        refine ⟨h5, by rw [hl]; exact beqN h4, hxl, fun i hi => ?_⟩
        have h6 := hel i (by change i < List.length x at hi; omega)
        rw [hcz] at h6
        have h7 : xs[i]? = some (toD E x[i], (xs[i]'(by change i < List.length x at hi; omega)).2) := by
          have h8 := congrArg (fun l => l[i]?) ex.1
          simp only [List.getElem?_map] at h8
          have hi2 : i < xs.length := by change i < List.length x at hi; omega
          rw [List.getElem?_eq_getElem hi2] at h8 ⊢
          have h9 : (x : List E.den)[i]? = some x[i] := List.getElem?_eq_getElem hi
          rw [h9] at h8
          simp only [Option.map_some, Option.some.injEq] at h8
          rw [h8]
        rw [h7] at h6
        exact ih1 q e E _ _ _ h2 h6
      · rename_i fs a r hu
        obtain ⟨h1, h2⟩ := Bool.and_eq_true_iff.1 h
        have hcz : P.cellsOf t = (Ty.scons a r).csize := beqN h1
        obtain ⟨xs, n, _, ex, hl, hlen, hf⟩ := DataW.trod_struct hu hx
        simp only [toD_scons, Prod.mk.injEq, DataW.agg.injEq] at ex
        refine ih2 n fs.toList 0 (.scons a r) [] cs x h2 rfl (by omega) fun i f hm => ?_
        have hi' : i < fs.size := by
          have := (List.getElem?_eq_some_iff.1 hm).1
          simpa using this
        have h3 := hf i f (by simpa using hm)
        have hi2 : i < xs.length := by omega
        rw [List.getElem?_eq_getElem hi2] at h3
        refine ⟨xs[i].1, xs[i].2, by simpa using h3, ?_⟩
        have h8 := congrArg (fun l => l[i]?) ex.1
        simp only [List.getElem?_map] at h8
        rw [List.getElem?_eq_getElem hi2] at h8
        rw [toDs_scons]
        exact h8
      · cases h
    · cases fs with
      | nil => cases T <;> simp [okGs] at h; simpa [EncM, Ty.csize] using hm
      | cons f fs =>
        cases T with
        | scons a r =>
          simp only [okGs, Bool.and_eq_true] at h
          obtain ⟨⟨⟨h1, h2⟩, h3⟩, h4⟩ := h
          have ho : f.offset = off := beqN h1
          have hcz : P.cellsOf f.type = a.csize := beqN h2
          simp only [Ty.csize] at hm
          obtain ⟨y, q, hy, hd⟩ := hf 0 f rfl
          have e1 : ((pre ++ m).drop f.offset).take (P.cellsOf f.type) = m.take a.csize := by
            rw [ho, ← hp, List.drop_left, hcz]
          rw [e1] at hy
          rw [toDs_scons] at hd
          simp only [List.getElem?_cons_zero, Option.some.injEq] at hd
          subst hd
          have q2 := ih1 fuel f.type a _ x.1 _ h3 hy
          have q4 := ih2 fuel fs (off + a.csize) r (pre ++ m.take a.csize) (m.drop a.csize) x.2 h4 (by simp [hp]; omega) (by simp; omega) fun i g hg => by
            obtain ⟨z, q', hz, hd⟩ := hf (i + 1) g (by simpa using hg)
            exact ⟨z, q', by rw [List.append_assoc, List.take_append_drop]; exact hz, by rw [toDs_scons] at hd; simpa using hd⟩
          simp only [EncM]
          exact ⟨_, _, (List.take_append_drop a.csize m).symm, q2, q4⟩
        | _ => simp [okGs] at h
end

theorem laid_mem {P : Program} {w : World} : ∀ {l : List (String × DataW Unit)} {ps : List MemPlace} {n : String} {d : DataW Unit}, DataW.LaidVars P w l ps → (n, d) ∈ l →
    ∃ g t cs fuel p, P.globalNamed n = some g ∧ (P.globals[g]?).map (·.type) = some t ∧ w.var? P n = some cs ∧ DataW.trod (fun _ => ()) P w 0 (fun _ => true) false fuel t cs.toList = some (d, p) := by
  intro l
  induction l with
  | nil => intro ps n d _ hm; cases hm
  | cons x l ih =>
    intro ps n d h hm
    obtain ⟨m, e⟩ := x
    obtain ⟨g, t, cs, fuel, p, q, h1, h2, h3, h4, h5, _⟩ := h
    rcases List.mem_cons.1 hm with hm | hm
    · cases hm; exact ⟨g, t, cs, fuel, p, h1, h2, h3, h4⟩
    · exact ih h5 hm

theorem glob_enc {P : Program} {w : World} {laid : List (String × DataW Unit)} {n : String} {d : DataW Unit} {g : Nat} {t : TypeId} {T : Ty} {x : T.den} {dep : Nat} (hL : laidMet P laid w) (hm : (n, d) ∈ laid) (hd : d = toD T x) (hg : P.globalNamed n = some g)
    (ht : (P.globals[g]?).map (·.type) = some t) (ok : okG P dep t T = true) : GlobAt w (oldU w) noB [] g ⟨.ref T, x⟩ := by
  obtain ⟨ps, hl, _⟩ := hL
  obtain ⟨g', t', cs, fuel, p, h1, h2, h3, h4⟩ := laid_mem hl hm
  rw [hg] at h1
  cases h1
  rw [ht] at h2
  cases h2
  subst hd
  have hE := (flat_enc (U := oldU w) (β := noB) (Hp := []) dep).1 fuel t T _ x p ok h4
  unfold World.var? at h3
  rw [hg] at h3
  simp only [Option.bind_some] at h3
  split at h3
  · rename_i c2 el fr hc
    cases h3
    refine ⟨?_, cs, el, fr, hc, by rw [← Array.length_toList]; exact hE.len⟩
    simp only [EncM]
    refine ⟨g, 0, cs.toList, rfl, ?_, hE, fun j hj => ?_⟩
    · rcases Nat.lt_or_ge g w.heap.size with h' | h'
      · exact h'
      · rw [Array.getElem?_eq_none (by omega)] at hc; cases hc
    · simp only [World.cell?, hc, Nat.zero_add]
      simp
  · cases h3
end Go.Dp
namespace Go.Dp
theorem GlobOK.nil {w : World} {U : Nat → Prop} : GlobOK [] w U := fun g x e => .inl (by subst e; rfl)
theorem GlobOK.cons {w : World} {U : Nat → Prop} {g : Nat} {x : TV} {l : List (Nat × TV)} (hp : x.t.pure = true) (ha : x.t.isAgg = false) (he : GlobAt w U noB [] g x) (h : GlobOK l w U) : GlobOK ((g, x) :: l) w U := by
  intro g' y e
  simp only [lookTV] at e
  cases hb : Nat.beq g g' with
  | true =>
    rw [hb] at e
    obtain rfl := beqN hb
    simp only [cond_true] at e
    subst e
    exact .inr ⟨hp, ha, he⟩
  | false =>
    rw [hb] at e
    exact h g' y e
end Go.Dp
/- A program without a go statement starts no goroutine. No condition. -/
set_option autoImplicit false
namespace Go.Dp
open Go
theorem goes_none {P : Program} {c : OpenClaim} (h : P.funcs.toList.all (fun fn => !fn.goes) = true) (hs : c.start = .entering) : false = c.goesBy P := by
  have h1 : ∀ fn ∈ P.funcs.toList, fn.goes = false := fun fn hm => by simpa using List.all_eq_true.1 h fn hm
  have h2 : ∀ g : Nat, (P.funcs[g]?).any Func.goes = false := by
    intro g
    cases hg : P.funcs[g]? with
    | none => rfl
    | some fn => simpa using h1 fn (Array.mem_toList_iff.2 (Array.mem_of_getElem? hg))
  have h3 : P.funcs.any Func.goes = false := by
    rw [← Array.any_toList]
    exact List.any_eq_false.2 fun fn hm => by rw [h1 fn hm]; simp
  have h4 : ∀ f, P.goes f = false := by
    intro f
    unfold Program.goes
    rw [h3]
    simp [h2]
  unfold OpenClaim.goesBy Program.goesAt Program.goesFrom
  rw [hs]
  cases P.funcNamed c.func <;> simp [h4]
end Go.Dp
/- The closed machine: concrete values, its own memory, functions read out of the program itself. Definitions. -/
set_option autoImplicit false
set_option linter.unusedVariables false
namespace Go.Cm
open Go
noncomputable section

/-- A failure, with a number that only helps to find its place. -/
def fl {α : Type} (_ : Nat) : Option α := none

inductive Tr (α : Type) where
  | lf
  | nd (v : Option α) (l r : Tr α)

namespace Tr
variable {α : Type}
def get (t : Tr α) : Nat → Option α :=
  Tr.rec (motive := fun _ => Nat → Option α) (fun _ => none)
    (fun v _ _ gl gr i => Nat.rec v (fun i _ => Bool.rec (gr (Nat.div i 2)) (gl (Nat.div i 2)) (Nat.beq (Nat.mod i 2) 0)) i) t
def setF (n : Nat) : Tr α → Nat → α → Tr α :=
  Nat.rec (motive := fun _ => Tr α → Nat → α → Tr α)
    (fun t _ x => Tr.rec (.nd (some x) .lf .lf) (fun _ l r _ _ => .nd (some x) l r) t)
    (fun _ F t i x => Nat.rec (Tr.rec (.nd (some x) .lf .lf) (fun _ l r _ _ => .nd (some x) l r) t)
      (fun i _ => Tr.rec (Bool.rec (.nd none .lf (F .lf (Nat.div i 2) x)) (.nd none (F .lf (Nat.div i 2) x) .lf) (Nat.beq (Nat.mod i 2) 0))
        (fun v l r _ _ => Bool.rec (.nd v l (F r (Nat.div i 2) x)) (.nd v (F l (Nat.div i 2) x) r) (Nat.beq (Nat.mod i 2) 0)) t) i) n
def set (t : Tr α) (i : Nat) (x : α) : Tr α := setF i t i x
def odds : List α → List α
  | [] => []
  | [_] => []
  | _ :: b :: l => b :: odds l
def evens : List α → List α
  | [] => []
  | a :: l => a :: odds l
def mkF : Nat → List α → Tr α
  | 0, _ => .lf
  | _ + 1, [] => .lf
  | n + 1, a :: l => .nd (some a) (mkF n (evens l)) (mkF n (odds l))
def mk (l : List α) : Tr α := mkF l.length l
end Tr

inductive CV where
  | u
  | nil
  | cons (a r : CV)
  | b (x : Bool)
  | i (k : IntKind) (n : Int)
  | s (x : List UInt8)
  | np
  | p (id off : Nat)
  | ns
  | sl (id off k len : Nat) (c : Option Nat)
  | nm
  | m (id : Nat)
  | nf
  | f (fn : Nat) (first caps : CV)
  | ni
  | ifc (t : Nat) (v : CV)
  | agg (c : CV)
  | tup (c : CV)

/-- Chains. -/
def CV.len : CV → Nat
  | .cons _ r => r.len + 1
  | _ => 0
def CV.at : CV → Nat → Option CV
  | .cons a _, 0 => some a
  | .cons _ r, n + 1 => r.at n
  | _, _ => none
def CV.app : CV → CV → CV
  | .cons a r, y => .cons a (r.app y)
  | _, y => y
def CV.drop : Nat → CV → CV
  | 0, c => c
  | n + 1, .cons _ r => r.drop n
  | _ + 1, c => c
def CV.take : Nat → CV → CV
  | 0, _ => .nil
  | n + 1, .cons a r => .cons a (r.take n)
  | _ + 1, _ => .nil
/-- Cells from a place on are replaced. -/
def CV.splice : Nat → CV → CV → CV
  | 0, y, c => match y with
    | .cons b1 y => (match c with
      | .cons _ r => .cons b1 (CV.splice 0 y r)
      | c => c)
    | _ => c
  | n + 1, y, .cons a r => .cons a (CV.splice n y r)
  | _ + 1, _, c => c
def ofL : List CV → CV
  | [] => .nil
  | x :: l => .cons x (ofL l)
def CV.toL : CV → List CV
  | .cons a r => a :: r.toL
  | _ => []

/-- The value of one cell. -/
def CV.leaf : CV → Bool
  | .u => false
  | .nil => false
  | .cons _ _ => false
  | .agg _ => false
  | .tup _ => false
  | _ => true
def CV.leaves : CV → Bool
  | .nil => true
  | .cons a r => a.leaf && r.leaves
  | _ => false
/-- A value's cells. -/
def CV.cells : CV → Option CV
  | .agg c => bif c.leaves then some c else none
  | x => bif x.leaf then some (.cons x .nil) else none

def ofLeaf : Value → CV
  | .bool x => .b x
  | .int k n => .i k n
  | .string x => .s x.data.toList
  | .pointer none => .np
  | .slice none 0 0 => .ns
  | .map none => .nm
  | .nilFunc => .nf
  | .nilIface => .ni
  | _ => .u
def ofCells : List Value → CV
  | [] => .nil
  | v :: l => .cons (ofLeaf v) (ofCells l)
def ofV : Value → CV
  | .agg cs => .agg (ofCells cs.toList)
  | v => ofLeaf v

inductive CO where
  | none
  | cells (el : Nat) (cs : Tr CV) (n : Nat) (opn : Option Nat) (fz : Nat)
  | map (es : List (CV × CV))
  | it (s : List UInt8) (pos : Nat)
  | num

structure St where
  rg : Tr CV
  hp : Tr CO
  nx : Nat
  lim : Nat
  rl : List Nat
  wl : List Nat
  df : List CV

def gR (t : Tr CV) (i : Nat) : CV := match t.get i with | some x => x | none => .u
def gO (t : Tr CO) (i : Nat) : CO := match t.get i with | some x => x | none => .none
def St.reg (s : St) (i : Nat) : CV := gR s.rg i
def St.obj (s : St) (id : Nat) : CO := gO s.hp id
def add (id : Nat) (l : List Nat) : List Nat := bif Dp.memN l id then l else id :: l
def St.lr (s : St) (id : Nat) : St := match s with
  | ⟨rg, hp, nx, lim, rl, wl, df⟩ => bif Nat.blt id lim then ⟨rg, hp, nx, lim, add id rl, wl, df⟩ else ⟨rg, hp, nx, lim, rl, wl, df⟩
def St.put (s : St) (id : Nat) (o : CO) : St := match s with
  | ⟨rg, hp, nx, lim, rl, wl, df⟩ => bif Nat.blt id lim then ⟨rg, hp.set id o, nx, lim, rl, add id wl, df⟩ else ⟨rg, hp.set id o, nx, lim, rl, wl, df⟩
def St.new (s : St) (o : CO) : St := match s with
  | ⟨rg, hp, nx, lim, rl, wl, df⟩ => ⟨rg, hp.set nx o, Nat.succ nx, lim, rl, wl, df⟩
def St.set (s : St) (i : Nat) (x : CV) : St := match s with
  | ⟨rg, hp, nx, lim, rl, wl, df⟩ => ⟨rg.set i x, hp, nx, lim, rl, wl, df⟩

/-- Functions that are not walked. -/
inductive Sp where
  | pure (F : CV → Option CV)
  | mkz (e : Nat)
  | row (F : List UInt8 → Option CV)
  | mkr (F : CV → Option CV)
  | gpure (g : Nat) (F : CV → Option CV)
  | rowS (F : List (List UInt8) → CV → Option CV)

structure Ctx where
  P : Program
  tt : Tr TypeInfo
  ft : Tr Func
  gl : List (Nat × CV)
  sp : List (Nat × Sp)
  K : Nat

def Ctx.ti (C : Ctx) (t : Nat) : Option TypeInfo := C.tt.get t
def Ctx.und (C : Ctx) (t : Nat) : Option TypeDesc :=
  match C.ti t with
  | some i => match i.desc with
    | .named _ u => (C.ti u).map (·.desc)
    | d => some d
  | none => none
def Ctx.sz (C : Ctx) (t : Nat) : Nat := match C.ti t with | some i => i.size | none => 0
def Ctx.ag (C : Ctx) (t : Nat) : Option Bool :=
  match C.und t with
  | some (.struct _) => some true
  | some (.array _ _) => some true
  | some _ => some false
  | none => none
def Ctx.zero (C : Ctx) (t : Nat) : Option CV := match C.ti t with
  | some i => match i.zero with
    | some v => some (ofV v)
    | none => none
  | none => none

abbrev Res := Option (CV × St)

/-! Numbers that are worked out at once. -/
def fN {β : Type} (n : Nat) (k : Nat → β) : β := match n with | 0 => k 0 | n + 1 => k (n + 1)
def fI {β : Type} (n : Int) (k : Int → β) : β := match n with | .ofNat m => fN m fun m => k (.ofNat m) | .negSucc m => fN m fun m => k (.negSucc m)
def fB {β : Type} (x : UInt8) (k : UInt8 → β) : β := fN x.toNat fun n => k (UInt8.ofNat n)
def fS {β : Type} : List UInt8 → (List UInt8 → β) → β
  | [], k => k []
  | a :: l, k => fB a fun a => fS l fun l => k (a :: l)
def pI (k : IntKind) (n : Int) (s : St) : Res := fI n fun n => some (.i k n, s)
def pS (x : List UInt8) (s : St) : Res := fS x fun x => some (.s x, s)
def pB (x : Bool) (s : St) : Res := match x with | true => some (.b true, s) | false => some (.b false, s)

def gl1 (l : List (Nat × CV)) (g : Nat) : CV := match Dp.look l g with | some x => x | none => .u
def ev (C : Ctx) (s : St) (x : Operand) : CV :=
  Operand.rec (motive := fun _ => CV) (fun i => gR s.rg i) (fun v => ofV v) (fun g => gl1 C.gl g) (fun f => .f f .nil .nil) x

def rdN (cs : Tr CV) : Nat → Nat → CV
  | _, 0 => .nil
  | off, n + 1 => .cons (gR cs off) (rdN cs (off + 1) n)
def wrN (cs : Tr CV) : Nat → CV → Tr CV
  | off, .cons a r => wrN (cs.set off a) (off + 1) r
  | _, _ => cs

def loadC (C : Ctx) (s : St) (t : Nat) (x : CV) : Res :=
  match x with
  | .p id off => match s.obj id with
    | .cells el cs n _ _ => match C.ag t with
      | some true => bif Nat.ble (off + C.sz t) n then some (.agg (rdN cs off (C.sz t)), s.lr id) else fl 1
      | some false => bif Nat.blt off n then some (gR cs off, s.lr id) else fl 2
      | none => fl 3
    | _ => fl 4
  | _ => fl 5

/-- Cells are written. -/
def putC (s : St) (id off : Nat) (y : CV) : Option St :=
  match s.obj id with
  | .cells el cs n opn fz => bif Nat.ble (off + y.len) n && Nat.ble fz off then some (s.put id (.cells el (wrN cs off y) n opn fz)) else fl 6
  | _ => fl 7

def storeC (C : Ctx) (s : St) (t : Nat) (x y : CV) : Option St :=
  match x with
  | .p id off => match y.cells with
    | some c => (match C.ti t with | some i => bif Nat.beq c.len i.size then putC s id off c else fl 8 | none => fl 8)
    | none => fl 9
  | _ => fl 10

/-- A new row of cells. -/
def newC (s : St) (el : Nat) (c : CV) (opn : Option Nat) : St := s.new (.cells el (Tr.mk c.toL) c.len opn 0)

def allocC (s : St) (el : Nat) (y : CV) : Res :=
  match y.cells with
  | some c => some (.p s.nx 0, newC s el c none)
  | none => fl 11

def fillC (place : Nat → Option (Nat × Nat)) (ev : Operand → CV) : CV → List (Nat × Operand) → Option CV
  | c, [] => some c
  | c, (i, x) :: r => match place i with
    | some (off, size) => match (ev x).cells with
      | some y => bif Nat.beq y.len size && Nat.ble (off + size) c.len then fillC place ev (CV.splice off y c) r else fl 12
      | none => fl 13
    | none => fl 14

def buildC (C : Ctx) (s : St) (t : Nat) (parts : List (Nat × Operand)) : Res :=
  match C.zero t with
  | some (.agg z) => match C.und t with
    | some (.struct fs) => bif fs.toList.all (fun f => (C.ti f.type).isSome) then (match fillC (fun i => match fs[i]? with | some f => some (f.offset, C.sz f.type) | none => none) (ev C s) z parts with
      | some c => bif c.leaves then some (.agg c, s) else fl 15
      | none => none) else fl 215
    | some (.array _ e) => bif (C.ti e).isSome then (match fillC (fun i => some (i * C.sz e, C.sz e)) (ev C s) z parts with
      | some c => bif c.leaves then some (.agg c, s) else fl 16
      | none => none) else fl 216
    | _ => fl 17
  | _ => fl 18

def repC : Nat → CV → CV → CV
  | 0, _, e => e
  | n + 1, z, e => z.app (repC n z e)

def buildSliceC (C : Ctx) (s : St) (t len : Nat) (parts : List (Nat × Operand)) : Res :=
  match C.und t with
  | some (.slice e) => match C.zero e with
    | some z => match z.cells with
      | some zc => bif Nat.beq zc.len (C.sz e) && Nat.blt 0 (C.sz e) && Nat.ble (len * C.sz e) 16777216 then
          (match fillC (fun i => some (i * C.sz e, C.sz e)) (ev C s) (repC len zc .nil) parts with
          | some c => bif c.leaves then some (.sl s.nx 0 0 len (some len), newC s e c none) else fl 19
          | none => none) else fl 20
      | none => fl 21
    | none => fl 22
  | _ => fl 23

def sEq : List UInt8 → List UInt8 → Bool
  | [], [] => true
  | a :: l, b :: r => Nat.beq a.toNat b.toNat && sEq l r
  | _, _ => false
def sLt : List UInt8 → List UInt8 → Bool
  | _, [] => false
  | [], _ :: _ => true
  | a :: l, b :: r => Nat.blt a.toNat b.toNat || (Nat.beq a.toNat b.toNat && sLt l r)

def partV (C : Ctx) (t : Nat) (c : CV) (off : Nat) : Option CV :=
  match C.ag t with
  | some true => bif Nat.ble (off + C.sz t) c.len then some (.agg ((c.drop off).take (C.sz t))) else fl 72
  | some false => (match c.at off with
    | some v => some v
    | none => fl 73)
  | none => fl 74

mutual
/-- `==` -/
def eqC (C : Ctx) : Nat → Nat → CV → CV → Option Bool
  | 0, _, _, _ => fl 24
  | d + 1, t, x, y => match C.und t, x, y with
    | some .bool, .b x, .b y => some (x == y)
    | some (.int _), .i k x, .i k' y => bif decide (k = k') then some (decide (x = y)) else fl 25
    | some .string, .s x, .s y => some (sEq x y)
    | some (.pointer _), .np, .np => some true
    | some (.pointer _), .np, .p _ _ => some false
    | some (.pointer _), .p _ _, .np => some false
    | some (.pointer e), .p i a, .p j b => bif Nat.beq i j && Nat.blt 0 (C.sz e) then some (Nat.beq a b) else fl 26
    | some (.slice _), .ns, .ns => some true
    | some (.slice _), .ns, .sl .. => some false
    | some (.slice _), .sl .., .ns => some false
    | some (.interface _), .ni, .ni => some true
    | some (.interface _), .ni, .ifc _ _ => some false
    | some (.interface _), .ifc _ _, .ni => some false
    | some (.struct fs), .agg x, .agg y => bif C.P.stoodInHeld t then fl 27 else bif fs.toList.all (fun f => f.name != "_") then eqFs C d fs.toList x y else fl 217
    | _, _, _ => fl 28
def eqFs (C : Ctx) : Nat → List Field → CV → CV → Option Bool
  | _, [], _, _ => some true
  | 0, _ :: _, _, _ => fl 29
  | d + 1, f :: fs, x, y => match partV C f.type x f.offset, partV C f.type y f.offset with
    | some a, some b => (match eqC C d f.type a b with
      | some true => eqFs C d fs x y
      | some false => some false
      | none => none)
    | _, _ => fl 30
end

def ibits (op : BinOp) (k : IntKind) (x y : Int) : Int := Dp.ibits op k x y

def neg1 : Option Bool → Option Bool
  | some b => some (!b)
  | none => none
def oB (x : Option Bool) (s : St) : Res := match x with | some b => pB b s | none => none

/-- The literal nil. -/
def isC : Operand → Bool
  | .const _ => true
  | _ => false

def eqPair (x y : CV) (lit g : Bool) : Bool := match x, y with
  | .b _, .b _ => true
  | .np, .np => true
  | .np, .p _ _ => true
  | .p _ _, .np => true
  | .p _ _, .p _ _ => true
  | .ns, .ns => true
  | .ns, .sl .. => true
  | .sl .., .ns => true
  | .ni, .ni => lit
  | .ni, .ifc _ _ => true
  | .ifc _ _, .ni => true
  | .agg _, .agg _ => g
  | _, _ => false

def binC (C : Ctx) (s : St) (op : BinOp) (t : Nat) (lit : Bool) (x y : CV) : Res :=
  match x, y with
  | .i a x, .i b y => match op with
    | .shl => bif decide (y < 0) then fl 32 else pI a (a.wrap (x * 2 ^ (min y.toNat a.bits))) s
    | .shr => bif decide (y < 0) then fl 33 else pI a (x.fdiv (2 ^ (min y.toNat a.bits))) s
    | op => bif decide (a = b) then (match op with
      | .add => pI a (a.wrap (x + y)) s
      | .sub => pI a (a.wrap (x - y)) s
      | .mul => pI a (a.wrap (x * y)) s
      | .quo => bif decide (y = 0) then fl 34 else pI a (a.wrap (x.tdiv y)) s
      | .rem => bif decide (y = 0) then fl 35 else pI a (x.tmod y) s
      | .and => pI a (ibits .and a x y) s
      | .or => pI a (ibits .or a x y) s
      | .xor => pI a (ibits .xor a x y) s
      | .andNot => pI a (ibits .andNot a x y) s
      | .eql => pB (decide (x = y)) s
      | .neq => pB (!decide (x = y)) s
      | .lss => pB (decide (x < y)) s
      | .leq => pB (decide (x ≤ y)) s
      | .gtr => pB (decide (x > y)) s
      | .geq => pB (decide (x ≥ y)) s
      | _ => fl 36) else fl 37
  | .s x, .s y => match op with
    | .add => bif Nat.ble (x.length + y.length) Dp.maxRoom then pS (x ++ y) s else fl 38
    | .eql => pB (sEq x y) s
    | .neq => pB (!sEq x y) s
    | .lss => pB (sLt x y) s
    | .leq => pB (sLt x y || sEq x y) s
    | .gtr => pB (!(sLt x y || sEq x y)) s
    | .geq => pB (!sLt x y) s
    | _ => fl 39
  | x, y => bif eqPair x y lit (!C.P.eqGuardType C.P.depth t) then (match op with
    | .eql => oB (eqC C 100 t x y) s
    | .neq => oB (neg1 (eqC C 100 t x y)) s
    | _ => fl 40) else fl 41

def unC (s : St) (op : UnOp) (x : CV) : Res :=
  match op, x with
  | .not, .b b => pB (!b) s
  | .neg, .i k n => pI k (k.wrap (0 - n)) s
  | .xor, .i k n => pI k (ibits .xor k (if k.signed then -1 else k.max) n) s
  | _, _ => fl 42

/-- The bytes of a row. -/
def bytesN : CV → Option (List UInt8)
  | .cons (.i .u8 n) r => match bytesN r with
    | some l => some (UInt8.ofNat n.toNat :: l)
    | none => none
  | .nil => some []
  | _ => fl 43
def ofBytes : List UInt8 → CV
  | [] => .nil
  | b :: l => .cons (.i .u8 (b.toNat : Int)) (ofBytes l)

/-- The cells of the first elements of a slice or a string. -/
def firstC (s : St) (size n : Nat) (x : CV) : Option (CV × St) :=
  match x with
  | .ns => bif Nat.beq n 0 then some (.nil, s) else fl 44
  | .sl id off _ len _ => bif Nat.ble n len then (match s.obj id with
    | .cells el cs m _ _ => bif Nat.ble (off + n * size) m then some (rdN cs off (n * size), s.lr id) else fl 45
    | _ => fl 46) else fl 47
  | .s b => bif Nat.ble n b.length && Nat.beq size 1 then some (ofBytes (b.take n), s) else fl 48
  | _ => fl 49
def lenOf : CV → Option Nat
  | .ns => some 0
  | .sl _ _ _ len _ => some len
  | .s b => some b.length
  | _ => none

def convC (C : Ctx) (s : St) (src dst : Nat) (x : CV) : Res :=
  match C.und src, C.und dst with
  | some (.int _), some (.int k) => (match x with
    | .i _ n => pI k (k.wrap n) s
    | _ => fl 50)
  | some .string, some .string => (match x with
    | .s b => some (.s b, s)
    | _ => fl 51)
  | some .string, some (.slice e) => (match x, C.und e with
    | .s b, some (.int .u8) => some (.sl s.nx 0 0 b.length none, s.new (.cells e (Tr.mk (ofBytes b).toL) (ofBytes b).len none 0))
    | _, _ => fl 52)
  | some (.slice e), some .string => (match C.und e, x with
    | some (.int .u8), .ns => some (.s [], s)
    | some (.int .u8), .sl id off k len cp => (match firstC s 1 len (.sl id off k len cp) with
      | some (c, s) => match bytesN c with
        | some b => pS b s
        | none => none
      | none => none)
    | _, _ => fl 53)
  | some (.pointer t), some .unsafePointer => (match x with
    | .p id off => (match s.obj id with
      | .cells _ _ n _ _ => bif Nat.blt off n && Nat.blt 0 (C.sz t) then some (.p id off, s.lr id) else fl 54
      | _ => fl 55)
    | _ => fl 56)
  | some .unsafePointer, some (.pointer u) => (match x with
    | .p id off => (match s.obj id with
      | .cells el _ n _ _ => bif liesAt C.P C.P.depth el 1 off u 1 && Nat.blt 0 (C.sz el) && Nat.ble (C.sz el) n && (C.ti u).isSome && Nat.blt 0 el then some (.p id off, s.lr id) else fl 57
      | _ => fl 58)
    | _ => fl 59)
  | _, _ => fl 59

def boundC (x : Option CV) (d : Nat) (y : Nat) : Option Nat :=
  match x with
  | none => some d
  | some (.i _ n) => bif decide (0 ≤ n) && decide (n ≤ (y : Int)) then some n.toNat else fl 60
  | _ => fl 61

def subO (c : Option Nat) (l : Nat) : Option Nat := match c with
  | some c => fN (c - l) some
  | none => none
def sliceS (s : St) (b : List UInt8) (lo hi : Option CV) : Res := match boundC hi b.length b.length with
  | some h => match boundC lo 0 h with
    | some l => pS ((b.drop l).take (h - l)) s
    | none => none
  | none => none
def sliceL (s : St) (size id off k len : Nat) (c : Option Nat) (lo hi : Option CV) : Res := match boundC hi len (c.getD len) with
  | some h => match boundC lo 0 h with
    | some l => bif Nat.beq l 0 || Nat.blt l len then fN (off + l * size) fun o => fN (k + l) fun k => fN (h - l) fun h => some (.sl id o k h (subO c l), s)
        else (match c with
        | some c => bif Nat.beq l c then some (.sl id off k 0 (some 0), s) else fN (off + l * size) fun o => fN (k + l) fun k => fN (h - l) fun h => fN (c - l) fun c => some (.sl id o k h (some c), s)
        | none => fl 65)
    | none => none
  | none => none
def sliceA (s : St) (size n id off : Nat) (lo hi : Option CV) : Res := match boundC hi n n with
  | some h => match boundC lo 0 h with
    | some l => bif Nat.beq l n then fl 67 else fN (off + l * size) fun o => fN (h - l) fun h => fN (n - l) fun n => some (.sl id o 0 h (some n), s)
    | none => none
  | none => none
/-- A slice expression. -/
def sliceC (C : Ctx) (s : St) (t : Nat) (x : CV) (lo hi mx : Option CV) : Res :=
  match mx, C.und t, x with
  | none, some .string, .s b => sliceS s b lo hi
  | none, some (.slice e), .ns => (match C.ti e, boundC hi 0 0, boundC lo 0 0 with
    | some _, some 0, some 0 => some (.ns, s)
    | _, _, _ => fl 63)
  | none, some (.slice e), .sl id off k len c => (match C.ti e with
    | some i => sliceL s i.size id off k len c lo hi
    | none => fl 64)
  | none, some (.array n e), .p id off => (match C.ti e with
    | some i => sliceA s i.size n id off lo hi
    | none => fl 66)
  | _, _, _ => fl 68

def fieldAddrC (C : Ctx) (s : St) (t : Nat) (x : CV) (f : Nat) : Res :=
  match C.und t, x with
  | some (.struct fs), .p id off => (match fs[f]? with
    | some g => bif Nat.blt 0 (C.sz g.type) then fN (off + g.offset) fun o => some (.p id o, s) else fl 69
    | none => fl 70)
  | _, _ => fl 71

def partC (C : Ctx) (s : St) (t : Nat) (c : CV) (off : Nat) : Res := match partV C t c off with
  | some v => some (v, s)
  | none => none

def fieldC (C : Ctx) (s : St) (t : Nat) (x : CV) (f : Nat) : Res :=
  match C.und t, x with
  | some (.struct fs), .agg c => (match fs[f]? with
    | some g => partC C s g.type c g.offset
    | none => fl 75)
  | _, _ => fl 76

def indexAddrC (C : Ctx) (s : St) (t : Nat) (x i : CV) : Res :=
  match C.und t, x, i with
  | some (.slice e), .sl id off _ len _, .i _ i => bif decide (0 ≤ i) && decide (i < (len : Int)) && Nat.blt 0 (C.sz e) then fN (off + i.toNat * C.sz e) fun o => some (.p id o, s) else fl 77
  | some (.array n e), .p id off, .i _ i => bif decide (0 ≤ i) && decide (i < (n : Int)) && Nat.blt 0 (C.sz e) then fN (off + i.toNat * C.sz e) fun o => some (.p id o, s) else fl 78
  | _, _, _ => fl 79

def indexC (C : Ctx) (s : St) (t : Nat) (x i : CV) : Res :=
  match C.und t, x, i with
  | some .string, .s b, .i _ i => bif decide (0 ≤ i) then (match b[i.toNat]? with
    | some x => pI .u8 (x.toNat : Int) s
    | none => fl 80) else fl 81
  | some (.array n e), .agg c, .i _ i => bif decide (0 ≤ i) && decide (i < (n : Int)) then partC C s e c (i.toNat * C.sz e) else fl 82
  | _, _, _ => fl 83

def lenC (C : Ctx) (s : St) (t : Nat) (x : CV) : Res :=
  match C.und t, x with
  | some .string, .s b => pI .i64 (b.length : Int) s
  | some (.array n _), _ => pI .i64 (n : Int) s
  | some (.slice _), .ns => pI .i64 0 s
  | some (.slice _), .sl _ _ _ len _ => pI .i64 (len : Int) s
  | some (.map _ _), .nm => pI .i64 0 s
  | some (.map _ _), .m id => (match s.obj id with
    | .map es => pI .i64 (es.length : Int) (s.lr id)
    | _ => fl 84)
  | _, _ => fl 85

def capC (C : Ctx) (s : St) (t : Nat) (x : CV) : Res :=
  match C.und t, x with
  | some (.slice _), .ns => pI .i64 0 s
  | some (.slice _), .sl _ _ _ _ (some c) => pI .i64 (c : Int) s
  | _, _ => fl 86

/-- Something is appended to nothing; to a row whose room is known; to a row that has grown. -/
def appN (s : St) (e : Nat) (ie : TypeInfo) (m : Nat) (c : CV) : Res :=
  bif Nat.beq m 0 then some (.ns, s) else bif Nat.ble (m * ie.bytes) Dp.maxRoom && c.leaves then some (.sl s.nx 0 0 m none, newC s e c (some ie.size)) else fl 88
def appK (s : St) (e : Nat) (ie : TypeInfo) (m : Nat) (c : CV) (id off k len cp : Nat) : Res :=
  bif Nat.ble (len + m) cp then
    (bif c.leaves then (match putC s id (off + len * ie.size) c with
      | some s => fN (len + m) fun l => some (.sl id off k l (some cp), s)
      | none => none) else fl 89)
  else (match firstC s ie.size len (.sl id off k len (some cp)) with
    | some (c0, s) => bif Nat.ble ((len + m) * ie.bytes) Dp.maxRoom && c0.leaves && c.leaves then fN (len + m) fun l => some (.sl s.nx 0 0 l none, newC s e (c0.app c) (some ie.size)) else fl 90
    | none => none)
def appO (s : St) (ie : TypeInfo) (m : Nat) (c : CV) (id len el : Nat) (cs : Tr CV) (n sz fz : Nat) : Res :=
  bif Nat.beq sz ie.size && c.leaves && Nat.ble ((len + m) * ie.bytes) Dp.maxRoom && Nat.beq (len * ie.size) n && Nat.ble fz n then
    fN (len + m) fun l => some (.sl s.nx 0 0 l none, (s.put id .none).new (.cells el (wrN cs n c) (n + m * ie.size) (some sz) fz))
  else fl 93
def isSeqD : TypeDesc → Bool
  | .slice _ => true
  | .string => true
  | _ => false
def appendC (C : Ctx) (s : St) (t u : Nat) (x y : CV) : Res :=
  match C.und t, C.und u with
  | some (.slice e), some d => (match lenOf y, C.ti e, C.zero e with
    | some m, some ie, some z => bif isSeqD d && Nat.blt 0 ie.size && Nat.blt 0 ie.bytes && (match z.cells with | some zc => Nat.beq zc.len ie.size | none => false) then
      (match firstC s ie.size m y with
      | some (c, s) => (match x with
        | .ns => appN s e ie m c
        | .sl id off k len (some cp) => appK s e ie m c id off k len cp
        | .sl id 0 0 len none => (match s.obj id with
          | .cells el cs n (some sz) fz => bif Nat.beq el e then appO s ie m c id len el cs n sz fz else fl 220
          | _ => fl 94)
        | _ => fl 95)
      | none => none) else fl 96
    | _, _, _ => fl 97)
  | _, _ => fl 98

def copyC (C : Ctx) (s : St) (t : Nat) (x y : CV) : Res :=
  match C.und t, lenOf x, lenOf y with
  | some (.slice e), some n, some m => (match firstC s (C.sz e) (min m n) y with
    | some (c, s) => (match x with
      | .sl id off _ _ _ => bif Nat.blt 0 (C.sz e) && c.leaves then (match putC s id off c with
        | some s => pI .i64 ((min m n : Nat) : Int) s
        | none => none) else fl 99
      | _ => fl 100)
    | none => none)
  | _, _, _ => fl 101

def makeSliceC (C : Ctx) (s : St) (t : Nat) (n c : CV) : Res :=
  match C.und t, n, c with
  | some (.slice e), .i _ n, .i _ c => (match C.ti e, C.zero e with
    | some ie, some z => (match z.cells with
      | some zc => bif decide (0 ≤ n) && decide (n ≤ c) && Nat.blt 0 ie.bytes && Nat.blt 0 ie.size && Nat.ble (c.toNat * ie.bytes) Dp.maxRoom && Nat.beq zc.len ie.size then
          fN c.toNat fun c => fN n.toNat fun n => some (.sl s.nx 0 0 n (some c), newC s e (repC c zc .nil) none) else fl 102
      | none => fl 103)
    | _, _ => fl 104)
  | _, _, _ => fl 105

/-! Maps. -/
def keyEq : CV → CV → Option Bool
  | .s x, .s y => some (sEq x y)
  | .i k x, .i k' y => bif decide (k = k') then some (decide (x = y)) else none
  | _, _ => none
def mfind (k : CV) : List (CV × CV) → Nat → Option (Option (Nat × CV))
  | [], _ => some none
  | (a, b) :: l, i => match keyEq k a with
    | some true => some (some (i, b))
    | some false => mfind k l (Nat.succ i)
    | none => fl 106
def keyOK (C : Ctx) (t : Nat) (k : CV) : Bool := match C.und t, k with
  | some .string, .s _ => true
  | some (.int j), .i j' _ => decide (j = j')
  | _, _ => false

def withOk (ok : Bool) (v : CV) (b : Bool) : CV := match ok with
  | true => .tup (.cons v (.cons (.b b) .nil))
  | false => v
def lookupC (C : Ctx) (s : St) (t : Nat) (x k : CV) (ok : Bool) : Res :=
  match C.und t with
  | some (.map kt et) => bif keyOK C kt k then
    (match C.zero et with
    | some z => (match x with
      | .nm => some (withOk ok z false, s)
      | .m id => (match s.obj id with
        | .map es => (match mfind k es 0 with
          | some (some (_, v)) => some (withOk ok v true, s.lr id)
          | some none => some (withOk ok z false, s.lr id)
          | none => none)
        | _ => fl 107)
      | _ => fl 108)
    | none => fl 109) else fl 110
  | _ => fl 111
def mapUpdateC (C : Ctx) (s : St) (t : Nat) (x k v : CV) : Option St :=
  match C.und t, x with
  | some (.map kt _), .m id => bif keyOK C kt k then (match s.obj id with
    | .map es => (match mfind k es 0 with
      | some (some (i, _)) => some (s.put id (.map (es.set i (k, v))))
      | some none => some (s.put id (.map (es ++ [(k, v)])))
      | none => none)
    | _ => fl 112) else fl 113
  | _, _ => fl 114

def nextC (s : St) (x : CV) : Res :=
  match x with
  | .p id 0 => (match s.obj id with
    | .it b pos => bif Nat.blt pos b.length then
        (let z := Utf8.decode ⟨b.toArray⟩ pos
         fN (pos + z.2) fun q => fN z.1 fun c => some (.tup (.cons (.b true) (.cons (.i .i64 (pos : Int)) (.cons (.i .i32 (c : Int)) .nil))), s.put id (.it b q)))
      else some (.tup (.cons (.b false) .nil), s.lr id)
    | _ => fl 119)
  | _ => fl 120

def minMaxC (mx : Bool) : CV → CV → Option CV
  | x, .nil => some x
  | .i a x, .cons (.i b y) l => bif decide (a = b) then minMaxC mx (.i a (bif mx then (if y > x then y else x) else (if y < x then y else x))) l else fl 121
  | _, _ => fl 122

def evL (C : Ctx) (s : St) : List Operand → CV
  | [] => .nil
  | x :: l => .cons (ev C s x) (evL C s l)

/-- What a call comes to: its answer, or what it panics with. -/
abbrev CallT := Nat → CV → St → Option (Bool × CV × St)

def val (x : Res) : Option (Bool × CV × St) := match x with | some (v, s) => some (false, v, s) | none => none
def unit (x : Option St) : Option (Bool × CV × St) := match x with | some s => some (false, .tup .nil, s) | none => none

def spPure (F : CV → Option CV) (args : CV) (s : St) : Option (Bool × CV × St) := match F args with
  | some v => some (false, v, s)
  | none => fl 166
/-- A row of which nothing is known yet. -/
def spMkz (e : Nat) (args : CV) (s : St) : Option (Bool × CV × St) := match args with
  | .cons (.i .i64 n) .nil => bif decide (0 ≤ n) && Nat.ble n.toNat Dp.maxRoom then fN n.toNat fun n => some (false, .sl s.nx 0 0 n none, s.new (.cells e .lf 0 (some 1) 0)) else fl 125
  | _ => fl 126
/-- Bytes, each from 0 to 255. -/
def bytesT : CV → Option (List UInt8)
  | .cons (.i .u8 n) r => bif decide (0 ≤ n) && Nat.blt n.toNat 256 then (match bytesT r with
    | some l => some (UInt8.ofNat n.toNat :: l)
    | none => none) else fl 226
  | .nil => some []
  | _ => fl 227
/-- The bytes of a row alone are looked at. -/
def spRow (F : List UInt8 → Option CV) (args : CV) (s : St) : Option (Bool × CV × St) := match args with
  | .cons (.sl id off k len c) .nil => (match s.obj id with
    | .cells _ cs n _ _ => bif Nat.ble (off + len) n then (match bytesT (rdN cs off len) with
      | some b => (match F b with
        | some v => some (false, v, s.lr id)
        | none => fl 250)
      | none => none) else fl 251
    | _ => fl 252)
  | _ => fl 253
/-- A row of one's own. -/
def spMkr (F : CV → Option CV) (args : CV) (s : St) : Option (Bool × CV × St) := match F args with
  | some c => fN c.len fun n => some (false, .sl s.nx 0 0 n none, newC s 0 c none)
  | none => fl 254
/-- A value is worked out; a variable that holds a number may be looked at. -/
def spG (C : Ctx) (g : Nat) (F : CV → Option CV) (args : CV) (s : St) : Option (Bool × CV × St) := match gl1 C.gl g, s.obj g with
  | .p g' 0, .num => bif Nat.beq g' g then (match F args with
      | some v => some (false, v, s.lr g)
      | none => fl 255) else fl 257
  | _, _ => fl 258
def strsT : CV → Option (List (List UInt8))
  | .cons (.s b) r => (match strsT r with
    | some l => some (b :: l)
    | none => none)
  | .nil => some []
  | _ => fl 259
/-- The texts of a row, and what stands behind it. -/
def spRowS (F : List (List UInt8) → CV → Option CV) (id off len : Nat) (rest : CV) (s : St) : Option (Bool × CV × St) := match s.obj id with
  | .cells _ cs n _ _ => bif Nat.ble (off + len) n then (match strsT (rdN cs off len) with
    | some b => (match F b rest with
      | some v => some (false, v, s.lr id)
      | none => fl 260)
    | none => none) else fl 261
  | _ => fl 262
def callG (C : Ctx) (call : CallT) (f : Nat) (args : CV) (s : St) : Option (Bool × CV × St) :=
  match Dp.look C.sp f with
  | some (.pure F) => spPure F args s
  | some (.mkz e) => spMkz e args s
  | some (.row F) => spRow F args s
  | some (.mkr F) => spMkr F args s
  | some (.gpure g F) => spG C g F args s
  | some (.rowS F) => (match args with
    | .cons (.sl id off _ len _) rest => spRowS F id off len rest s
    | _ => call f args s)
  | none => call f args s

def callV (C : Ctx) (call : CallT) (f args : CV) (s : St) : Option (Bool × CV × St) :=
  match f with
  | .f g first caps => callG C call g (first.app (args.app caps)) s
  | _ => fl 133

abbrev RV := Option (Bool × CV × St)
def oPick (C : Ctx) (s : St) (c a b : Operand) : RV := match ev C s c with
  | .b true => some (false, ev C s a, s)
  | .b false => some (false, ev C s b, s)
  | _ => fl 134
def oAlloc (C : Ctx) (s : St) (e : Nat) : RV := match C.zero e with
  | some z => val (allocC s e z)
  | none => fl 135
def oBuild (C : Ctx) (s : St) (t : Nat) (ps : Array (Nat × Operand)) : RV := val (buildC C s t ps.toList)
def oBuildSlice (C : Ctx) (s : St) (t len : Nat) (ps : Array (Nat × Operand)) : RV := val (buildSliceC C s t len ps.toList)
def oLoad (C : Ctx) (s : St) (t : Nat) (a : Operand) : RV := val (loadC C s t (ev C s a))
def oStore (C : Ctx) (s : St) (t : Nat) (a x : Operand) : RV := unit (storeC C s t (ev C s a) (ev C s x))
def oNil (C : Ctx) (s : St) (x : Operand) : RV := match ev C s x with
  | .p id off => some (false, .p id off, s)
  | .f g a b => some (false, .f g a b, s)
  | .ifc t v => some (false, .ifc t v, s)
  | _ => fl 136
def oBin (C : Ctx) (s : St) (op : BinOp) (t : Nat) (x y : Operand) : RV := val (binC C s op t (isC x || isC y) (ev C s x) (ev C s y))
def oUn (C : Ctx) (s : St) (op : UnOp) (x : Operand) : RV := val (unC s op (ev C s x))
def oConv (C : Ctx) (s : St) (src dst : Nat) (x : Operand) : RV := val (convC C s src dst (ev C s x))
def oIfc (C : Ctx) (s : St) (t : Nat) (x : Operand) : RV := match C.und t with
  | some (.interface _) => fl 137
  | some _ => some (false, .ifc t (ev C s x), s)
  | none => fl 138
def oFunc (C : Ctx) (s : St) (f : Fn) (a b : Array Operand) : RV := match f with
  | .func f => some (false, .f f (evL C s a.toList) (evL C s b.toList), s)
  | _ => fl 172
def oMap (s : St) (r : Option Operand) : RV := match r with
  | none => some (false, .m s.nx, s.new (.map []))
  | _ => fl 173
def oMakeSlice (C : Ctx) (s : St) (t : Nat) (l c : Operand) : RV := val (makeSliceC C s t (ev C s l) (ev C s c))
def evO (C : Ctx) (s : St) : Option Operand → Option CV
  | some x => some (ev C s x)
  | none => none
def oSlice (C : Ctx) (s : St) (t : Nat) (x : Operand) (lo hi mx : Option Operand) : RV := val (sliceC C s t (ev C s x) (evO C s lo) (evO C s hi) (evO C s mx))
def oFieldAddr (C : Ctx) (s : St) (t : Nat) (x : Operand) (f : Nat) : RV := val (fieldAddrC C s t (ev C s x) f)
def oField (C : Ctx) (s : St) (t : Nat) (x : Operand) (f : Nat) : RV := val (fieldC C s t (ev C s x) f)
def oIndexAddr (C : Ctx) (s : St) (t : Nat) (x i : Operand) : RV := val (indexAddrC C s t (ev C s x) (ev C s i))
def oIndex (C : Ctx) (s : St) (t : Nat) (x i : Operand) : RV := val (indexC C s t (ev C s x) (ev C s i))
def oLookup (C : Ctx) (s : St) (t : Nat) (x k : Operand) (ok : Bool) : RV := val (lookupC C s t (ev C s x) (ev C s k) ok)
def oUpdate (C : Ctx) (s : St) (t : Nat) (m k x : Operand) : RV := unit (mapUpdateC C s t (ev C s m) (ev C s k) (ev C s x))
def oRange (C : Ctx) (s : St) (t : Nat) (x : Operand) : RV := match C.und t, ev C s x with
  | some .string, .s b => some (false, .p s.nx 0, s.new (.it b 0))
  | _, _ => fl 139
def oNext (C : Ctx) (s : St) (it : Operand) (str : Bool) : RV := match str with
  | true => val (nextC s (ev C s it))
  | false => fl 174
def oExtract (C : Ctx) (s : St) (x : Operand) (i : Nat) : RV := match ev C s x with
  | .tup c => (match c.at i with
    | some v => some (false, v, s)
    | none => fl 140)
  | _ => fl 141
/-- A value of an interface type as one of a type that is none. -/
def oAssert (C : Ctx) (s : St) (x : Operand) (t : Nat) (ok : Bool) : RV := match C.und t with
  | some (.interface _) => fl 204
  | some _ => (match ok, ev C s x with
    | true, .ifc u v => bif Nat.beq u t then some (false, .tup (.cons v (.cons (.b true) .nil)), s) else (match C.zero t with
      | some z => some (false, .tup (.cons z (.cons (.b false) .nil)), s)
      | none => fl 205)
    | _, _ => fl 208)
  | none => fl 209
def oPanic (C : Ctx) (s : St) (x : Operand) : RV := match ev C s x with
  | .ifc t v => some (true, .ifc t v, s)
  | _ => fl 142
def bMin (mx : Bool) (s : St) (x l : CV) : RV := match minMaxC mx x l with
  | some (.i k n) => val (pI k n s)
  | _ => fl 144
def bSD (s : St) (x : CV) : RV := match x with
  | .ns => some (false, .np, s)
  | .sl id off _ len _ => bif Nat.blt 0 len then some (false, .p id off, s) else fl 146
  | _ => fl 147
def bUS (C : Ctx) (s : St) (pt : Nat) (x y : CV) : Res := match x, y with
  | .np, .i .i64 n => bif decide (n = 0) then some (.s [], s) else fl 151
  | .p id 0, .i .i64 n => bif decide (n = 0) then some (.s [], s) else (match C.und pt with
    | some (.pointer e) => (match s.obj id with
      | .cells el cs m (some sz) fz => bif decide (0 ≤ n) && Nat.ble n.toNat m && Nat.beq el e && Nat.beq (C.sz e) 1 && Nat.ble n.toNat Dp.maxRoom && Nat.blt 0 e then (match bytesT (rdN cs 0 n.toNat) with
        | some b => fS b fun b => fN (max fz n.toNat) fun fz => some (.s b, s.put id (.cells el cs m (some sz) fz))
        | none => none) else fl 148
      | _ => fl 149)
    | _ => fl 228)
  | _, _ => fl 229
def oBuiltin (C : Ctx) (s : St) (b : Builtin) (args : List Operand) (ts : List Nat) : RV := match b with
  | .len => (match args, ts with
    | [x], [t] => val (lenC C s t (ev C s x))
    | _, _ => fl 175)
  | .append => (match args, ts with
    | [x, y], [t, u] => val (appendC C s t u (ev C s x) (ev C s y))
    | _, _ => fl 176)
  | .cap => (match args, ts with
    | [x], [t] => val (capC C s t (ev C s x))
    | _, _ => fl 177)
  | .copy => (match args, ts with
    | [x, y], [t, _] => val (copyC C s t (ev C s x) (ev C s y))
    | _, _ => fl 178)
  | .min => (match args with
    | x :: l => bMin false s (ev C s x) (evL C s l)
    | _ => fl 180)
  | .max => (match args with
    | x :: l => bMin true s (ev C s x) (evL C s l)
    | _ => fl 181)
  | .unsafeSliceData => (match args, ts with
    | [x], [_] => bSD s (ev C s x)
    | _, _ => fl 182)
  | .unsafeString => (match args, ts with
    | [x, y], [pt, _] => val (bUS C s pt (ev C s x) (ev C s y))
    | _, _ => fl 183)
  | _ => fl 152
/-- A method of a pointer. -/
def recvC (C : Ctx) (x : CV) (name : String) : Option (Nat × CV) := match x with
  | .ifc t v => (match C.ti t with
    | some i => (match i.methods.find? (fun m => m.name == name) with
      | some m => bif m.path.isEmpty then (match m.func, C.und t with
        | some (f, true), some (.pointer _) => some (f, v)
        | _, _ => fl 263) else fl 264
      | none => fl 265)
    | none => fl 266)
  | _ => fl 267
def oCall (C : Ctx) (call : CallT) (s : St) (c : Call) : RV := match c.callee with
  | .value f => callV C call (ev C s f) (evL C s c.args.toList) s
  | .invoke x name => (match recvC C (ev C s x) name with
    | some (f, v) => callG C call f (.cons v (evL C s c.args.toList)) s
    | none => none)
  | .builtin b => oBuiltin C s b c.args.toList c.argTypes.toList
def oDefer (C : Ctx) (s : St) (c : Call) : RV := match c.callee, c.args.toList with
  | .value f, [] => (match ev C s f with
    | .f g a b => some (false, .tup .nil, ⟨s.rg, s.hp, s.nx, s.lim, s.rl, s.wl, .f g a b :: s.df⟩)
    | _ => fl 231)
  | _, _ => fl 203
def oMove (C : Ctx) (s : St) (x : Operand) : RV := some (false, ev C s x, s)
def oBox (C : Ctx) (s : St) (e : Nat) (x : Operand) : RV := val (allocC s e (ev C s x))

def opC (C : Ctx) (call : CallT) (o : Oper) (s : St) : RV :=
  Op.rec (motive := fun _ => RV)
    (fun x => oMove C s x) (fun x => oMove C s x) (fun c a b => oPick C s c a b) (fun e => oAlloc C s e) (fun e x => oBox C s e x)
    (fun t ps => oBuild C s t ps) (fun t len ps => oBuildSlice C s t len ps) (fun t m k x => oUpdate C s t m k x)
    (fun t a => oLoad C s t a) (fun t a x => oStore C s t a x) (fun _ => fl 184) (fun _ => fl 185) (fun x => oNil C s x)
    (fun op t x y _ => oBin C s op t x y) (fun op _ x => oUn C s op x) (fun src dst x => oConv C s src dst x) (fun _ _ => fl 186)
    (fun t x => oIfc C s t x) (fun f a b => oFunc C s f a b) (fun _ r => oMap s r) (fun _ _ => fl 187) (fun t l c => oMakeSlice C s t l c)
    (fun t x lo hi mx => oSlice C s t x lo hi mx) (fun t x f => oFieldAddr C s t x f) (fun t x f => oField C s t x f)
    (fun t x i => oIndexAddr C s t x i) (fun t x i => oIndex C s t x i) (fun t x k ok => oLookup C s t x k ok) (fun t m k x => oUpdate C s t m k x)
    (fun _ _ _ => fl 188) (fun _ _ _ _ => fl 189) (fun t x => oRange C s t x) (fun it str => oNext C s it str) (fun _ => fl 190) (fun x _ t ok => oAssert C s x t ok)
    (fun x i => oExtract C s x i) (fun c => oCall C call s c) (fun _ => fl 192) (fun c => oDefer C s c) (fun x => oPanic C s x) (fun _ _ => fl 194) (fun _ _ _ => fl 195) (fun _ _ => fl 196) o.op

/-- One operation of a region: its guard, its answer's register. -/
inductive OR where
  | ok (s : St)
  | pan (v : CV) (s : St)

def setO (n : Nat) (d : Option Nat) (x : CV) (s : St) : Option OR := match d with
  | some d => bif Nat.blt d n then some (.ok (s.set d x)) else fl 230
  | none => some (.ok s)

def fin1 (n : Nat) (d : Option Nat) : Option (Bool × CV × St) → Option OR
  | some (false, v, s) => setO n d v s
  | some (true, v, s) => some (.pan v s)
  | none => none

def stepC (C : Ctx) (call : CallT) (n : Nat) (all : Array Oper) (o : Oper) (s : St) : Option OR :=
  match o.guard with
  | none => fin1 n o.dst (opC C call o s)
  | some (j, want) => match all[j]? with
    | some oj => match oj.dst with
      | some g => match s.reg g with
        | .b b => bif b == want then fin1 n o.dst (opC C call o s) else setO n o.dst (.tup .nil) s
        | .tup .nil => setO n o.dst (.tup .nil) s
        | _ => fl 154
      | none => fl 155
    | none => fl 156

def oNext1 (r : Option OR) (k : St → Option OR) : Option OR :=
  Option.rec (motive := fun _ => Option OR) none (fun r => OR.rec (motive := fun _ => Option OR) k (fun v s => some (.pan v s)) r) r
def opsC (C : Ctx) (call : CallT) (n : Nat) (all : Array Oper) (l : List Oper) : St → Option OR :=
  List.rec (motive := fun _ => St → Option OR) (fun s => some (.ok s)) (fun o _ ih s => oNext1 (stepC C call n all o s) ih) l

inductive Ex where
  | nor (s : St)
  | exit (id : Nat) (s : St)
  | ret (s : St)
  | pan (v : CV) (s : St)
  | goto (l : Nat) (s : St)

def toEx : Option OR → Option Ex
  | some (.ok s) => some (.nor s)
  | some (.pan v s) => some (.pan v s)
  | none => none

/-! A region whose order is drawn: each operation's footprint is looked at. -/
/-- What one operation has read, written, made; the registers it looks at and writes. -/
structure It where
  rl : List Nat
  wl : List Nat
  lo : Nat
  hi : Nat
  lk : List Nat
  ds : Option Nat
def tmpL : List Operand → List Nat
  | [] => []
  | .tmp t :: l => t :: tmpL l
  | _ :: l => tmpL l
def looks (all : Array Oper) (o : Oper) : List Nat := match o.guard with
  | none => tmpL o.op.operands.toList
  | some (j, _) => match (all[j]?).bind (·.dst) with
    | some g => g :: tmpL o.op.operands.toList
    | none => tmpL o.op.operands.toList
def maskR (rg : Tr CV) : List Nat → Tr CV
  | [] => .lf
  | t :: l => (maskR rg l).set t (gR rg t)
def apL : List Nat → List Nat → Bool
  | [], _ => true
  | a :: l, r => !Dp.memN r a && apL l r
def offL (lo hi : Nat) : List Nat → Bool
  | [] => true
  | a :: l => !(Nat.ble lo a && Nat.blt a hi) && offL lo hi l
def notD (d : Option Nat) (l : List Nat) : Bool := match d with | some d => !Dp.memN l d | none => true
def neD (d e : Option Nat) : Bool := match d, e with | some d, some e => !Nat.beq d e | _, _ => true
/-- Two operations that may come up in either order. -/
def apart (k j : It) : Bool := notD k.ds j.lk && neD k.ds j.ds && notD j.ds k.lk && apL k.wl j.rl && apL k.wl j.wl && apL j.wl k.rl && offL k.lo k.hi j.rl && offL k.lo k.hi j.wl && offL j.lo j.hi k.rl && offL j.lo j.hi k.wl
/-- The earlier ones, the last of them first. -/
def pairsC (S : List Nat) (j : It) : List It → Bool
  | [] => true
  | k :: l => (Dp.memN S l.length || apart k j) && pairsC S j l
def sub (lim : Nat) : List Nat → List Nat → List Nat
  | [], acc => acc
  | a :: l, acc => sub lim l (bif Nat.blt a lim then add a acc else acc)
def setD (rg : Tr CV) (d : Option Nat) (rg' : Tr CV) : Tr CV := match d with
  | some d => rg.set d (gR rg' d)
  | none => rg
def maskS (all : Array Oper) (o : Oper) (s : St) : St := match s with
  | ⟨rg, hp, nx, _, _, _, df⟩ => ⟨maskR rg (looks all o), hp, nx, nx, [], [], df⟩
def itOf (all : Array Oper) (o : Oper) (s s' : St) : It := match s, s' with
  | ⟨_, _, nx, _, _, _, _⟩, ⟨_, _, nx', _, rl, wl, _⟩ => ⟨rl, wl, nx, nx', looks all o, o.dst⟩
def unmask (o : Oper) (s s' : St) : St := match s, s' with
  | ⟨rg, _, _, lim, rl, wl, df⟩, ⟨rg', hp, nx, _, rl', wl', _⟩ => ⟨setD rg o.dst rg', hp, nx, lim, sub lim rl' rl, sub lim wl' wl, df⟩
def drawN (all : Array Oper) (o : Oper) (s : St) (its : List It) (k : List It → St → Option OR) (r : Option OR) : Option OR :=
  Option.rec (motive := fun _ => Option OR) none (fun r => OR.rec (motive := fun _ => Option OR)
    (fun s' => bif pairsC (Dp.ancL all.toList its.length (Dp.edgesAt all.toList its.length)) (itOf all o s s') its && Nat.beq s'.df.length s.df.length then k (itOf all o s s' :: its) (unmask o s s') else fl 240) (fun _ _ => fl 241) r) r
def drawS (C : Ctx) (call : CallT) (n : Nat) (all : Array Oper) (l : List Oper) : List It → St → Option OR :=
  List.rec (motive := fun _ => List It → St → Option OR) (fun _ s => some (.ok s)) (fun o _ ih its s => drawN all o s its ih (stepC C call n all o (maskS all o s))) l
def drawC (C : Ctx) (call : CallT) (n : Nat) (ops : Array Oper) (s : St) : Option OR :=
  bif Dp.belowAll ops.toList 0 ops.toList && Nat.ble s.lim s.nx then drawS C call n ops ops.toList [] s else fl 242
def regC (C : Ctx) (call : CallT) (n : Nat) (ops : Array Oper) (dr : Bool) (s : St) : Option OR :=
  Bool.rec (motive := fun _ => Option OR) (opsC C call n ops ops.toList s) (drawC C call n ops s) dr
def xSeq (r : Option Ex) (k : St → Option Ex) : Option Ex :=
  Option.rec (motive := fun _ => Option Ex) none (fun e => Ex.rec (motive := fun _ => Option Ex) k (fun i s => some (.exit i s)) (fun s => some (.ret s)) (fun v s => some (.pan v s)) (fun l s => some (.goto l s)) e) r
def loopC (step : St → Option Ex) (n : Nat) : St → Option Ex :=
  Nat.rec (motive := fun _ => St → Option Ex) (fun _ => fl 157) (fun _ ih s => xSeq (step s) ih) n

def xBlock (id : Nat) (r : Option Ex) : Option Ex :=
  Option.rec (motive := fun _ => Option Ex) none (fun e => Ex.rec (motive := fun _ => Option Ex) (fun s => some (.nor s)) (fun j s => Bool.rec (some (.exit j s)) (some (.nor s)) (Nat.beq j id)) (fun s => some (.ret s)) (fun v s => some (.pan v s)) (fun l s => some (.goto l s)) e) r
def xCond (c : CV) (a b : St → Option Ex) (s : St) : Option Ex := match c with
  | .b true => a s
  | .b false => b s
  | _ => fl 158
def exec (C : Ctx) (call : CallT) (n : Nat) (c : Code) : St → Option Ex :=
  Code.rec (motive := fun _ => St → Option Ex)
    (fun s => some (.nor s)) (fun _ ops dr s => toEx (regC C call n ops dr s)) (fun _ _ fa fb s => xSeq (fa s) fb)
    (fun c _ _ fa fb s => xCond (ev C s c) fa fb s) (fun id _ fb s => xBlock id (fb s)) (fun _ fb s => loopC fb C.K s) (fun _ _ _ _ _ _ _ => fl 161)
    (fun id s => some (.exit id s)) (fun _ fb s => fb s) (fun _ s => some (.nor s)) (fun _ _ => fl 159) (fun s => some (.ret s)) (fun _ _ => fl 160) c

def resC (C : Ctx) : List ResultVar → St → Option (CV × St)
  | [], s => some (.nil, s)
  | .tmp t :: l, s => match resC C l s with
    | some (r, s') => some (.cons (s.reg t) r, s')
    | none => none
  | .cell a t :: l, s => match loadC C s t (s.reg a) with
    | some (v, s) => match resC C l s with
      | some (r, s) => some (.cons v r, s)
      | none => none
    | none => none

def one : CV → CV
  | .cons x .nil => x
  | c => .tup c

def argR : Nat → CV → Tr CV → Tr CV
  | i, .cons a r, t => argR (i + 1) r (t.set i a)
  | _, _, t => t

/-- The caller's registers over what a call has left. -/
def back (s s' : St) : St := match s, s' with
  | ⟨rg, _, _, _, _, _, df⟩, ⟨_, hp, nx, lim, rl, wl, _⟩ => ⟨rg, hp, nx, lim, rl, wl, df⟩
def into (rg : Tr CV) (s : St) : St := match s with
  | ⟨_, hp, nx, lim, rl, wl, _⟩ => ⟨rg, hp, nx, lim, rl, wl, []⟩

def retC (C : Ctx) (fn : Func) (s0 s : St) : Option (Bool × CV × St) := match resC C fn.results.toList s with
  | some (c, s) => some (false, one c, back s0 s)
  | none => none

def isRec (o : Oper) : Bool := match o.op with
  | .call c => (match c.callee with
    | .builtin .recover => o.guard.isNone
    | _ => false)
  | _ => false
/-- A deferred call: a closure without arguments, of a function without results, that begins with a recover. -/
def runD (C : Ctx) (call : CallT) (clo : CV) (rc : CV) (s : St) : Option St := match clo with
  | .f g first caps => match C.ft.get g with
    | some fn => match fn.body with
      | some (.seq (.region _ ops false) c) => (match ops.toList with
        | [o] => (match o.dst with
          | some d => bif isRec o && Nat.blt d fn.ntmps && Nat.ble (first.app caps).len fn.ntmps && fn.results.isEmpty then (match exec C call fn.ntmps c ((into (argR 0 (first.app caps) .lf) s).set d rc) with
            | some (.nor s') => bif s'.df.isEmpty then some s' else fl 221
            | some (.ret s') => bif s'.df.isEmpty then some s' else fl 221
            | _ => fl 197) else fl 222
          | none => fl 223)
        | _ => fl 224)
      | _ => fl 198
    | none => fl 199
  | _ => fl 200
def endR (C : Ctx) (call : CallT) (fn : Func) (s0 s : St) : RV := match s.df with
  | [] => retC C fn s0 s
  | [clo] => (match runD C call clo .ni s with
    | some s' => retC C fn s0 (back s s')
    | none => none)
  | _ => fl 201
def endP (C : Ctx) (call : CallT) (fn : Func) (v : CV) (s0 s : St) : RV := match s.df with
  | [] => some (true, v, back s0 s)
  | [clo] => (match runD C call clo v s with
    | some s' => retC C fn s0 (back s s')
    | none => none)
  | _ => fl 202
def endF (C : Ctx) (call : CallT) (fn : Func) (s0 : St) (e : Option Ex) : RV := match e with
  | some (.nor s) => endR C call fn s0 s
  | some (.ret s) => endR C call fn s0 s
  | some (.pan v s) => endP C call fn v s0 s
  | some _ => fl 163
  | none => none
def callF (C : Ctx) (d : Nat) : CallT :=
  Nat.rec (motive := fun _ => CallT) (fun _ _ _ => fl 162)
    (fun _ ih f args s => match C.ft.get f with
      | some fn => (match fn.body with
        | some c => bif Nat.ble args.len fn.ntmps then endF C ih fn s (exec C ih fn.ntmps c (into (argR 0 args .lf) s)) else fl 225
        | none => fl 164)
      | none => fl 165) d

def ctx (P : Program) (gl : List (Nat × CV)) (sp : List (Nat × Sp)) (K : Nat) : Ctx := ⟨P, Tr.mk P.types.toList, Tr.mk P.funcs.toList, gl, sp, K⟩

end
end Go.Cm
