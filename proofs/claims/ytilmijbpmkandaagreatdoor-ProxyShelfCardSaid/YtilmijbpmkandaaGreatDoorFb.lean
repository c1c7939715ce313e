/-
  A part of the proof's own groundwork: a small machine beside the model, and that what it computes the model computes. No condition.
-/
import Derived.Test.YtilmijbpmkandaaGreatDoorFa
import Derived.Laws.RangeString
import Derived.Laws.BytesArg
import Derived.Laws.Append
import Derived.Lib.ConvBytes
import Derived.MapKept
/- A string's iterator; bytes and strings. -/
set_option autoImplicit false
set_option linter.unusedVariables false
set_option linter.unusedSimpArgs false
namespace Go.Dp
open Go.RowKit

section
variable {S : Base} {n : Nat} {U : Nat → Prop} {β : Nat → Blk} {s : St} {a : Act} {w : World} {α : Type} {k : St → Option α} {r : α} {h : Hint} {Q : Exit → Act → World → Prop} {o : Oper}

theorem next_ok (hn : h.n = n) (hR : FRel S n U β s a w) {x : Operand} (hop : o.op = .next x true)
    (hk : nextC s (ev S.E s 0 x) (fun s v => putC h s o.dst v k) = some r) : o.wp S.P a w (Handed S n U β s w k r) Q := by
  have hx := hR.ev 0 x
  generalize ev S.E s 0 x = X at hx hk
  obtain ⟨T, xx⟩ := X
  unfold nextC at hk
  split at hk
  · rename_i x' id v' hX
    cases hX
    have hm := hx.one rfl rfl
    simp only [EncM] at hm
    obtain ⟨b, off, hv, hl⟩ := hm
    have hv := (List.cons.inj hv).1
    split at hk
    · rename_i v he
      obtain ⟨hid, hb, _, _, hof⟩ := hl
      have hof : off = 0 := by simpa [pathOff] using hof
      subst hof
      have hob := hR.wrel.heap.obj id hid
      unfold ObjAt at hob
      rw [he] at hob
      obtain ⟨b', hb', hge, hnU, hw⟩ := hob
      obtain rfl : b' = b := by rw [hb'] at hb; exact Option.some.inj hb
      have hsz : (⟨v.1.toArray⟩ : ByteArray).size = v.1.length := by simp [ByteArray.size]
      have hlt : b' < w.heap.size := (Array.getElem?_eq_some_iff.1 hw).1
      cases hd : decide (v.2 < v.1.length) with
      | true =>
        rw [hd] at hk
        simp only [cond_true] at hk
        have hd := decT hd
        let w' : World := { w with heap := w.heap.setIfInBounds b' (.stringIter ⟨v.1.toArray⟩ (v.2 + (Utf8.decode ⟨v.1.toArray⟩ v.2).2)) }
        have hrun : (execOp a.eval o).run S.P w = .ok (.value (.tuple #[.bool true, .int .i64 (v.2 : Int), .int .i32 ((Utf8.decode ⟨v.1.toArray⟩ v.2).1 : Int)])) w' := by
          simp only [execOp, hop, hv, Instr.next, getObj, setObj, Sem.run_bind, Sem.run, hw, Result.andThen_ok, hsz, hd, if_true, Sem.run_pure, goInt]
          rfl
        unfold Oper.wp
        rw [hrun]
        have hsame : ∀ c, c ≠ b' → w'.heap[c]? = w.heap[c]? := fun c hc => by
          show (w.heap.setIfInBounds b' _)[c]? = w.heap[c]?
          exact Array.getElem?_setIfInBounds_ne (by omega)
        have hbel : Below b' w w' := ⟨rfl, rfl, rfl, by simp [w'], fun c hc => hsame c (by omega)⟩
        have hfits : Fits (hget s.heap id) ⟨.iter, (v.1, v.2 + (Utf8.decode ⟨v.1.toArray⟩ v.2).2)⟩ := by
          rw [he]
          exact ⟨fun e xs h => (by cases h), fun _ => ⟨rfl, fun e ys h => (by cases h)⟩⟩
        obtain ⟨hW, hA⟩ := hR.wrel.update hid hb' hbel hsame hfits (by
          unfold ObjAt
          rw [hget_hset_same _ _ _ hid]
          refine ⟨b', hb', hge, hnU, ?_⟩
          show (w.heap.setIfInBounds b' _)[b']? = _
          simp [hlt])
        refine putC_ok (s1 := ⟨s.regs, hset s.heap id ⟨.iter, (v.1, v.2 + (Utf8.decode ⟨v.1.toArray⟩ v.2).2)⟩, s.app⟩) hn ⟨hR.defers, hR.size, fun i => (hR.regs i).adv (hA []) (avoids_nil _), hW⟩ (.inr ⟨rfl, ?_⟩) (hA _) (fun _ _ h => h) hk
        simp only [EncM, Value.cells]
        exact ⟨_, rfl, .bool true, _, rfl, .inr ⟨rfl, by simp [EncM, Value.cells]⟩, .int .i64 v.2, _, rfl, .inr ⟨rfl, by simp [EncM, Value.cells]⟩, _, _, rfl, .inr ⟨rfl, by simp [EncM, Value.cells]⟩, rfl⟩
      | false =>
        rw [hd] at hk
        simp only [cond_false] at hk
        have hd : ¬ v.2 < v.1.length := by simpa using hd
        have hrun : (execOp a.eval o).run S.P w = .ok (.value (.tuple #[.bool false])) w := by
          simp only [execOp, hop, hv, Instr.next, getObj, Sem.run_bind, Sem.run, hw, Result.andThen_ok, hsz, hd, if_false, Sem.run_pure]
        refine value_ok hn hR hrun (.inr ⟨rfl, ?_⟩) hk
        simp only [EncM, Value.cells]
        exact ⟨_, rfl, .bool false, _, rfl, .inr ⟨rfl, by simp [EncM, Value.cells]⟩, rfl⟩
    · cases hk
  · cases hk

/-- A row's cells as one list. -/
theorem rowCells {w : World} {U : Nat → Prop} {β : Nat → Blk} {H : Heap} {e : Ty} {xs : List e.den} {b off : Nat} (h : ∀ i (hi : i < xs.length), ∃ cs, EncM w U β H false e xs[i] cs ∧ cellsAt w b (off + i * e.csize) cs) :
    ∃ news : List Value, news.length = xs.length * e.csize ∧ cellsAt w b off news ∧ ∀ i (hi : i < xs.length), ∃ cs, EncM w U β H false e xs[i] cs ∧ ∀ j (hj : j < cs.length), news[i * e.csize + j]? = some cs[j] := by
  have hk : ∀ k, k < xs.length * e.csize → ∃ v, w.cell? ⟨b, off + k, none⟩ = some v := by
    intro k hk
    have hpos : 0 < e.csize := by
      rcases Nat.eq_zero_or_pos e.csize with h0 | h0
      · rw [h0, Nat.mul_zero] at hk; omega
      · exact h0
    obtain ⟨cs, h1, h2⟩ := h (k / e.csize) (by rw [Nat.div_lt_iff_lt_mul hpos]; exact hk)
    have h3 := h2 (k % e.csize) (by rw [h1.len]; exact Nat.mod_lt _ hpos)
    have h4 := Nat.div_add_mod k e.csize
    rw [Nat.add_assoc, Nat.mul_comm, h4] at h3
    exact ⟨_, h3⟩
  refine ⟨(List.range (xs.length * e.csize)).map fun k => (w.cell? ⟨b, off + k, none⟩).getD undef, by simp, fun j hj => ?_, fun i hi => ?_⟩
  · simp only [List.length_map, List.length_range] at hj
    obtain ⟨v, hv⟩ := hk j hj
    simp [hv]
  · obtain ⟨cs, h1, h2⟩ := h i hi
    refine ⟨cs, h1, fun j hj => ?_⟩
    have hl := h1.len
    have hlt : i * e.csize + j < xs.length * e.csize := by
      have : (i + 1) * e.csize ≤ xs.length * e.csize := Nat.mul_le_mul_right _ hi
      rw [Nat.succ_mul] at this
      omega
    have h3 := h2 j hj
    rw [Nat.add_assoc] at h3
    simp [hlt, h3]

theorem first_ok {P : Program} {w w' : World} {b off n c size : Nat} {news : List Value} (hl : news.length = n * size) (h : cellsAt w b off news) (hw : (∃ o, w.heap[b]? = some o) → w'.heap[b]? = w.heap[b]?) :
    (Builtin.firstCells size n (.slice (some ⟨b, off, none⟩) n c)).run P w' = .ok news.toArray w' := by
  have hb : ∀ j v, news[j]? = some v → w'.cell? ((⟨b, off, none⟩ : Addr).add j) = some v := by
    intro j v hj
    obtain ⟨hj', rfl⟩ := List.getElem?_eq_some_iff.1 hj
    rw [addr_add]
    have := h j hj'
    rw [← this]
    have hlt := World.block_lt_of_cell? w _ this
    exact World.cell?_of_block (hw ⟨_, Array.getElem?_eq_getElem hlt⟩)
  have := run_loadCells_list (P := P) w' _ _ hb
  rw [hl] at this
  simpa [Builtin.firstCells] using this

/-- The elements of what is appended or turned into a string: its length, and its cells, in the world and behind a draw. -/
theorem elemsC_ok {P : Program} {E : Env} {e : Ty} {X : TV} {vx : Value} {k : List e.den → Option α} {B : Nat} (hH : HRel w U β s.heap B) (hx : EncV w U β s.heap X vx) (h : elemsC s e X k = some r) :
    ∃ (ys : List e.den) (news : List Value) (m : Nat), k ys = some r ∧ ys.length = m ∧ (∀ w' : World, (Builtin.lenOf vx).run P w' = .ok m w') ∧ news.length = m * e.csize ∧
      (∀ w' : World, (∀ b : Nat, (∃ o, w.heap[b]? = some o) → w'.heap[b]? = w.heap[b]?) → (Builtin.firstCells e.csize m vx).run P w' = .ok news.toArray w') ∧
      ∀ i (hi : i < ys.length), ∃ cs, EncM w U β s.heap false e ys[i] cs ∧ ∀ j (hj : j < cs.length), news[i * e.csize + j]? = some cs[j] := by
  obtain ⟨T, x⟩ := X
  cases T with
  | nils =>
    simp only [elemsC] at h
    have hm := hx.one rfl rfl
    simp only [EncM] at hm
    obtain ⟨c, hv⟩ := hm
    obtain rfl := (List.cons.inj hv).1
    exact ⟨[], [], 0, h, rfl, fun w' => by simp [Builtin.lenOf], by simp, fun w' _ => by simp [Builtin.firstCells], fun i hi => absurd hi (by simp)⟩
  | list a =>
    simp only [elemsC] at h
    split at h
    · rename_i ys hc
      have hc := cast_some hc
      cases hc
      have hm := hx.one rfl rfl
      simp only [EncM] at hm
      obtain ⟨A, c, hv, hcap, hel⟩ := hm
      obtain rfl := (List.cons.inj hv).1
      by_cases h0 : 0 < List.length ys
      · obtain ⟨b, off, rfl, hU, hel⟩ := hel h0
        obtain ⟨news, h1, h2, h3⟩ := rowCells hel
        exact ⟨ys, news, _, h, rfl, fun w' => by simp [Builtin.lenOf], h1, fun w' hw' => first_ok h1 h2 (hw' b), h3⟩
      · have : ys = [] := List.eq_nil_of_length_eq_zero (by omega)
        subst this
        refine ⟨[], [], 0, h, rfl, fun w' => by simp [Builtin.lenOf], by simp, fun w' _ => ?_, fun i hi => absurd hi (by simp)⟩
        cases A with
        | none => simp [Builtin.firstCells]
        | some A => simpa [Builtin.firstCells] using run_loadCells_list (P := P) w' A [] (by simp)
    · cases h
  | str =>
    simp only [elemsC] at h
    split at h
    · rename_i ys hc
      have hc := cast_some hc
      cases hc
      obtain rfl := hx.str
      have hsz : (⟨List.toArray x⟩ : ByteArray).size = List.length x := by simp [ByteArray.size]
      refine ⟨_, x.map fun b => .int .u8 b.toNat, x.length, h, by simp [intsOf], fun w' => by simp [Builtin.lenOf, hsz], by simp [Ty.csize], fun w' _ => ?_, fun i hi => ?_⟩
      · have he : (⟨List.toArray x⟩ : ByteArray).extract 0 (List.length x) = ⟨List.toArray x⟩ := by
          rw [extract_cut]; simp [cut]
        simp only [Builtin.firstCells, he, Sem.run_pure]
        congr 1
        apply Array.ext'
        simp
      · simp only [intsOf, List.length_map] at hi
        refine ⟨[.int .u8 (x[i]).toNat], by simp [EncM, intsOf], fun j hj => ?_⟩
        obtain rfl : j = 0 := by simp at hj; omega
        simp [Ty.csize, hi]
    · cases h
  | slw id =>
    simp only [elemsC] at h
    split at h
    · rename_i a xs he
      split at h
      · rename_i ys hc
        have hc := cast_some hc
        cases hc
        have hm := hx.one rfl rfl
        simp only [EncM] at hm
        obtain ⟨a', xs', h0, he', hv⟩ := hm
        obtain rfl := (List.cons.inj hv).1
        rw [he] at he'
        cases he'
        obtain ⟨_, hrow⟩ := (hH.obj id h0).row he
        rcases hrow with ⟨hb, _, rfl⟩ | ⟨b, arr, el, fr, hb, _, _, hw, hsz, hcap, _, hel⟩
        · refine ⟨[], [], 0, h, rfl, fun w' => by simp [Builtin.lenOf], by simp, fun w' _ => ?_, fun i hi => absurd hi (by simp)⟩
          rw [hb]; simp [Builtin.firstCells]
        · obtain ⟨news, h1, h2, h3⟩ := rowCells (w := w) (b := b) (off := 0) (fun i hi => by
            obtain ⟨cs, h4, h5⟩ := hel i hi
            refine ⟨cs, h4, fun j hj => ?_⟩
            simp only [World.cell?, hw, Nat.zero_add]
            simpa using h5 j hj)
          refine ⟨ys, news, _, h, rfl, fun w' => by simp [Builtin.lenOf], h1, fun w' hw' => ?_, h3⟩
          rw [hb]
          exact first_ok h1 h2 (hw' b)
      · cases h
    · cases h
  | slv id =>
    simp only [elemsC] at h
    split at h
    · rename_i a xs he
      split at h
      · rename_i ys hc
        have hc := cast_some hc
        cases hc
        have hm := hx.one rfl rfl
        simp only [EncM] at hm
        obtain ⟨a', xs', A, c, h0, he', hv, hcap', hle, hA⟩ := hm
        obtain rfl := (List.cons.inj hv).1
        rw [he] at he'
        cases he'
        have hcl : (cut xs x.1 (x.1 + x.2)).length = x.2 := by rw [cut_length _ _ _ hle]; omega
        by_cases hpos : 0 < x.2
        · obtain ⟨b, hb, rfl⟩ := hA hpos
          obtain ⟨_, hrow⟩ := (hH.obj id h0).row he
          rcases hrow with ⟨hb', _, _⟩ | ⟨b', arr, el, fr, hb', _, _, hw, hsz, hcap, _, hel⟩
          · rw [hb'] at hb; cases hb
          · obtain rfl : b' = b := by rw [hb'] at hb; exact Option.some.inj hb
            obtain ⟨news, h1, h2, h3⟩ := rowCells (w := w) (xs := cut xs x.1 (x.1 + x.2)) (b := b') (off := x.1 * e.csize) (fun i hi => by
              obtain ⟨hi', hc'⟩ := cut_getElem xs x.1 (x.1 + x.2) i hi
              obtain ⟨cs, h4, h5⟩ := hel (x.1 + i) hi'
              refine ⟨cs, by rw [hc']; exact h4, fun j hj => ?_⟩
              simp only [World.cell?, hw]
              rw [← Nat.add_mul]
              simpa using h5 j hj)
            rw [hcl] at h1
            exact ⟨_, news, x.2, h, hcl, fun w' => by simp [Builtin.lenOf], h1, fun w' hw' => first_ok h1 h2 (hw' b'), h3⟩
        · have h2 : x.2 = 0 := by omega
          have hnil : cut xs x.1 (x.1 + x.2) = [] := List.eq_nil_of_length_eq_zero (by omega)
          rw [hnil] at h
          refine ⟨[], [], 0, h, rfl, fun w' => by simp [Builtin.lenOf, h2], by simp, fun w' _ => ?_, fun i hi => absurd hi (by simp)⟩
          cases A with
          | none => simp [Builtin.firstCells]
          | some A => simpa [Builtin.firstCells] using run_loadCells_list (P := P) w' A [] (by simp)
      · cases h
    · cases h
  | _ => simp [elemsC] at h
end
end Go.Dp
/- What an append forgets, and what it does. -/
set_option autoImplicit false
set_option linter.unusedVariables false
set_option linter.unusedSimpArgs false
namespace Go.Dp
open Go.RowKit

section
variable {w : World} {U : Nat → Prop} {β : Nat → Blk} {H : Heap} {p : Nat → Bool}

theorem kill_shape : ∀ (t : Ty) (v : t.den), (killV p t v).t.shape = t.shape := by
  intro t
  induction t with
  | scons a r iha ihr => intro v; simp only [killV, Ty.shape]; rw [iha, ihr]
  | tup r ih => intro v; rfl
  | fn f c ih => intro v; rfl
  | hl r ih => intro v; simp only [killV]; cases r.pure <;> rfl
  | list e ih => intro v; simp only [killV]; cases e.pure <;> rfl
  | xls e ih => intro v; simp only [killV]; cases e.pure <;> rfl
  | ref e ih => intro v; simp only [killV]; cases e.pure <;> rfl
  | iface t e ih => intro v; simp only [killV]; cases e.pure <;> rfl
  | slw j => intro v; simp only [killV]; cases p j <;> rfl
  | slv j => intro v; simp only [killV]; cases p j <;> rfl
  | loc j i q => intro v; simp only [killV]; cases (p j && i) <;> rfl
  | _ => intro v; rfl

theorem isAgg_shape : ∀ t : Ty, t.shape.isAgg = t.isAgg := by
  intro t; cases t <;> rfl

theorem kill_isAgg (t : Ty) (v : t.den) : (killV p t v).t.isAgg = t.isAgg := by
  rw [← isAgg_shape, kill_shape, isAgg_shape]


variable {w' : World} {U' : Nat → Prop} {β' : Nat → Blk} {H' : Heap}

theorem EncM.forget {t : Ty} {x : t.den} {l : List Value} (hn : t.noTup = true) (hc : t.csize = 1) (h : EncM w U β H false t x l) : EncM w' U' β' H' false .unk () l := by
  have hl := h.len
  rw [hc] at hl
  obtain ⟨v, rfl⟩ := List.length_eq_one_iff.1 hl
  simp only [EncM]
  exact ⟨v, rfl, noTup_cells _ _ _ hn h v (by simp)⟩

variable {app : List Nat}

theorem EncM.kill (hp : ∀ id, id ∈ app → p id = true) (hA : Adv w U β H w' U' β' H' app) : ∀ (t : Ty) (m : Bool) (x : t.den) (l : List Value), EncM w U β H m t x l → EncM w' U' β' H' m (killV p t x).t (killV p t x).v l := by
  intro t
  induction t with
  | scons a r iha ihr =>
    intro m x l h
    cases m <;> simp only [EncM] at h
    · obtain ⟨l1, l2, rfl, h1, h2⟩ := h
      simp only [killV, EncM]
      exact ⟨l1, l2, rfl, iha false _ _ h1, ihr false _ _ h2⟩
    · obtain ⟨v, l2, rfl, h1, h2⟩ := h
      simp only [killV, EncM]
      refine ⟨v, l2, rfl, ?_, ihr true _ _ h2⟩
      rcases h1 with h1 | ⟨h1, h3⟩
      · cases a <;> simp [Ty.isUnk] at h1
        exact .inl rfl
      · exact .inr ⟨by rw [kill_isAgg]; exact h1, iha false _ _ h3⟩
  | tup r ih =>
    intro m x l h
    cases m <;> simp only [EncM] at h
    obtain ⟨vs, rfl, h⟩ := h
    simp only [killV, EncM]
    exact ⟨vs, rfl, ih true _ _ h⟩
  | fn f c ih =>
    intro m x l h
    cases m <;> simp only [EncM] at h
    obtain ⟨vs, rfl, h⟩ := h
    simp only [killV, EncM]
    exact ⟨vs, rfl, ih true _ _ h⟩
  | hl r ih =>
    intro m x l h
    simp only [killV]
    cases hpu : r.pure with
    | true => exact h.adv hA _ _ _ _ (avoids_of_pure _ _ hpu)
    | false =>
      cases m
      · exact h.forget rfl rfl
      · simp [EncM] at h
  | list e ih =>
    intro m x l h
    simp only [killV]
    cases hpu : e.pure with
    | true => exact h.adv hA _ _ _ _ (avoids_of_pure _ _ hpu)
    | false =>
      cases m
      · exact h.forget rfl rfl
      · simp [EncM] at h
  | xls e ih =>
    intro m x l h
    simp only [killV]
    cases hpu : e.pure with
    | true => exact h.adv hA _ _ _ _ (avoids_of_pure _ _ hpu)
    | false =>
      cases m
      · exact h.forget rfl rfl
      · simp [EncM] at h
  | ref e ih =>
    intro m x l h
    simp only [killV]
    cases hpu : e.pure with
    | true => exact h.adv hA _ _ _ _ (avoids_of_pure _ _ hpu)
    | false =>
      cases m
      · exact h.forget rfl rfl
      · simp [EncM] at h
  | iface t e ih =>
    intro m x l h
    simp only [killV]
    cases hpu : e.pure with
    | true => exact h.adv hA _ _ _ _ (avoids_of_pure _ _ hpu)
    | false =>
      cases m
      · exact h.forget rfl rfl
      · simp [EncM] at h
  | slw j =>
    intro m x l h
    simp only [killV]
    cases hj : p j with
    | true =>
      cases m
      · exact h.forget rfl rfl
      · simp [EncM] at h
    | false => exact h.adv hA _ _ _ _ (show j ∉ app from fun e => by rw [hp j e] at hj; cases hj)
  | slv j =>
    intro m x l h
    simp only [killV]
    cases hj : p j with
    | true =>
      cases m
      · exact h.forget rfl rfl
      · simp [EncM] at h
    | false => exact h.adv hA _ _ _ _ (show j ∉ app from fun e => by rw [hp j e] at hj; cases hj)
  | selfp j T =>
    intro m x l h
    simp only [killV]
    exact h.adv hA _ _ _ _ trivial
  | loc j i q =>
    intro m x l h
    simp only [killV]
    cases hj : (p j && i) with
    | true =>
      cases m
      · exact h.forget rfl rfl
      · simp [EncM] at h
    | false => exact h.adv hA _ _ _ _ (show i = true → j ∉ app from fun e e' => by rw [hp j e', e] at hj; cases hj)
  | arr n e ih =>
    intro m x l h
    cases m
    · have hpu : e.pure = true := by simp only [EncM] at h; exact h.1
      exact h.adv hA _ _ _ _ (avoids_of_pure _ _ hpu)
    · simp [EncM] at h
  | row e ih => intro m x l h; cases m <;> simp [EncM] at h
  | mobj k v ihk ihv => intro m x l h; cases m <;> simp [EncM] at h
  | fnu fs => intro m x l h; exact h.adv hA _ _ _ _ trivial
  | sint k => intro m x l h; exact h.adv hA _ _ _ _ trivial
  | mapp id => intro m x l h; exact h.adv hA _ _ _ _ trivial
  | bm f c ih =>
    intro m x l h
    cases m <;> simp only [EncM] at h
    obtain ⟨vs, rfl, h⟩ := h
    simp only [killV, EncM]
    exact ⟨vs, rfl, ih true _ _ h⟩
  | iter => intro m x l h; cases m <;> simp [EncM] at h
  | unk => intro m x l h; exact h.adv hA _ _ _ _ trivial
  | int k => intro m x l h; exact h.adv hA _ _ _ _ trivial
  | bool => intro m x l h; exact h.adv hA _ _ _ _ trivial
  | str => intro m x l h; exact h.adv hA _ _ _ _ trivial
  | nilf => intro m x l h; exact h.adv hA _ _ _ _ trivial
  | nils => intro m x l h; exact h.adv hA _ _ _ _ trivial
  | nilp => intro m x l h; exact h.adv hA _ _ _ _ trivial
  | nili => intro m x l h; exact h.adv hA _ _ _ _ trivial
  | nilm => intro m x l h; exact h.adv hA _ _ _ _ trivial
  | snil => intro m x l h; exact h.adv hA _ _ _ _ trivial

theorem EncV.kill (hp : ∀ id, id ∈ app → p id = true) (hA : Adv w U β H w' U' β' H' app) {x : TV} {v : Value} (h : EncV w U β H x v) : EncV w' U' β' H' (killT p x) v := by
  rcases h with h | ⟨h1, h2⟩
  · obtain ⟨t, x⟩ := x
    cases t <;> simp [Ty.isUnk] at h
    exact .inl rfl
  · exact .inr ⟨by unfold killT; rw [kill_isAgg]; exact h1, h2.kill hp hA _ _ _ _⟩

theorem hget_killH : ∀ (H : Heap) (i : Nat), hget (killH p H) i = killT p (hget H i) := by
  intro H
  induction H with
  | nil => intro i; simp [killH, hget, killT, killV]
  | cons x l ih =>
    intro i
    cases i with
    | zero => rfl
    | succ i => exact ih i
theorem length_killH : ∀ H : Heap, (killH p H).length = H.length := by
  intro H
  induction H with
  | nil => rfl
  | cons x l ih => simp [killH, ih]
theorem look_killR : ∀ (l : List (Nat × TV)) (i : Nat), lookTV (killR p l) i = killT p (lookTV l i) := by
  intro l
  induction l with
  | nil => intro i; rfl
  | cons p l ih =>
    obtain ⟨j, x⟩ := p
    intro i
    simp only [killR, lookTV]
    cases Nat.beq j i with
    | true => rfl
    | false => exact ih i

theorem kill_row {e : Ty} {xs : List e.den} : killT p ⟨.row e, xs⟩ = ⟨.row e, xs⟩ := rfl
theorem kill_notRow {x : TV} (h : ∀ e xs, x ≠ ⟨.row e, xs⟩) : ∀ e xs, killT p x ≠ ⟨.row e, xs⟩ := by
  intro e xs he
  obtain ⟨t, v⟩ := x
  cases t <;> simp only [killT, killV] at he <;> first
    | (cases he; done)
    | (exact h _ _ rfl)
    | (revert he; cases Ty.pure _ <;> intro he <;> cases he; done)
    | (revert he; cases p _ <;> intro he <;> cases he; done)
    | (revert he; cases (p _ && _) <;> intro he <;> cases he; done)
end

section
variable {S : Base} {n : Nat} {U : Nat → Prop} {β : Nat → Blk} {s : St} {a : Act} {w w' : World} {α : Type} {k : St → Option α} {r : α} {h : Hint} {Q : Exit → Act → World → Prop} {o : Oper}

/-- An append's step: the row has more elements, in its block or in a new one. -/
theorem Adv.appended {H : Heap} {id : Nat} {bl : Blk} {e : Ty} {xs ys : List e.den} (hid : id < H.length) (he : hget H id = ⟨.row e, xs⟩) (hU : ∀ b, U b → w'.heap[b]? = w.heap[b]?)
    (hk : ∀ c, c < w.heap.size → (β id).blk ≠ some c → w'.heap[c]? = w.heap[c]?) (hbl : bl.blk = (β id).blk ∨ ∀ c, bl.blk = some c → w.heap.size ≤ c) :
    Adv w U β H w' U (setB β id bl) (killH (Nat.beq id) (hset H id ⟨.row e, ys⟩)) [id] where
  use _ h := h
  same b h := hU b h
  len := by rw [length_killH, length_hset]; exact Nat.le_refl _
  row i e' xs' hl he' := by
    rw [hget_killH]
    by_cases e1 : i = id
    · subst e1
      rw [he] at he'
      cases he'
      exact ⟨ys, by rw [hget_hset_same _ _ _ hid, kill_row], fun hn => absurd (List.mem_singleton.2 rfl) hn⟩
    · exact ⟨xs', by rw [hget_hset_ne _ _ _ _ e1, he', kill_row], fun _ => ⟨rfl, by simp [setB, e1]⟩⟩
  box i hl hn := by
    rw [hget_killH]
    have e1 : i ≠ id := fun e1 => by subst e1; exact hn _ _ he
    rw [hget_hset_ne _ _ _ _ e1]
    exact ⟨by simp [setB, e1], kill_shape _ _, kill_notRow hn⟩
  keep b hb hu hn := ⟨hk b hb (hn id hid), hu, fun i hi h => by
    rw [length_killH, length_hset] at hi
    simp only [setB] at h
    split at h
    · rcases hbl with e | e
      · rw [e] at h; exact hn id hid h
      · have := e b h; omega
    · exact hn i hi h⟩

theorem ObjAt.kill {H H' : Heap} {B i : Nat} {app : List Nat} {p : Nat → Bool} {β' : Nat → Blk} {U' : Nat → Prop} (hp : ∀ id, id ∈ app → p id = true) (hA : Adv w U β H w' U' β' H' app) (h : ObjAt w U β H B i) (hg : hget H' i = killT p (hget H i)) (hb : β' i = β i) (hs : ∀ b, (β i).blk = some b → w'.heap[b]? = w.heap[b]? ∧ ¬ U' b) :
    ObjAt w' U' β' H' B i := by
  by_cases ho : (hget H i).t.isObj = true
  · refine h.adv hA ?_ hb hs ?_
    · rw [hg]
      generalize hget H i = z at *
      obtain ⟨t, v⟩ := z
      cases t <;> simp [Ty.isObj] at ho <;> rfl
    · generalize hget H i = z at *
      obtain ⟨t, v⟩ := z
      cases t <;> simp [Ty.isObj] at ho <;> trivial
  · have ho : (hget H i).t.isObj = false := by simpa using ho
    obtain ⟨b, cs, el, fr, h1, h2, h3, h4, h5, h6, h7⟩ := h.box ho
    have key : ∃ b cs el fr, (β' i).blk = some b ∧ B ≤ b ∧ ¬ U' b ∧ w'.heap[b]? = some (.cells cs el fr) ∧ (∀ j, j < cs.size → ¬ (fr.1 ≤ j ∧ j < fr.2)) ∧ EncM w' U' β' H' false (hget H' i).t (hget H' i).v cs.toList ∧ (β' i).cap = el :=
      ⟨b, cs, el, fr, by rw [hb]; exact h1, h2, (hs b h1).2, (hs b h1).1.trans h4, h5, by rw [hg]; exact h6.kill hp hA _ _ _ _, by rw [hb]; exact h7⟩
    have ho' : (hget H' i).t.isObj = false := by
      rw [hg]
      have := h6.kill hp hA _ _ _ _
      unfold killT
      generalize killV p (hget H i).t (hget H i).v = z at *
      obtain ⟨t, v⟩ := z
      cases t <;> first | rfl | (simp [EncM] at this; done)
    unfold ObjAt
    generalize hget H' i = z at *
    obtain ⟨t, v⟩ := z
    cases t <;> first | (simp [Ty.isObj] at ho'; done) | exact key
end
end Go.Dp
/- Appends. -/
set_option autoImplicit false
set_option linter.unusedVariables false
set_option linter.unusedSimpArgs false
namespace Go.Dp
open Go.RowKit

section
variable {S : Base} {n : Nat} {U : Nat → Prop} {β : Nat → Blk} {s : St} {a : Act} {w w' : World} {α : Type} {k : St → Option α} {r : α} {h : Hint} {Q : Exit → Act → World → Prop} {o : Oper}

theorem seq_notInt {P : Program} {E : Env} (hT : TIok P E) {u : Nat} (hu : isSeq (tiOf E u).td = true) : ∃ d, P.underlying u = some d ∧ ((∃ e, d = .slice e) ∨ d = .string) := by
  obtain ⟨info, d, hK⟩ := hT.known_td (t := u) (by intro e; rw [e] at hu; simp [isSeq] at hu)
  refine ⟨d, hK.und, ?_⟩
  have := hK.td
  cases d <;> first | exact .inl ⟨_, rfl⟩ | exact .inr rfl | (rw [← this] at hu; simp [tdOf, isSeq] at hu)

set_option maxHeartbeats 1000000 in
/-- In place. -/
theorem run_append_in {P : Program} {E : Env} (hT : TIok P E) {t u et ty : Nat} (htd : (tiOf E t).td = .slice et) (hu : isSeq (tiOf E u).td = true) (hkn : ∃ info d, Known P E et info d) {A : Option Addr} {m c l : Nat} {vx : Value} {news : List Value}
    (hl : ∀ w', (Builtin.lenOf vx).run P w' = .ok l w') (hf : (Builtin.firstCells (tiOf E et).size l vx).run P w = .ok news.toArray w) (hroom : m + l ≤ c)
    (hst : ∀ a, A = some a → (storeCells (a.add (m * (tiOf E et).size)) news).run P w = .ok () w') (hnone : A = none → w' = w) :
    (Builtin.append_ #[t, u] ty #[.slice A m c, vx]).run P w = .ok (.slice A (m + l) c) w' := by
  obtain ⟨info, d, hK⟩ := hT.known_td (t := t) (by rw [htd]; simp)
  obtain rfl := td_slice (hK.td.trans htd)
  obtain ⟨info', d', hK'⟩ := hkn
  obtain ⟨du, hdu, hni⟩ := seq_notInt hT hu
  cases A with
  | none =>
    obtain rfl := hnone rfl
    rcases hni with ⟨e, rfl⟩ | rfl <;> simp [Builtin.append_, run_underlying hK.und, run_underlying hdu, hK'.runS, hl w', hroom, hf]
  | some a =>
    have := hst a rfl
    rcases hni with ⟨e, rfl⟩ | rfl <;> simp [Builtin.append_, run_underlying hK.und, run_underlying hdu, hK'.runS, hl w, hroom, hf, this]

set_option maxHeartbeats 1000000 in
/-- To a new array. -/
theorem run_append_out {P : Program} {E : Env} (hT : TIok P E) {t u et ty : Nat} (htd : (tiOf E t).td = .slice et) (hu : isSeq (tiOf E u).td = true) (hkn : ∃ info d, Known P E et info d) (hz : (tiOf E et).ty.zOK = true) {A : Option Addr} {m c l : Nat} {vx : Value} {olds news : List Value}
    (hl : ∀ w', (Builtin.lenOf vx).run P w' = .ok l w') (hf : (Builtin.firstCells (tiOf E et).size l vx).run P w.drew = .ok news.toArray w.drew) (ho : (Builtin.firstCells (tiOf E et).size m (.slice A m c)).run P w.drew = .ok olds.toArray w.drew)
    (hroom : ¬ m + l ≤ c) (hb : 0 < (tiOf E et).bytes) (hmax : (m + l) * (tiOf E et).bytes ≤ maxRoom) :
    (Builtin.append_ #[t, u] ty #[.slice A m c, vx]).run P w = .ok (.slice (some ⟨w.heap.size, 0, none⟩) (m + l) (grownCap w (m + l) c et))
      (w.drew.alloc (.cells (olds.toArray ++ news.toArray ++ Builtin.zeroCells (zval (tiOf E et).ty).cells (grownCap w (m + l) c et - (m + l))) et)) := by
  obtain ⟨info, d, hK⟩ := hT.known_td (t := t) (by rw [htd]; simp)
  obtain rfl := td_slice (hK.td.trans htd)
  obtain ⟨info', d', hK'⟩ := hkn
  obtain ⟨du, hdu, hni⟩ := seq_notInt hT hu
  have hneed : m + l ≤ maxRoom := by
    have : (m + l) * 1 ≤ (m + l) * (tiOf E et).bytes := Nat.mul_le_mul_left _ hb
    omega
  have h63 : ¬ (9223372036854775807 < ((m : Int) + (l : Int))) := by unfold maxRoom at hneed; omega
  have h48 : ¬ (281474976710656 < Builtin.nextslicecap (m + l) c * info'.bytes) := by
    have := growslice_fits (old := c) (need := m + l) (bytes := info'.bytes) (by omega) (by rw [hK'.bytes]; exact hmax)
    omega
  rcases hni with ⟨e, rfl⟩ | rfl
  all_goals
    simp [Builtin.append_, run_underlying hK.und, run_underlying hdu, hK'.runS, hK'.runT, hl w, hroom, h63, h48, Question.forced, hf, ho, zeroValue, hK'.zero hz, newRow, grownCap]
    congr 2
    apply Array.ext'
    simp [List.append_assoc]

theorem row_cells {B id : Nat} {H : Heap} (hH : HRel w U β H B) {e : Ty} {xs : List e.den} (hid : id < H.length) (he : hget H id = ⟨.row e, xs⟩) :
    ((β id).blk = none ∧ (β id).cap = 0 ∧ xs = []) ∨ ∃ b arr el fr olds, (β id).blk = some b ∧ B ≤ b ∧ ¬ U b ∧ w.heap[b]? = some (.cells arr el fr) ∧ arr.size = (β id).cap * e.csize ∧ xs.length ≤ (β id).cap ∧ (∀ j, j < arr.size → ¬ (fr.1 ≤ j ∧ j < fr.2)) ∧
      olds.length = xs.length * e.csize ∧ cellsAt w b 0 olds ∧ (∀ i (h : i < xs.length), ∃ cs, EncM w U β H false e xs[i] cs ∧ ∀ j (h : j < cs.length), olds[i * e.csize + j]? = some cs[j]) ∧ (∀ i, i < olds.length → arr[i]? = olds[i]?) := by
  obtain ⟨_, hrow⟩ := (hH.obj id hid).row he
  rcases hrow with h0 | ⟨b, arr, el, fr, hb, hge, hnU, hw, hsz, hcap, hfr, hel⟩
  · exact .inl h0
  · obtain ⟨olds, h1, h2, h3⟩ := rowCells (w := w) (b := b) (off := 0) (fun i hi => by
      obtain ⟨cs, h4, h5⟩ := hel i hi
      refine ⟨cs, h4, fun j hj => ?_⟩
      simp only [World.cell?, hw, Nat.zero_add]
      simpa using h5 j hj)
    refine .inr ⟨b, arr, el, fr, olds, hb, hge, hnU, hw, hsz, hcap, hfr, h1, h2, h3, fun i hi => ?_⟩
    have := h2 i hi
    simp only [World.cell?, hw, Nat.zero_add] at this
    rw [List.getElem?_eq_getElem hi]
    simpa using this

theorem drew_heap (w : World) : w.drew.heap = w.heap := rfl

theorem beqMem {id : Nat} : ∀ i, i ∈ [id] → Nat.beq id i = true := by
  intro i h
  rw [List.mem_singleton.1 h]
  exact Nat.beq_refl id

theorem killElem {H H' : Heap} {β' : Nat → Blk} {U' : Nat → Prop} {id : Nat} (hA : Adv w U β H w' U' β' H' [id]) {e : Ty} (hp : e.elem = true) {x : e.den} {cs : List Value} (h : EncM w U β H false e x cs) : EncM w' U' β' H' false e x cs :=
  h.adv hA _ _ _ _ (avoids_of_pure _ _ (elem_pure hp))

theorem joinEl {H : Heap} {e : Ty} {xs ys : List e.den} {olds news : List Value} {m : Nat} (hm : ys.length = m) (hol : olds.length = xs.length * e.csize) (hnl : news.length = m * e.csize)
    (hoel : ∀ i (h : i < xs.length), ∃ cs, EncM w U β H false e xs[i] cs ∧ ∀ j (h : j < cs.length), olds[i * e.csize + j]? = some cs[j])
    (hel : ∀ i (h : i < ys.length), ∃ cs, EncM w U β H false e ys[i] cs ∧ ∀ j (h : j < cs.length), news[i * e.csize + j]? = some cs[j]) :
    ∀ i (h : i < (xs ++ ys).length), ∃ cs, EncM w U β H false e (xs ++ ys)[i] cs ∧ ∀ j (h : j < cs.length), (olds ++ news)[i * e.csize + j]? = some cs[j] := by
  intro i hi
  by_cases h1 : i < xs.length
  · obtain ⟨cs, h2, h3⟩ := hoel i h1
    refine ⟨cs, by rw [List.getElem_append_left h1]; exact h2, fun j hj => ?_⟩
    have h4 := h3 j hj
    have hlt : i * e.csize + j < olds.length := by
      rcases Nat.lt_or_ge (i * e.csize + j) olds.length with g | g
      · exact g
      · rw [List.getElem?_eq_none g] at h4; cases h4
    rw [List.getElem?_append_left hlt]
    exact h4
  · rw [List.length_append] at hi
    obtain ⟨cs, h2, h3⟩ := hel (i - xs.length) (by omega)
    refine ⟨cs, by rw [List.getElem_append_right (by omega)]; exact h2, fun j hj => ?_⟩
    have h4 : xs.length * e.csize ≤ i * e.csize := Nat.mul_le_mul_right _ (by omega)
    rw [List.getElem?_append_right (by omega), hol]
    have h5 : i * e.csize + j - xs.length * e.csize = (i - xs.length) * e.csize + j := by rw [Nat.sub_mul]; omega
    rw [h5]
    exact h3 j hj

/-- To a list whose capacity is its length: nothing but a list comes of it. -/
theorem appendX_ok (hT : TIok S.P S.E) (hn : h.n = n) (hR : FRel S n U β s a w) {t u : Nat} {x y : Operand} (hop : o.op = .call { callee := .builtin .append, args := #[x, y], argTypes := #[t, u] })
    {et : Nat} (htd : (tiOf S.E t).td = .slice et) {e : Ty} {xs : List e.den} {Y : TV} (hx : EncV w U β s.heap ⟨.xls e, xs⟩ (a.eval x)) (hy : EncV w U β s.heap Y (a.eval y))
    (hk : (bif e.elem && isSeq (tiOf S.E u).td && Nat.beq e.csize (tiOf S.E et).size && Nat.beq (tiOf S.E et).ty.csize (tiOf S.E et).size && (tiOf S.E et).ty.zOK && Nat.blt 0 (tiOf S.E et).bytes then
        elemsC s e Y fun ys =>
          bif decide ((xs.length + ys.length) * (tiOf S.E et).bytes ≤ maxRoom) then putC h s o.dst ⟨.list e, xs ++ ys⟩ k else none
        else none) = some r) : o.wp S.P a w (Handed S n U β s w k r) Q := by
  obtain ⟨h1, hk⟩ := bif_some hk
  obtain ⟨h1, hbp⟩ := and2 h1
  obtain ⟨h1, hz⟩ := and2 h1
  obtain ⟨h1, hcs⟩ := and2 h1
  obtain ⟨h1, hes⟩ := and2 h1
  obtain ⟨helem, hu⟩ := and2 h1
  have hes := beqN hes
  have hcs := beqN hcs
  have hbp := bltN hbp
  have hkn : ∃ info d, Known S.P S.E et info d := (hT.known et).resolve_right fun e => by rw [e] at hbp; simp at hbp
  obtain ⟨ys, news, m, hk, hm, hl, hnl, hf, hel'⟩ := elemsC_ok (P := S.P) (E := S.E) hR.wrel.heap hy hk
  obtain ⟨hmax, hk⟩ := bif_some hk
  have hmax := decT hmax
  have hm' := hx.one rfl rfl
  simp only [EncM] at hm'
  obtain ⟨A, c, hv, hc, hcells⟩ := hm'
  have hv := (List.cons.inj hv).1
  have hrunOp : ∀ {v : Value} {w' : World}, (Builtin.append_ #[t, u] o.type #[a.eval x, a.eval y]).run S.P w = .ok v w' → (execOp a.eval o).run S.P w = .ok (.value v) w' := by
    intro v w' hrun
    simp only [execOp, hop, resolve, invoke, builtin, Sem.run_bind, Sem.run_pure, Result.andThen_ok, List.map_toArray, List.map_cons, List.map_nil, hrun]
  rw [hes] at hf
  have hfw := hf w fun _ _ => rfl
  have hfd := hf w.drew fun _ _ => rfl
  have hylen : (xs ++ ys).length = xs.length + m := by rw [List.length_append, hm]
  by_cases h0 : m = 0
  · have hyn : ys = [] := List.eq_nil_of_length_eq_zero (by omega)
    have hnn : news = [] := List.eq_nil_of_length_eq_zero (by rw [hnl, h0]; simp)
    subst hyn hnn
    have hrun := run_append_in (w := w) (w' := w) (u := u) (ty := o.type) (A := A) (m := xs.length) (c := c) hT htd hu hkn hl hfw (by omega) (fun a _ => by simp [storeCells]) (fun _ => rfl)
    rw [← hv] at hrun
    refine value_ok hn hR (hrunOp hrun) (.inr ⟨rfl, ?_⟩) hk
    simp only [EncM, Value.cells]
    refine ⟨A, c, by rw [hylen], by rw [hylen]; omega, fun hp => ?_⟩
    obtain ⟨b, off, rfl, hU, hel⟩ := hcells (by simpa using hp)
    refine ⟨b, off, rfl, hU, ?_⟩
    simpa using hel
  · have hold : ∃ olds : List Value, olds.length = xs.length * e.csize ∧ (∀ i (h : i < xs.length), ∃ cs, EncM w U β s.heap false e xs[i] cs ∧ ∀ j (h : j < cs.length), olds[i * e.csize + j]? = some cs[j]) ∧
        (Builtin.firstCells (tiOf S.E et).size xs.length (.slice A xs.length c)).run S.P w.drew = .ok olds.toArray w.drew := by
      by_cases hp : 0 < xs.length
      · obtain ⟨b, off, rfl, hU, hel⟩ := hcells hp
        obtain ⟨olds, g1, g2, g3⟩ := rowCells hel
        exact ⟨olds, g1, g3, by rw [← hes]; exact first_ok g1 g2 (fun _ => rfl)⟩
      · have hxe : xs = [] := List.eq_nil_of_length_eq_zero (by omega)
        subst hxe
        exact ⟨[], by simp, fun i hi => absurd hi (by simp), by cases A <;> simp [Builtin.firstCells, loadCells, loadCellsFrom]⟩
    obtain ⟨olds, hol, hoel, hfo⟩ := hold
    have hrun := run_append_out (w := w) (u := u) (ty := o.type) hT htd hu hkn hz hl hfd hfo (by omega) hbp (by rw [hm] at hmax; exact hmax)
    rw [← hv] at hrun
    have hge := grownCap_ge w (xs.length + m) c et
    generalize hob : Obj.cells (olds.toArray ++ news.toArray ++ Builtin.zeroCells (zval (tiOf S.E et).ty).cells (grownCap w (xs.length + m) c et - (xs.length + m))) et = ob at hrun
    have hbel : Below w.heap.size w (w.drew.alloc ob) := ((Below.refl _ w).drew).alloc (Nat.le_refl _) _
    have hG := hR.grow hbel (withB_grow w.drew ob U)
    have hA : ∀ app, Adv w U β s.heap (w.drew.alloc ob) (withB U w.heap.size) β s.heap app := fun app => Adv.grow hbel.block hR.wrel.uin (fun b hb => .inl hb) (withB_un w U)
    unfold Oper.wp
    rw [hrunOp hrun]
    refine putC_ok hn hG (.inr ⟨rfl, ?_⟩) (hA _) (fun _ _ h => h) hk
    simp only [EncM, Value.cells]
    refine ⟨some ⟨w.heap.size, 0, none⟩, grownCap w (xs.length + m) c et, by rw [hylen], by rw [hylen]; exact hge, fun hp => ⟨w.heap.size, 0, rfl, .inr rfl, fun i hi => ?_⟩⟩
    obtain ⟨cs, g1, g2⟩ := joinEl hm hol hnl hoel hel' i hi
    refine ⟨cs, g1.adv (hA []) _ _ _ _ (avoids_nil _), fun j hj => ?_⟩
    have g3 := g2 j hj
    have hlt : i * e.csize + j < (olds ++ news).length := by
      rcases Nat.lt_or_ge (i * e.csize + j) (olds ++ news).length with g | g
      · exact g
      · rw [List.getElem?_eq_none g] at g3; cases g3
    have hat : (w.drew.alloc ob).heap[w.heap.size]? = some ob := heap_alloc_at w.drew ob
    simp only [World.cell?, hat, Nat.zero_add]
    rw [← hob]
    simp only []
    rw [Array.getElem?_append_left (by simpa using hlt), List.append_toArray, List.getElem?_toArray]
    exact g3

theorem appendC_ok (hT : TIok S.P S.E) (hn : h.n = n) (hR : FRel S n U β s a w) {t u : Nat} {x y : Operand} (hop : o.op = .call { callee := .builtin .append, args := #[x, y], argTypes := #[t, u] })
    (hk : appendC S.E h s o.dst t u (ev S.E s t x) (ev S.E s u y) k = some r) : o.wp S.P a w (Handed S n U β s w k r) Q := by
  have hx := hR.ev t x
  have hy := hR.ev u y
  generalize ev S.E s t x = X at hx hk
  generalize ev S.E s u y = Y at hy hk
  obtain ⟨T, xx⟩ := X
  unfold appendC at hk
  split at hk
  · rename_i et htd
    split at hk
    · rename_i _ id v' hX
      cases hX
      split at hk
      · rename_i e xs he
        obtain ⟨h1, hk⟩ := bif_some hk
        obtain ⟨h1, hbp⟩ := and2 h1
        obtain ⟨h1, hz⟩ := and2 h1
        obtain ⟨h1, hcs⟩ := and2 h1
        obtain ⟨hu, hes⟩ := and2 h1
        have hes := beqN hes
        have hcs := beqN hcs
        have hbp := bltN hbp
        have hkn : ∃ info d, Known S.P S.E et info d := (hT.known et).resolve_right fun e => by rw [e] at hbp; simp at hbp
        obtain ⟨ys, news, m, hk, hm, hl, hnl, hf, hel'⟩ := elemsC_ok (P := S.P) (E := S.E) hR.wrel.heap hy hk
        obtain ⟨hmax, hk⟩ := bif_some hk
        have hmax := decT hmax
        have hm' := hx.one rfl rfl
        simp only [EncM] at hm'
        obtain ⟨e', xs', hid, he', hv⟩ := hm'
        have hv := (List.cons.inj hv).1
        rw [he] at he'
        cases he'
        have helem := ((hR.wrel.heap.obj id hid).row he).1
        have hrunOp : ∀ {v : Value} {w' : World}, (Builtin.append_ #[t, u] o.type #[a.eval x, a.eval y]).run S.P w = .ok v w' → (execOp a.eval o).run S.P w = .ok (.value v) w' := by
          intro v w' hrun
          simp only [execOp, hop, resolve, invoke, builtin, Sem.run_bind, Sem.run_pure, Result.andThen_ok, List.map_toArray, List.map_cons, List.map_nil, hrun]
        have hone : ∀ v ∈ news, v.oneCell' = true := by
          intro v hv
          obtain ⟨k', hk', rfl⟩ := List.getElem_of_mem hv
          have hpos : 0 < e.csize := by
            rcases Nat.eq_zero_or_pos e.csize with h0 | h0
            · rw [h0, Nat.mul_zero] at hnl; omega
            · exact h0
          obtain ⟨cs, h2, h3⟩ := hel' (k' / e.csize) (by rw [Nat.div_lt_iff_lt_mul hpos, hm, ← hnl]; exact hk')
          have h6 : k' % e.csize < cs.length := by rw [h2.len]; exact Nat.mod_lt _ hpos
          have h4 := h3 (k' % e.csize) h6
          have h5 : k' / e.csize * e.csize + k' % e.csize = k' := by rw [Nat.mul_comm]; exact Nat.div_add_mod k' e.csize
          rw [h5, List.getElem?_eq_getElem hk'] at h4
          rw [Option.some.inj h4]
          exact noTup_cells _ _ _ (elem_noTup helem) h2 _ (List.getElem_mem _)
        rw [hes] at hf
        have hfw := hf w fun _ _ => rfl
        have hfd := hf w.drew fun _ _ => rfl
        have hylen : (xs ++ ys).length = xs.length + m := by rw [List.length_append, hm]
        -- what every way ends with
        have finish : ∀ {v : Value} {w' : World} {bl : Blk}, (Builtin.append_ #[t, u] o.type #[a.eval x, a.eval y]).run S.P w = .ok v w' →
            v = .slice (bl.blk.map fun b => ⟨b, 0, none⟩) (xs.length + m) bl.cap → Below S.w0.heap.size w w' → (∀ c, (∃ o, w.heap[c]? = some o) → (β id).blk ≠ some c → w'.heap[c]? = w.heap[c]?) →
            (bl.blk = (β id).blk ∨ ∀ c, bl.blk = some c → w.heap.size ≤ c) →
            (Adv w U β s.heap w' U (setB β id bl) (killH (Nat.beq id) (hset s.heap id ⟨.row e, xs ++ ys⟩)) [id] → ObjAt w' U (setB β id bl) (killH (Nat.beq id) (hset s.heap id ⟨.row e, xs ++ ys⟩)) S.w0.heap.size id) →
            o.wp S.P a w (Handed S n U β s w k r) Q := by
          intro v w' bl hrun hv' hbel hsame hbl hobj
          unfold Oper.wp
          rw [hrunOp hrun]
          have hU : ∀ c, U c → w'.heap[c]? = w.heap[c]? := fun c hc => by
            have hlt := hR.wrel.uin c hc
            refine hsame c ⟨_, Array.getElem?_eq_getElem hlt⟩ fun e => (hR.wrel.blk_lt hid e).2.2 hc
          have hA : Adv w U β s.heap w' U (setB β id bl) (killH (Nat.beq id) (hset s.heap id ⟨.row e, xs ++ ys⟩)) [id] := Adv.appended hid he hU (fun c hc hn => hsame c ⟨_, Array.getElem?_eq_getElem hc⟩ hn) hbl
          have hobj := hobj hA
          have hlen : (killH (Nat.beq id) (hset s.heap id ⟨.row e, xs ++ ys⟩)).length = s.heap.length := by rw [length_killH, length_hset]
          have hgk : ∀ i, i ≠ id → hget (killH (Nat.beq id) (hset s.heap id ⟨.row e, xs ++ ys⟩)) i = killT (Nat.beq id) (hget s.heap i) := fun i hi => by
            rw [hget_killH, hget_hset_ne _ _ _ _ hi]
          have hgetid : hget (killH (Nat.beq id) (hset s.heap id ⟨.row e, xs ++ ys⟩)) id = ⟨.row e, xs ++ ys⟩ := by
            rw [hget_killH, hget_hset_same _ _ _ hid, kill_row]
          have hW : WRel S U (setB β id bl) (killH (Nat.beq id) (hset s.heap id ⟨.row e, xs ++ ys⟩)) w' := by
            refine ⟨⟨fun i hi => ?_, fun i i' b hi hi' hb hb' => ?_⟩, hR.wrel.below.trans hbel, fun c hc => Nat.lt_of_lt_of_le (hR.wrel.uin c hc) hbel.size, hR.wrel.uold, fun g z hz => ?_⟩
            · rw [hlen] at hi
              by_cases e1 : i = id
              · subst e1; exact hobj
              · refine ObjAt.kill beqMem hA (hR.wrel.heap.obj i hi) (hgk i e1) (by simp [setB, e1]) fun b hb => ?_
                obtain ⟨g1, g2, g3⟩ := hR.wrel.blk_lt hi hb
                exact ⟨hsame b ⟨_, Array.getElem?_eq_getElem g1⟩ fun e2 => e1 (hR.wrel.heap.inj i id b hi hid hb e2), g3⟩
            · rw [hlen] at hi hi'
              simp only [setB] at hb hb'
              split at hb <;> split at hb'
              · omega
              · rename_i e1 e2
                rcases hbl with h2 | h2
                · rw [h2] at hb
                  exact absurd (hR.wrel.heap.inj id i' b hid hi' hb hb') (by omega)
                · have := h2 b hb
                  have := (hR.wrel.blk_lt hi' hb').1
                  omega
              · rename_i e1 e2
                rcases hbl with h2 | h2
                · rw [h2] at hb'
                  exact absurd (hR.wrel.heap.inj id i b hid hi hb' hb) (by omega)
                · have := h2 b hb'
                  have := (hR.wrel.blk_lt hi hb).1
                  omega
              · exact hR.wrel.heap.inj i i' b hi hi' hb hb'
            · rcases hR.wrel.globs g z hz with e1 | ⟨e1, e2, e3⟩
              · exact .inl e1
              · exact .inr ⟨e1, e2, e3.adv hA (avoids_of_pure _ _ e1)⟩
          have hF : FRel S n U (setB β id bl) ⟨killR (Nat.beq id) s.regs, killH (Nat.beq id) (hset s.heap id ⟨.row e, xs ++ ys⟩), id :: s.app⟩ a w' :=
            ⟨hR.defers, hR.size, fun i => by
              show EncV w' U _ _ (lookTV (killR (Nat.beq id) s.regs) i) _
              rw [look_killR]
              exact (hR.regs i).kill beqMem hA, hW⟩
          refine putC_ok hn hF (.inr ⟨by rw [hv']; rfl, ?_⟩) ?_ (fun i _ h => List.mem_cons_of_mem _ h) hk
          · rw [hv']
            simp only [EncM, Value.cells]
            exact ⟨e, xs ++ ys, by rw [hlen]; exact hid, hgetid, by rw [hylen]; simp [setB]⟩
          · refine ⟨⟨hA.use, hA.same, hA.len, fun i e' xs' hi he' => ?_, hA.box⟩, hA.keep⟩
            obtain ⟨ys', g1, g2⟩ := hA.row i e' xs' hi he'
            exact ⟨ys', g1, fun hn => g2 fun hm => hn (by rw [List.mem_singleton.1 hm]; exact List.mem_cons_self)⟩
        -- a new array
        have growOut : ∀ (olds : List Value), olds.length = xs.length * e.csize → (∀ i (h : i < xs.length), ∃ cs, EncM w U β s.heap false e xs[i] cs ∧ ∀ j (h : j < cs.length), olds[i * e.csize + j]? = some cs[j]) →
            (Builtin.firstCells (tiOf S.E et).size xs.length (.slice ((β id).blk.map fun b => ⟨b, 0, none⟩) xs.length (β id).cap)).run S.P w.drew = .ok olds.toArray w.drew → ¬ xs.length + m ≤ (β id).cap → o.wp S.P a w (Handed S n U β s w k r) Q := by
          intro olds hol hoel hfo hroom
          have hrun := run_append_out (w := w) (u := u) (ty := o.type) hT htd hu hkn hz hl hfd hfo hroom hbp (by rw [hm] at hmax; exact hmax)
          rw [← hv] at hrun
          have hge := grownCap_ge w (xs.length + m) (β id).cap et
          refine finish (bl := ⟨some w.heap.size, grownCap w (xs.length + m) (β id).cap et⟩) hrun rfl ?_ (fun c ⟨ob, hob⟩ _ => ?_) (.inr fun c hc => by cases hc; exact Nat.le_refl _) fun hA => ?_
          · exact (((Below.refl _ w).drew).alloc hR.wrel.below.size _)
          · exact Below.heap_alloc _ _ _ (Array.getElem?_eq_some_iff.1 hob).1
          · unfold ObjAt
            rw [hget_killH, hget_hset_same _ _ _ hid, kill_row]
            have hzs := zval_size hz
            refine ⟨helem, .inr ⟨w.heap.size, _, et, (0, 0), by simp [setB], hR.wrel.below.size, fun hu => by have := hR.wrel.uin _ hu; omega, heap_alloc_at w.drew _, ?_, by simp only [setB, if_true]; rw [hylen]; exact hge, fun j _ => by simp, fun i hi => ?_⟩⟩
            · simp only [setB, if_true, Array.size_append, List.size_toArray, size_zeroCells, hzs, hcs, ← hes, hol, hnl]
              rw [← Nat.add_mul, ← Nat.add_mul]
              congr 1
              omega
            · obtain ⟨cs, g1, g2⟩ := joinEl hm hol hnl hoel hel' i hi
              refine ⟨cs, killElem hA helem g1, fun j hj => ?_⟩
              have g3 := g2 j hj
              have hlt : i * e.csize + j < (olds ++ news).length := by
                rcases Nat.lt_or_ge (i * e.csize + j) (olds ++ news).length with g | g
                · exact g
                · rw [List.getElem?_eq_none g] at g3; cases g3
              rw [Array.getElem?_append_left (by simpa using hlt), List.append_toArray, List.getElem?_toArray]
              exact g3
        rcases row_cells hR.wrel.heap hid he with ⟨hb, hc0, hxe⟩ | ⟨b, arr, el, fr, olds, hb, hge, hnU, hw, hsz, hcap, hfr, hol, hoc, hoel, harr⟩
        · by_cases h0 : m = 0
          · have hyn : ys = [] := List.eq_nil_of_length_eq_zero (by omega)
            have hnn : news = [] := List.eq_nil_of_length_eq_zero (by rw [hnl, h0]; simp)
            have hrun := run_append_in (w := w) (w' := w) (u := u) (ty := o.type) (A := (β id).blk.map fun b => ⟨b, 0, none⟩) (m := xs.length) (c := (β id).cap) hT htd hu hkn hl hfw (by rw [hxe, h0]; simp) (fun a h => by rw [hb] at h; cases h) (fun _ => rfl)
            rw [← hv] at hrun
            refine finish (bl := β id) hrun rfl (Below.refl _ _) (fun _ _ _ => rfl) (.inl rfl) fun hA => ?_
            unfold ObjAt
            rw [hget_killH, hget_hset_same _ _ _ hid, kill_row]
            exact ⟨helem, .inl ⟨by simp [setB, hb], by simp [setB, hc0], by rw [hxe, hyn]; rfl⟩⟩
          · refine growOut [] (by rw [hxe]; simp) (fun i hi => by rw [hxe] at hi; simp at hi) ?_ (by rw [hxe, hc0]; simp; omega)
            rw [hb]; simp [Builtin.firstCells]
        · by_cases hroom : xs.length + m ≤ (β id).cap
          · have hfit : xs.length * e.csize + news.length ≤ arr.size := by
              rw [hnl, hsz, ← Nat.add_mul]; exact Nat.mul_le_mul_right _ hroom
            have hst := run_storeCells_cells (P := S.P) b (xs.length * e.csize) news 0 w (fun j hj => by
                simp only [World.cell?, hw]
                have : xs.length * e.csize + j < arr.size := by omega
                simp [this]) (fun j hj => by
                have := hfr (xs.length * e.csize + 0 + j) (by omega)
                simp only [World.frozen?, hw]
                simp only [not_and, Nat.not_lt] at this
                simp only [Nat.add_zero] at this ⊢
                cases hd : decide (fr.1 ≤ xs.length * e.csize + j) with
                | true => (have := this (decT hd); simp; try omega)
                | false => (simp at hd; simp; try omega)) hone
            simp only [Nat.add_zero] at hst
            have hrun := run_append_in (w := w) (w' := w.setCells b (xs.length * e.csize) news) (u := u) (ty := o.type) (A := (β id).blk.map fun b => ⟨b, 0, none⟩) (m := xs.length) (c := (β id).cap) hT htd hu hkn hl hfw hroom
              (fun ad h => by rw [hb] at h; cases h; rw [addr_add, Nat.zero_add, ← hes]; exact hst) (fun h => by rw [hb] at h; cases h)
            rw [← hv] at hrun
            obtain ⟨arr', g1, g2, g3, g4, g5, g6, g7, g8⟩ := setCells_heap b news (xs.length * e.csize) w arr el fr hw
            refine finish (bl := β id) hrun rfl ⟨g6, g7, g8, by rw [g5]; exact Nat.le_refl _, fun c hc => g4 c (by omega)⟩ (fun c _ hne => g4 c fun e1 => hne (by rw [hb, e1])) (.inl rfl) fun hA => ?_
            unfold ObjAt
            rw [hget_killH, hget_hset_same _ _ _ hid, kill_row]
            refine ⟨helem, .inr ⟨b, arr', el, fr, by simp [setB, hb], hge, hnU, g1, by rw [g2, hsz]; simp [setB], by rw [hylen]; simpa [setB] using hroom, by rw [g2]; exact hfr, fun i hi => ?_⟩⟩
            obtain ⟨cs, g9, g10⟩ := joinEl hm hol hnl hoel hel' i hi
            refine ⟨cs, killElem hA helem g9, fun j hj => ?_⟩
            have g11 := g10 j hj
            have hlt : i * e.csize + j < (olds ++ news).length := by
              rcases Nat.lt_or_ge (i * e.csize + j) (olds ++ news).length with g | g
              · exact g
              · rw [List.getElem?_eq_none g] at g11; cases g11
            rw [List.length_append] at hlt
            rw [g3, ← g11]
            by_cases hlo : i * e.csize + j < olds.length
            · rw [if_neg (by omega), List.getElem?_append_left hlo]
              exact harr _ hlo
            · rw [if_pos (by omega), List.getElem?_append_right (by omega), hol]
          · refine growOut olds hol hoel ?_ hroom
            rw [hb, ← hes]
            exact first_ok hol hoc (fun _ => rfl)
      · cases hk
    · rename_i e xs hX
      cases hX
      exact appendX_ok hT hn hR hop htd hx hy hk
    · cases hk
  · cases hk

theorem appendXC_ok (hT : TIok S.P S.E) (hn : h.n = n) (hR : FRel S n U β s a w) {t u : Nat} {x y : Operand} (hop : o.op = .call { callee := .builtin .append, args := #[x, y], argTypes := #[t, u] })
    (hk : appendXC S.E h s o.dst t u (ev S.E s t x) (ev S.E s u y) k = some r) : o.wp S.P a w (Handed S n U β s w k r) Q := by
  have hx := hR.ev t x
  have hy := hR.ev u y
  generalize ev S.E s t x = X at hx hk
  generalize ev S.E s u y = Y at hy hk
  unfold appendXC at hk
  split at hk
  · rename_i et htd
    split at hk
    · rename_i e xs
      exact appendX_ok hT hn hR hop htd hx hy hk
    · cases hk
  · cases hk
end
end Go.Dp
/- Conversions. -/
set_option autoImplicit false
set_option linter.unusedVariables false
set_option linter.unusedSimpArgs false
namespace Go.Dp
open Go.RowKit

section
variable {S : Base} {n : Nat} {U : Nat → Prop} {β : Nat → Blk} {s : St} {a : Act} {w w' : World} {α : Type} {k : St → Option α} {r : α} {h : Hint} {Q : Exit → Act → World → Prop} {o : Oper}

theorem bytes_below (w : World) (e : TypeId) (s : ByteArray) : Below w.heap.size w (Lib.bytesWorld w e s) := by
  refine ⟨?_, ?_, ?_, by rw [Lib.bytesWorld_size]; omega, fun k hk => Lib.bytesWorld_at_old w e s k hk⟩ <;>
    simp [Lib.bytesWorld, World.freeze, World.alloc, World.drew, -World.alloc_eq, -World.drew_eq]

theorem bytes_cells (w : World) (e : TypeId) (b : List UInt8) (j : Nat) (hj : j < b.length) : (Lib.bytesCells w e ⟨b.toArray⟩)[j]? = some (.int .u8 ((b[j]).toNat : Int)) := by
  simp [Lib.bytesCells, Array.getElem?_append, ByteArray.size, hj]

theorem bytes_size (w : World) (e : TypeId) (b : List UInt8) : (Lib.bytesCells w e ⟨b.toArray⟩).size = grownCap w b.length 0 e ∧ b.length ≤ grownCap w b.length 0 e := by
  have hge := grownCap_ge w b.length 0 e
  refine ⟨?_, hge⟩
  simp [Lib.bytesCells, ByteArray.size]
  omega

theorem seqVal {e : Ty} {X : TV} {vx : Value} {k : List e.den → Option α} (hx : EncV w U β s.heap X vx) (hns : ∀ b, X ≠ ⟨.str, b⟩) (h : elemsC s e X k = some r) : ∃ A n c, vx = .slice A n c := by
  obtain ⟨T, x⟩ := X
  cases T with
  | nils => have hm := hx.one rfl rfl; simp only [EncM] at hm; obtain ⟨c, hv⟩ := hm; exact ⟨_, _, _, (List.cons.inj hv).1⟩
  | list a => have hm := hx.one rfl rfl; simp only [EncM] at hm; obtain ⟨A, c, hv, _⟩ := hm; exact ⟨_, _, _, (List.cons.inj hv).1⟩
  | slw id => have hm := hx.one rfl rfl; simp only [EncM] at hm; obtain ⟨e, xs, _, _, hv⟩ := hm; exact ⟨_, _, _, (List.cons.inj hv).1⟩
  | slv id => have hm := hx.one rfl rfl; simp only [EncM] at hm; obtain ⟨e, xs, A, c, _, _, hv, _⟩ := hm; exact ⟨_, _, _, (List.cons.inj hv).1⟩
  | str => exact absurd rfl (hns x)
  | _ => simp [elemsC] at h

theorem bytes_str (ys : List Int) : (ys.foldl (fun r n => r.push (UInt8.ofNat n.toNat)) ByteArray.empty) = ⟨(bytesOf ys).toArray⟩ := by
  rw [foldl_push_bytes]
  simp [bytesOf, ByteArray.empty, ByteArray.emptyWithCapacity]
  rfl

theorem convC_ok (hT : TIok S.P S.E) (hn : h.n = n) (hR : FRel S n U β s a w) {src dst : Nat} {x : Operand} (hop : o.op = .convert src dst x)
    (hk : convC S.E h s o.dst src dst (ev S.E s src x) k = some r) : o.wp S.P a w (Handed S n U β s w k r) Q := by
  have hx := hR.ev src x
  generalize ev S.E s src x = X at hx hk
  have hrunOp : ∀ {v : Value} {w' : World}, (convert src dst (a.eval x)).run S.P w = .ok v w' → (execOp a.eval o).run S.P w = .ok (.value v) w' := by
    intro v w' hrun
    simp only [execOp, hop, Sem.run_bind, hrun, Result.andThen_ok, Sem.run_pure]
  unfold convC at hk
  split at hk
  · rename_i kd k' m htd
    obtain ⟨info, d, hK⟩ := hT.known_td (t := dst) (by rw [htd]; simp)
    obtain rfl := td_int (hK.td.trans htd)
    split at hk
    · rename_i ks hts
      obtain ⟨info', d', hK'⟩ := hT.known_td (t := src) (by rw [hts]; simp)
      obtain rfl := td_int (hK'.td.trans hts)
      have hv := hx.int
      exact value_ok hn hR (hrunOp (by simp [hv, convert, run_underlying hK.und, run_underlying hK'.und, Conv.intToInt])) (.mk_int _ _) hk
    · cases hk
  · rename_i b htd
    obtain ⟨info, d, hK⟩ := hT.known_td (t := dst) (by rw [htd]; simp)
    obtain rfl := td_str (hK.td.trans htd)
    split at hk
    · rename_i hts
      obtain ⟨info', d', hK'⟩ := hT.known_td (t := src) (by rw [hts]; simp)
      obtain rfl := td_str (hK'.td.trans hts)
      have hv := hx.str
      exact value_ok hn hR (hrunOp (by simp [hv, convert, run_underlying hK.und, run_underlying hK'.und])) (.mk_str _) hk
    · cases hk
  · rename_i e b htd
    obtain ⟨info, d, hK⟩ := hT.known_td (t := dst) (by rw [htd]; simp)
    obtain rfl := td_slice (hK.td.trans htd)
    split at hk
    · rename_i hte hts
      obtain ⟨info', d', hK'⟩ := hT.known_td (t := src) (by rw [hts]; simp)
      obtain rfl := td_str (hK'.td.trans hts)
      obtain ⟨info2, d2, hK2⟩ := hT.known_td (t := e) (by rw [hte]; simp)
      obtain rfl := td_int (hK2.td.trans hte)
      have hv := hx.str
      have hsz : (⟨b.toArray⟩ : ByteArray).size = b.length := by simp [ByteArray.size]
      have hrun := hrunOp (v := .slice (some ⟨w.heap.size, 0, none⟩) b.length (grownCap w b.length 0 e)) (w' := Lib.bytesWorld w e ⟨b.toArray⟩) (by
        rw [hv, Lib.run_convert_string_bytes w src dst e _ hK'.und hK.und hK2.und, hsz])
      have hbel := bytes_below w e ⟨b.toArray⟩
      obtain ⟨hcs, hcap⟩ := bytes_size w e b
      have hil : (intsOf b).length = b.length := by simp [intsOf]
      have hig : ∀ i (hi : i < (intsOf b).length), (intsOf b)[i] = ((b[i]'(by omega)).toNat : Int) := fun i hi => by simp [intsOf]
      cases hown : h.isOwn o.dst with
      | true =>
        rw [hown] at hk
        simp only [cond_true] at hk
        unfold Oper.wp
        rw [hrun]
        have hA : ∀ app, Adv w U β s.heap (Lib.bytesWorld w e ⟨b.toArray⟩) U (setB β s.heap.length ⟨some w.heap.size, grownCap w b.length 0 e⟩) (s.heap ++ [⟨.row (.int .u8), intsOf b⟩]) app := fun app => Adv.push hR.wrel.uin hbel _ _ (fun b e => by cases e; exact Nat.le_refl _)
        have hP := hR.push hbel (x := ⟨.row (.int .u8), intsOf b⟩) (bl := ⟨some w.heap.size, grownCap w b.length 0 e⟩) (fun b e => by cases e; exact Nat.le_refl _) (by
          unfold ObjAt
          rw [hget_append_at]
          refine ⟨rfl, .inr ⟨w.heap.size, _, e, _, by simp [setB], hR.wrel.below.size, fun hu => by have := hR.wrel.uin _ hu; omega, Lib.bytesWorld_at_new w e _, ?_, by simp only [setB, if_true]; rw [hil]; exact hcap, fun j hj => by simp; omega, fun i hi => ?_⟩⟩
          · simp only [setB, if_true, Ty.csize, Nat.mul_one]; exact hcs
          · refine ⟨[.int .u8 ((b[i]'(by omega)).toNat : Int)], by simp only [EncM]; rw [hig i hi], fun j hj => ?_⟩
            obtain rfl : j = 0 := by simp at hj; omega
            have := bytes_cells w e b i (by omega)
            simpa [Ty.csize] using this)
        refine putC_ok hn hP (.inr ⟨rfl, ?_⟩) (hA _) (fun _ _ h => h) hk
        simp only [EncM]
        exact ⟨.int .u8, intsOf b, by simp, hget_append_at, by simp [setB, hil, Value.cells]⟩
      | false =>
        rw [hown] at hk
        simp only [cond_false] at hk
        unfold Oper.wp
        rw [hrun]
        have hW : ∀ c, withB U w.heap.size c ↔ U c ∨ (w.heap.size ≤ c ∧ c < (Lib.bytesWorld w e ⟨b.toArray⟩).heap.size ∧ withB U w.heap.size c) := by
          intro c
          unfold withB
          rw [Lib.bytesWorld_size]
          constructor
          · rintro (h | rfl)
            · exact .inl h
            · exact .inr ⟨Nat.le_refl _, by omega, .inr rfl⟩
          · rintro (h | ⟨h1, h2, h⟩)
            · exact .inl h
            · exact h
        have hG := hR.grow hbel hW
        have hA : ∀ app, Adv w U β s.heap (Lib.bytesWorld w e ⟨b.toArray⟩) (withB U w.heap.size) β s.heap app := fun app => Adv.grow hbel.block hR.wrel.uin (fun b hb => .inl hb) (withB_un w U)
        refine putC_ok hn hG (.inr ⟨rfl, ?_⟩) (hA _) (fun _ _ h => h) hk
        simp only [EncM]
        refine ⟨some ⟨w.heap.size, 0, none⟩, grownCap w b.length 0 e, by rw [hil]; rfl, by rw [hil]; exact hcap, fun hp => ⟨w.heap.size, 0, rfl, .inr rfl, fun i hi => ?_⟩⟩
        refine ⟨[.int .u8 ((b[i]'(by omega)).toNat : Int)], by rw [hig i hi], fun j hj => ?_⟩
        obtain rfl : j = 0 := by simp at hj; omega
        have := bytes_cells w e b i (by omega)
        simp only [World.cell?, Lib.bytesWorld_at_new]
        simpa [Ty.csize] using this
    · cases hk
  · rename_i X' htd hne
    obtain ⟨info, d, hK⟩ := hT.known_td (t := dst) (by rw [htd]; simp)
    obtain rfl := td_str (hK.td.trans htd)
    split at hk
    · rename_i e hts
      obtain ⟨info', d', hK'⟩ := hT.known_td (t := src) (by rw [hts]; simp)
      obtain rfl := td_slice (hK'.td.trans hts)
      split at hk
      · rename_i hte
        obtain ⟨info2, d2, hK2⟩ := hT.known_td (t := e) (by rw [hte]; simp)
        obtain rfl := td_int (hK2.td.trans hte)
        obtain ⟨ys, news, m, hk, hm, hl, hnl, hf, hel⟩ := elemsC_ok (P := S.P) (E := S.E) hR.wrel.heap hx hk
        have hnews : news = ys.map (Value.int .u8) := by
          apply List.ext_getElem?
          intro i
          by_cases hi : i < ys.length
          · obtain ⟨cs, h1, h2⟩ := hel i hi
            simp only [EncM] at h1
            subst h1
            have := h2 0 (by simp)
            simp only [Ty.csize, Nat.mul_one, Nat.add_zero] at this
            rw [this]
            simp [hi]
          · rw [List.getElem?_eq_none (by simp only [Ty.csize, Nat.mul_one] at hnl; omega), List.getElem?_eq_none (by simpa using hi)]
        have hfw := hf w fun _ _ => rfl
        have hll := hl w
        obtain ⟨A, l, c, hv⟩ := seqVal hx (fun b e => hne b e) (by assumption)
        rw [hv] at hll hfw
        obtain rfl : l = m := by simpa [Builtin.lenOf] using hll
        refine value_ok hn hR (hrunOp (v := .string ⟨(bytesOf ys).toArray⟩) (w' := w) ?_) (.mk_str _) hk
        rw [hv, run_convert_bytes_string w src dst e A l c hK'.und hK2.und hK.und]
        cases A with
        | none =>
          have h0 : ys = [] := by
            simp only [Builtin.firstCells, Sem.run_pure] at hfw
            have := congrArg (fun z => match z with | Result.ok (x : Array Value) _ => x.size | _ => 0) hfw
            simp at this
            rw [hnews] at this
            simp at this
            exact List.eq_nil_of_length_eq_zero this.symm
          subst h0
          simp [Conv.bytesToString, bytesOf]
          rfl
        | some A =>
          simp only [Builtin.firstCells, Ty.csize, Nat.mul_one] at hfw
          rw [hnews] at hfw
          rw [run_bytesToString w A l c ys hfw, bytes_str]
      · cases hk
    · cases hk
  · cases hk
end
end Go.Dp

/- Values that no longer change. -/
set_option autoImplicit false
set_option linter.unusedVariables false
set_option linter.unusedSimpArgs false
namespace Go.Dp
open Go.RowKit

section
variable {w : World} {U U2 : Nat → Prop} {β : Nat → Blk} {H : Heap} {B : Nat}

theorem EncM.more (hU : ∀ b, U b → U2 b) (t : Ty) (m : Bool) (x : t.den) (l : List Value) (h : EncM w U β H m t x l) : EncM w U2 β H m t x l :=
  h.advC (app := []) ⟨hU, fun _ _ => rfl, Nat.le_refl _, fun _ _ xs _ h => ⟨xs, h, fun _ => ⟨rfl, rfl⟩⟩, fun _ _ h => ⟨rfl, rfl, h⟩⟩ _ _ _ _ (avoids_nil t)

theorem deepV_isAgg (r : Nat → TV) (t : Ty) (x : t.den) : (deepV H r t x).t.isAgg = t.isAgg := by
  cases t with
  | slw id => simp only [deepV]; split <;> rfl
  | slv id => simp only [deepV]; split <;> rfl
  | loc id ix p =>
    cases ix with
    | true => rfl
    | false =>
      cases p with
      | cons f p => rfl
      | nil => simp only [deepV]; cases (Ty.isUnk _ || Ty.isObj _) <;> rfl
  | _ => rfl

theorem deepV_unk (r : Nat → TV) (t : Ty) (x : t.den) (h : t.isUnk = true) : (deepV H r t x).t.isUnk = true := by
  cases t <;> simp [Ty.isUnk] at h
  rfl

theorem list_of_row {e : Ty} {xs : List e.den} {A : Option Addr} {n c : Nat} (hn : n = xs.length) (hc : n ≤ c) (h : 0 < n → ∃ b off, A = some ⟨b, off, none⟩ ∧ U2 b ∧ ∀ i (hi : i < xs.length), ∃ cs, EncM w U2 β H false e xs[i] cs ∧ cellsAt w b (off + i * e.csize) cs) :
    EncM w U2 β H false (.list e) xs [.slice A n c] := by
  subst hn
  simp only [EncM]
  exact ⟨A, c, rfl, hc, h⟩

theorem deepV_ok (hH : HRel w U β H B) (hU : ∀ b, U b → U2 b) (hO : ∀ id b, id < H.length → (β id).blk = some b → U2 b) (r : Nat → TV)
    (hr : ∀ id, id < H.length → (hget H id).t.isObj = false → ∀ cs, EncM w U β H false (hget H id).t (hget H id).v cs → (r id).t.isUnk = true ∨ EncM w U2 β H false (r id).t (r id).v cs)
    (hr2 : ∀ id, (hget H id).t.isObj = true → ((r id).t.isUnk || (r id).t.isObj) = true) :
    ∀ (t : Ty) (m : Bool) (x : t.den) (l : List Value), EncM w U β H m t x l → EncM w U2 β H m (deepV H r t x).t (deepV H r t x).v l := by
  intro t
  induction t with
  | scons a b iha ihb =>
    intro m x l h
    cases m <;> simp only [EncM] at h
    · obtain ⟨l1, l2, rfl, h1, h2⟩ := h
      simp only [deepV, EncM]
      exact ⟨l1, l2, rfl, iha false _ _ h1, ihb false _ _ h2⟩
    · obtain ⟨v, l2, rfl, h1, h2⟩ := h
      simp only [deepV, EncM]
      refine ⟨v, l2, rfl, ?_, ihb true _ _ h2⟩
      rcases h1 with h1 | ⟨h1, h3⟩
      · exact .inl (deepV_unk _ _ _ h1)
      · exact .inr ⟨by rw [deepV_isAgg]; exact h1, iha false _ _ h3⟩
  | tup b ih =>
    intro m x l h
    cases m <;> simp only [EncM] at h
    obtain ⟨vs, rfl, h⟩ := h
    simp only [deepV, EncM]
    exact ⟨vs, rfl, ih true _ _ h⟩
  | fn f c ih =>
    intro m x l h
    cases m <;> simp only [EncM] at h
    obtain ⟨vs, rfl, h⟩ := h
    simp only [deepV, EncM]
    exact ⟨vs, rfl, ih true _ _ h⟩
  | bm f c ih =>
    intro m x l h
    cases m <;> simp only [EncM] at h
    obtain ⟨vs, rfl, h⟩ := h
    simp only [deepV, EncM]
    exact ⟨vs, rfl, ih true _ _ h⟩
  | hl b ih =>
    intro m x l h
    cases m <;> simp only [EncM] at h
    obtain ⟨bb, off, c, vs, rfl, h0, h1, h2, h3, h4⟩ := h
    have h5 := ih true _ _ h2
    have hl : chLen (deepV H r b x).t = chLen b := by rw [← chLen_len (s := ⟨[], H, []⟩) _ _ _ h5, ← chLen_len (s := ⟨[], H, []⟩) _ _ _ h2]
    simp only [deepV, EncM]
    exact ⟨bb, off, c, vs, by rw [hl], by rw [hl]; exact h0, hU _ h1, h5, h3, h4⟩
  | iface t a ih =>
    intro m x l h
    cases m <;> simp only [EncM] at h
    obtain ⟨v, rfl, h1, h2⟩ := h
    simp only [deepV, EncM]
    exact ⟨v, rfl, by rw [deepV_isAgg]; exact h1, ih false _ _ h2⟩
  | slw id =>
    intro m x l h
    cases m
    · simp only [EncM] at h
      obtain ⟨e, xs, h0, h1, rfl⟩ := h
      have e0 : deepV H r (.slw id) x = ⟨.list e, xs⟩ := by simp only [deepV, h1]
      rw [e0]
      rcases row_cells hH h0 h1 with ⟨hb, hc, rfl⟩ | ⟨b, arr, el, fr, olds, hb, _, _, hw, hsz, hcap, _, _, _, _, _⟩
      · exact list_of_row rfl (by simp) (fun hp => by simp at hp)
      · refine list_of_row rfl hcap fun hp => ⟨b, 0, by rw [hb]; rfl, hO id b h0 hb, fun i hi => ?_⟩
        obtain ⟨_, hrow⟩ := (hH.obj id h0).row h1
        rcases hrow with ⟨hb', _⟩ | ⟨b', arr', el', fr', hb', _, _, hw', _, _, _, hel⟩
        · rw [hb'] at hb; cases hb
        · obtain rfl : b' = b := by rw [hb'] at hb; exact Option.some.inj hb
          obtain ⟨cs, h4, h5⟩ := hel i hi
          refine ⟨cs, h4.more hU, fun j hj => ?_⟩
          simp only [World.cell?, hw', Nat.zero_add]
          simpa using h5 j hj
    · simp [EncM] at h
  | slv id =>
    intro m x l h
    cases m
    · simp only [EncM] at h
      obtain ⟨e, xs, A, c, h0, h1, rfl, hc, hle, hA⟩ := h
      have e0 : deepV H r (.slv id) x = ⟨.list e, cut xs x.1 (x.1 + x.2)⟩ := by simp only [deepV, h1]
      rw [e0]
      have hcl : (cut xs x.1 (x.1 + x.2)).length = x.2 := by rw [cut_length _ _ _ hle]; omega
      refine list_of_row hcl.symm hc fun hp => ?_
      obtain ⟨b, hb, rfl⟩ := hA hp
      refine ⟨b, x.1 * e.csize, rfl, hO id b h0 hb, fun i hi => ?_⟩
      obtain ⟨_, hrow⟩ := (hH.obj id h0).row h1
      rcases hrow with ⟨hb', _⟩ | ⟨b', arr', el', fr', hb', _, _, hw', _, _, _, hel⟩
      · rw [hb'] at hb; cases hb
      · obtain rfl : b' = b := by rw [hb'] at hb; exact Option.some.inj hb
        obtain ⟨hi', hc'⟩ := cut_getElem xs x.1 (x.1 + x.2) i hi
        obtain ⟨cs, h4, h5⟩ := hel (x.1 + i) hi'
        refine ⟨cs, by rw [hc']; exact h4.more hU, fun j hj => ?_⟩
        simp only [World.cell?, hw']
        rw [← Nat.add_mul]
        simpa using h5 j hj
    · simp [EncM] at h
  | loc id ix p =>
    intro m x l h
    cases ix with
    | true => exact h.more hU
    | false =>
      cases p with
      | cons f p => exact h.more hU
      | nil =>
        cases m
        · have hf := h
          simp only [EncM] at h
          obtain ⟨b, off, rfl, h0, hb, hnr, _, hof⟩ := h
          simp only [deepV]
          cases hc : ((r id).t.isUnk || (r id).t.isObj) with
          | true => exact hf.forget rfl rfl
          | false =>
            simp only [cond_false]
            simp only [Bool.or_eq_false_iff] at hc
            have hob : (hget H id).t.isObj = false := by
              cases ho : (hget H id).t.isObj with
              | false => rfl
              | true =>
                have := hr2 id ho
                rw [hc.1, hc.2] at this
                cases this
            obtain ⟨b', cs, el, fr, h1, _, _, h2, _, h3, _⟩ := (hH.obj id h0).box hob
            obtain rfl : b' = b := by rw [h1] at hb; exact Option.some.inj hb
            have h4 := (hr id h0 hob _ h3).resolve_left (by rw [hc.1]; simp)
            simp only [EncM]
            refine ⟨b', off, cs.toList, rfl, hO id b' h0 hb, h4, ?_⟩
            have : off = 0 := by simpa [pathOff] using hof
            rw [this]
            exact cellsAt_block h2
        · simp [EncM] at h
  | _ => intro m x l h; exact h.more hU

theorem deepF_ok (hH : HRel w U β H B) (hU : ∀ b, U b → U2 b) (hO : ∀ id b, id < H.length → (β id).blk = some b → U2 b) : ∀ (n : Nat) (x : TV) (m : Bool) (l : List Value), EncM w U β H m x.t x.v l → EncM w U2 β H m (deepF H n x).t (deepF H n x).v l := by
  intro n
  induction n with
  | zero =>
    intro x m l h
    exact deepV_ok hH hU hO _ (fun _ _ _ _ _ => .inl rfl) (fun _ _ => rfl) _ _ _ _ h
  | succ n ih =>
    intro x m l h
    refine deepV_ok hH hU hO _ (fun id _ _ cs hcs => .inr (ih _ _ _ hcs)) (fun id ho => ?_) _ _ _ _ h
    generalize hget H id = z at ho
    obtain ⟨t, v⟩ := z
    cases t <;> simp [Ty.isObj] at ho <;> cases n <;> rfl

theorem deepF_isAgg (n : Nat) (x : TV) : (deepF H n x).t.isAgg = x.t.isAgg := by
  cases n <;> exact deepV_isAgg _ _ _
theorem deepF_unk (n : Nat) (x : TV) (h : x.t.isUnk = true) : (deepF H n x).t.isUnk = true := by
  cases n <;> exact deepV_unk _ _ _ h

theorem deepF_val (hH : HRel w U β H B) (hU : ∀ b, U b → U2 b) (hO : ∀ id b, id < H.length → (β id).blk = some b → U2 b) (n : Nat) {x : TV} {v : Value} (h : EncV w U β H x v) : EncV w U2 β H (deepF H n x) v := by
  rcases h with h | ⟨h1, h2⟩
  · exact .inl (deepF_unk n x h)
  · exact .inr ⟨by rw [deepF_isAgg]; exact h1, deepF_ok hH hU hO n x _ _ h2⟩

theorem noMem_any {w' : World} {U' : Nat → Prop} {β' : Nat → Blk} {H' : Heap} : ∀ (t : Ty) (m : Bool) (x : t.den) (l : List Value), t.noMem = true → EncM w U β H m t x l → EncM w' U' β' H' m t x l := by
  intro t
  induction t with
  | scons a b iha ihb =>
    intro m x l hn h
    simp only [Ty.noMem, Bool.and_eq_true] at hn
    cases m <;> simp only [EncM] at h ⊢
    · obtain ⟨l1, l2, rfl, h1, h2⟩ := h
      exact ⟨l1, l2, rfl, iha false _ _ hn.1 h1, ihb false _ _ hn.2 h2⟩
    · obtain ⟨v, l2, rfl, h1, h2⟩ := h
      exact ⟨v, l2, rfl, h1.imp_right fun h => ⟨h.1, iha false _ _ hn.1 h.2⟩, ihb true _ _ hn.2 h2⟩
  | tup b ih =>
    intro m x l hn h
    cases m <;> simp only [EncM] at h ⊢
    obtain ⟨vs, rfl, h⟩ := h
    exact ⟨vs, rfl, ih true _ _ hn h⟩
  | int k => intro m x l _ h; cases m <;> simp only [EncM] at h ⊢ <;> exact h
  | bool => intro m x l _ h; cases m <;> simp only [EncM] at h ⊢ <;> exact h
  | str => intro m x l _ h; cases m <;> simp only [EncM] at h ⊢ <;> exact h
  | nilf => intro m x l _ h; cases m <;> simp only [EncM] at h ⊢ <;> exact h
  | nils => intro m x l _ h; cases m <;> simp only [EncM] at h ⊢ <;> exact h
  | nilp => intro m x l _ h; cases m <;> simp only [EncM] at h ⊢ <;> exact h
  | nili => intro m x l _ h; cases m <;> simp only [EncM] at h ⊢ <;> exact h
  | nilm => intro m x l _ h; cases m <;> simp only [EncM] at h ⊢ <;> exact h
  | snil => intro m x l _ h; cases m <;> simp only [EncM] at h ⊢ <;> exact h
  | _ => intro m x l hn; simp [Ty.noMem] at hn
end
end Go.Dp
/- A row that is given away. -/
set_option autoImplicit false
set_option linter.unusedVariables false
set_option linter.unusedSimpArgs false
namespace Go.Dp
open Go.RowKit

section
variable {S : Base} {n : Nat} {U : Nat → Prop} {β : Nat → Blk} {s : St} {a : Act} {w w' : World}

theorem frzId_mem : ∀ {l : List TV} {id : Nat}, frzId l = some id → ∃ v, (⟨.slw id, v⟩ : TV) ∈ l := by
  intro l
  induction l with
  | nil => intro id h; cases h
  | cons x l ih =>
    intro id h
    obtain ⟨t, v⟩ := x
    cases t
    case slw j => simp only [frzId] at h; cases h; exact ⟨v, List.mem_cons_self⟩
    all_goals (simp only [frzId] at h; obtain ⟨v', hm⟩ := ih h; exact ⟨v', List.mem_cons_of_mem _ hm⟩)

theorem frzL_len (id : Nat) (e : Ty) (xs : List e.den) : ∀ l : List TV, (frzL id e xs l).length = l.length := by
  intro l; induction l with
  | nil => rfl
  | cons x l ih => simp [frzL, ih]
theorem frzL_get (id : Nat) (e : Ty) (xs : List e.den) : ∀ (l : List TV) (i : Nat) (h : i < (frzL id e xs l).length), (frzL id e xs l)[i] = frzT id e xs (l[i]'(by rw [frzL_len] at h; exact h)) := by
  intro l; induction l with
  | nil => intro i h; simp [frzL] at h
  | cons x l ih =>
    intro i h
    cases i with
    | zero => rfl
    | succ i => exact ih i (by simpa [frzL] using h)

theorem freeze_ok (hR : FRel S n U β s a w) {id : Nat} {e : Ty} {xs : List e.den} (hid : id < s.heap.length) (he : hget s.heap id = ⟨.row e, xs⟩) :
    ∃ U' β', FRel S n U' β' (frzS s id e) a w ∧ Adv w U β s.heap w U' β' (frzS s id e).heap (frzS s id e).app ∧
      ∀ (x : TV) (v : Value), EncV w U β s.heap x v → EncV w U' β' (frzS s id e).heap (frzT id e xs x) v := by
  have hO := hR.wrel.heap.obj id hid
  have helem := (hO.row he).1
  let bl : Blk := ⟨none, 0⟩
  let U' : Nat → Prop := fun c => U c ∨ (β id).blk = some c
  let H' : Heap := killH (Nat.beq id) (hset s.heap id ⟨.row e, []⟩)
  have hU' : ∀ c, U c → U' c := fun c h => .inl h
  have hA0 : Adv w U β s.heap w U (setB β id bl) H' [id] := Adv.appended hid he (fun _ _ => rfl) (fun _ _ _ => rfl) (.inr fun c h => by simp [bl] at h)
  have hA : Adv w U β s.heap w U' (setB β id bl) H' [id] := ⟨⟨hU', hA0.same, hA0.len, hA0.row, hA0.box⟩, fun b hlt hnu hnb => ⟨(hA0.keep b hlt hnu hnb).1, fun h => h.elim hnu (hnb id hid), (hA0.keep b hlt hnu hnb).2.2⟩⟩
  have hlen : H'.length = s.heap.length := by simp only [H']; rw [length_killH, length_hset]
  have hgk : ∀ i, i ≠ id → hget H' i = killT (Nat.beq id) (hget s.heap i) := fun i hi => by
    simp only [H']; rw [hget_killH, hget_hset_ne _ _ _ _ hi]
  have hgetid : hget H' id = ⟨.row e, []⟩ := by
    simp only [H']; rw [hget_killH, hget_hset_same _ _ _ hid, kill_row]
  have hW : WRel S U' (setB β id bl) H' w := by
    refine ⟨⟨fun i hi => ?_, fun i i' b hi hi' hb hb' => ?_⟩, hR.wrel.below, fun c hc => ?_, fun c hc => ?_, fun g z hz => ?_⟩
    · rw [hlen] at hi
      by_cases e1 : i = id
      · subst e1
        unfold ObjAt
        rw [hgetid]
        exact ⟨helem, .inl ⟨by simp [setB, bl], by simp [setB, bl], rfl⟩⟩
      · refine ObjAt.kill beqMem hA (hR.wrel.heap.obj i hi) (hgk i e1) (by simp [setB, e1]) fun b hb => ⟨rfl, ?_⟩
        rintro (h | h)
        · exact (hR.wrel.blk_lt hi hb).2.2 h
        · exact e1 (hR.wrel.heap.inj i id b hi hid hb h)
    · rw [hlen] at hi hi'
      simp only [setB, bl] at hb hb'
      split at hb
      · cases hb
      · split at hb'
        · cases hb'
        · exact hR.wrel.heap.inj i i' b hi hi' hb hb'
    · rcases hc with hc | hc
      · exact hR.wrel.uin c hc
      · exact (hR.wrel.blk_lt hid hc).1
    · refine ⟨fun h => ?_, fun h => .inl ((hR.wrel.uold c hc).2 h)⟩
      rcases h with h | h
      · exact (hR.wrel.uold c hc).1 h
      · exact absurd (hR.wrel.blk_lt hid h).2.1 (by omega)
    · rcases hR.wrel.globs g z hz with e1 | ⟨e1, e2, e3⟩
      · exact .inl e1
      · exact .inr ⟨e1, e2, e3.adv hA (avoids_of_pure _ _ e1)⟩
  have hF : FRel S n U' (setB β id bl) (frzS s id e) a w :=
    ⟨hR.defers, hR.size, fun i => by
      show EncV w U' _ _ (lookTV (killR (Nat.beq id) s.regs) i) _
      rw [look_killR]
      exact (hR.regs i).kill beqMem hA, hW⟩
  refine ⟨U', setB β id bl, hF, ⟨⟨hA.use, hA.same, hA.len, fun i e' xs' hi he' => ?_, hA.box⟩, hA.keep⟩, fun x v hx => ?_⟩
  · obtain ⟨ys', g1, g2⟩ := hA.row i e' xs' hi he'
    exact ⟨ys', g1, fun hn => g2 fun hm => hn (by rw [List.mem_singleton.1 hm]; exact List.mem_cons_self)⟩
  · have other : EncV w U' (setB β id bl) H' (killT (Nat.beq id) x) v := hx.kill beqMem hA
    obtain ⟨t, y⟩ := x
    cases t
    case slw j =>
      simp only [frzT]
      cases hj : Nat.beq id j with
      | false =>
        have : killT (Nat.beq id) ⟨.slw j, y⟩ = ⟨.slw j, y⟩ := by simp [killT, killV, hj]
        rw [this] at other
        exact other
      | true =>
        obtain rfl := beqN hj
        have hm := hx.one rfl rfl
        simp only [EncM] at hm
        obtain ⟨e', xs', _, he', hv⟩ := hm
        have hv := (List.cons.inj hv).1
        rw [he] at he'
        cases he'
        show EncV w U' (setB β id bl) H' ⟨.list e, xs⟩ v
        refine .inr ⟨by rw [hv]; rfl, ?_⟩
        rw [hv]
        simp only [EncM, Value.cells]
        obtain ⟨_, h0 | ⟨b, arr, el, fr, h1, h2, h3, h4, h5, h6, h7, h8⟩⟩ := hO.row he
        · obtain ⟨g1, g2, g3⟩ := h0
          subst g3
          exact ⟨_, _, rfl, Nat.zero_le _, fun h => absurd h (by simp)⟩
        · refine ⟨_, _, rfl, h6, fun _ => ⟨b, 0, by rw [h1]; rfl, .inr h1, fun i hi => ?_⟩⟩
          obtain ⟨cs, q1, q2⟩ := h8 i hi
          refine ⟨cs, (EncM.more hU' _ _ _ _ q1).pure_any _ _ _ _ (elem_pure helem), fun j hj => ?_⟩
          have := q2 j hj
          simp only [World.cell?, h4, Nat.zero_add]
          exact this
    all_goals exact other
end

section
variable {S : Base} {n : Nat} {U : Nat → Prop} {β : Nat → Blk} {s : St} {w : World} {α : Type} {k : St → Option α} {r : α}
/-- A step from a state that one has come to. -/
theorem Handed.after {s1 : St} {U1 : Nat → Prop} {β1 : Nat → Blk} {w1 : World} {a' : Act} {w' : World} (hA : Adv w U β s.heap w1 U1 β1 s1.heap s1.app) (hm : ∀ id, id < s.heap.length → id ∈ s.app → id ∈ s1.app)
    (h : Handed S n U1 β1 s1 w1 k r a' w') : Handed S n U β s w k r a' w' := by
  obtain ⟨s', U', β', h1, h2, h3, h4⟩ := h.out
  exact ⟨s', U', β', h1, h2, hA.trans h3 fun id hl hi => h4 id (Nat.lt_of_lt_of_le hl hA.len) hi, fun id hl hi => h4 id (Nat.lt_of_lt_of_le hl hA.len) (hm id hl hi)⟩
end
end Go.Dp
/- Maps that a call makes; rows that a function turns in place. -/
set_option autoImplicit false
set_option linter.unusedVariables false
set_option linter.unusedSimpArgs false
namespace Go.Dp
open Go.RowKit

theorem td_map {d : TypeDesc} {k e : Nat} (h : tdOf d = .map k e) : d = .map k e := by
  cases d <;> simp_all [tdOf]

/-- Where a key stands. -/
def mfindI {κ ν : Type} (eq : κ → κ → Bool) : List (κ × ν) → κ → Option Nat
  | [], _ => none
  | (a, b) :: l, k => bif eq k a then some 0 else (mfindI eq l k).map (· + 1)
theorem mfindI_lt {κ ν : Type} {eq : κ → κ → Bool} : ∀ {l : List (κ × ν)} {k : κ} {i : Nat}, mfindI eq l k = some i → i < l.length := by
  intro l
  induction l with
  | nil => intro k i h; cases h
  | cons p l ih =>
    obtain ⟨a, b⟩ := p
    intro k i h
    simp only [mfindI] at h
    cases hb : eq k a with
    | true => rw [hb] at h; cases h; simp
    | false =>
      rw [hb] at h
      obtain ⟨j, hj, rfl⟩ := Option.map_eq_some_iff.1 h
      have := ih hj
      simp; omega
theorem mfind_eq {κ ν : Type} {eq : κ → κ → Bool} : ∀ (l : List (κ × ν)) (k : κ), mfind eq l k = (mfindI eq l k).bind fun i => (l[i]?).map (·.2) := by
  intro l
  induction l with
  | nil => intro k; rfl
  | cons p l ih =>
    obtain ⟨a, b⟩ := p
    intro k
    simp only [mfind, mfindI]
    cases hb : eq k a with
    | true => rfl
    | false => simp only [cond_false]; rw [ih k]; cases mfindI eq l k <;> simp
theorem mput_eq {κ ν : Type} {eq : κ → κ → Bool} : ∀ (l : List (κ × ν)) (k : κ) (v : ν), mput eq l k v = match mfindI eq l k with | some i => l.set i (k, v) | none => l ++ [(k, v)] := by
  intro l
  induction l with
  | nil => intro k v; rfl
  | cons p l ih =>
    obtain ⟨a, b⟩ := p
    intro k v
    simp only [mput, mfindI]
    cases hb : eq k a with
    | true => rfl
    | false => simp only [cond_false]; rw [ih k v]; cases mfindI eq l k <;> simp

section
variable {S : Base} {n : Nat} {U : Nat → Prop} {β : Nat → Blk} {s : St} {a : Act} {w : World} {α : Type} {k : St → Option α} {r : α} {h : Hint} {Q : Exit → Act → World → Prop} {o : Oper}

theorem keyK_elem {td : TD} {K : Ty} (h : keyK td K = true) : K.elem = true := by
  unfold keyK at h
  split at h <;> first | rfl | cases h
theorem beq_bytes (s t : List UInt8) : ((⟨s.toArray⟩ : ByteArray) == ⟨t.toArray⟩) = (s == t) := by
  rw [Bool.eq_iff_iff, Go.MapKept.bytes_beq, beq_iff_eq]
  constructor
  · intro h
    have := congrArg (fun b : ByteArray => b.data.toList) h
    simpa using this
  · rintro rfl; rfl
theorem sameNow_key {H : Heap} {td : TD} {K : Ty} (hk : keyK td K = true) {d : TypeDesc} (hd : tdOf d = td) {x y : K.den} {v u : Value} (hv : EncV w U β H ⟨K, x⟩ v) (hu : EncV w U β H ⟨K, y⟩ u) :
    Instr.sameNow d v u = some (eqv K x y) := by
  unfold keyK at hk
  split at hk
  · have e1 := EncV.str hv
    have e2 := EncV.str hu
    subst e1; subst e2
    obtain rfl := td_str hd
    simp only [Instr.sameNow, beq_bytes]
    rfl
  · rename_i k k'
    obtain rfl := of_decide_eq_true hk
    have e1 := EncV.int hv
    have e2 := EncV.int hu
    subst e1; subst e2
    obtain rfl := td_int hd
    simp only [Instr.sameNow, if_true]
    rfl
  · cases hk
theorem checkKey_key {H : Heap} {P : Program} {td : TD} {K : Ty} (hk : keyK td K = true) {kt : Nat} {d : TypeDesc} (hd : tdOf d = td) (hu : (underlying kt).run P w = .ok d w) {x : K.den} {v : Value} (hv : EncV w U β H ⟨K, x⟩ v) (e : Bool) :
    (Instr.checkKey e 10000 kt v).run P w = .ok () w := by
  unfold keyK at hk
  split at hk
  · have e1 := EncV.str hv
    subst e1
    obtain rfl := td_str hd
    show (Instr.checkKey e (9999 + 1) kt _).run P w = .ok () w
    unfold Instr.checkKey
    simp only [Sem.run_bind, hu, Result.andThen_ok, Sem.run_pure]
  · rename_i k k'
    have e1 := EncV.int hv
    subst e1
    obtain rfl := td_int hd
    show (Instr.checkKey e (9999 + 1) kt _).run P w = .ok () w
    unfold Instr.checkKey
    simp only [Sem.run_bind, hu, Result.andThen_ok, Sem.run_pure]
  · cases hk
theorem sameBits_key {H : Heap} {td : TD} {K : Ty} (hk : keyK td K = true) {x y : K.den} {v u : Value} (hv : EncV w U β H ⟨K, x⟩ v) (hu : EncV w U β H ⟨K, y⟩ u) (he : eqv K x y = true) : Instr.sameBits 10000 u v = true := by
  unfold keyK at hk
  split at hk
  · have e1 := EncV.str hv
    have e2 := EncV.str hu
    subst e1; subst e2
    have he : x = y := by simpa [eqv] using he
    subst he
    simp [Instr.sameBits, (Go.MapKept.bytes_beq _ _).2 rfl]
  · rename_i k k'
    have e1 := EncV.int hv
    have e2 := EncV.int hu
    subst e1; subst e2
    have he : x = y := by simpa [eqv] using he
    subst he
    simp [Instr.sameBits]
  · cases hk
theorem findNow_key {H : Heap} {td : TD} {K V : Ty} (hk : keyK td K = true) {d : TypeDesc} (hd : tdOf d = td) {y : K.den} {v : Value} (hv : EncV w U β H ⟨K, y⟩ v) : ∀ (es : List MapEntry) (xs : List (K.den × V.den)) (i0 : Nat), es.length = xs.length →
    (∀ i (h : i < xs.length) (h' : i < es.length), EncV w U β H ⟨K, xs[i].1⟩ es[i].key) →
    Instr.findNow d v es i0 = some ((mfindI (eqv K) xs y).bind fun i => (es[i]?).map fun e => (i0 + i, e.val)) := by
  intro es
  induction es with
  | nil =>
    intro xs i0 hl _
    obtain rfl : xs = [] := List.eq_nil_of_length_eq_zero (by simpa using hl.symm)
    rfl
  | cons e es ih =>
    intro xs i0 hl hx
    cases xs with
    | nil => simp at hl
    | cons p xs =>
      obtain ⟨x1, x2⟩ := p
      have h0 := hx 0 (by simp) (by simp)
      simp only [List.getElem_cons_zero] at h0
      simp only [Instr.findNow, sameNow_key hk hd hv h0, mfindI]
      cases hb : eqv K y x1 with
      | true => simp
      | false =>
        simp only [cond_false]
        rw [ih xs (i0 + 1) (by simpa using hl) fun i h h' => hx (i + 1) (by simpa using h) (by simpa using h')]
        cases mfindI (eqv K) xs y with
        | none => rfl
        | some i => simp only [Option.map_some, Option.bind_some, List.getElem?_cons_succ]; rw [show i0 + 1 + i = i0 + (i + 1) by omega]

theorem makeMapC_ok (hn : h.n = n) (hR : FRel S n U β s a w) {t : Nat} (hop : o.op = .makeMap t none)
    (hk : makeMapC S.E h s o.dst t k = some r) : o.wp S.P a w (Handed S n U β s w k r) Q := by
  unfold makeMapC at hk
  split at hk
  · rename_i kt et htd
    obtain ⟨h1, hk⟩ := bif_some hk
    obtain ⟨h1, hcs⟩ := and2 h1
    obtain ⟨h1, hz⟩ := and2 h1
    obtain ⟨hkey, hel⟩ := and2 h1
    unfold Oper.wp
    have hrun : (execOp a.eval o).run S.P w = .ok (.value (.map (some w.heap.size))) (w.alloc (.map #[] 0)) := by
      simp only [execOp, hop, Option.map_none, Instr.makeMap, Sem.run_bind, newObj, Sem.run, Result.andThen_ok]
      rfl
    rw [hrun]
    have hbel := below_new w (.map #[] 0)
    have hA : Adv w U β s.heap (w.alloc (.map #[] 0)) U (setB β s.heap.length ⟨some w.heap.size, 0⟩) (s.heap ++ [⟨.mobj (tiOf S.E kt).ty (tiOf S.E et).ty, []⟩]) s.app := Adv.push hR.wrel.uin hbel _ _ (fun b e => by cases e; exact Nat.le_refl _)
    have hP := hR.push hbel (x := ⟨.mobj (tiOf S.E kt).ty (tiOf S.E et).ty, []⟩) (bl := ⟨some w.heap.size, 0⟩) (fun b e => by cases e; exact Nat.le_refl _) (by
      unfold ObjAt
      rw [hget_append_at]
      exact ⟨keyK_elem hkey, hel, w.heap.size, #[], 0, by simp [setB], hR.wrel.below.size, fun hu => by have := hR.wrel.uin _ hu; omega, heap_alloc_at w _, rfl, fun i hi => absurd hi (by simp)⟩)
    refine putC_ok hn hP (.inr ⟨rfl, ?_⟩) hA (fun _ _ h => h) hk
    simp only [EncM, Value.cells]
    exact ⟨by simp, by rw [hget_append_at]; rfl, w.heap.size, by simp [setB], rfl⟩
  · cases hk

theorem ObjAt.map {id : Nat} {K V : Ty} {xs : List (K.den × V.den)} {H : Heap} {B : Nat} (h : ObjAt w U β H B id) (he : hget H id = ⟨.mobj K V, xs⟩) :
    K.elem = true ∧ V.elem = true ∧ ∃ b es clock, (β id).blk = some b ∧ B ≤ b ∧ ¬ U b ∧ w.heap[b]? = some (.map es clock) ∧ es.size = xs.length ∧
      ∀ i (h : i < xs.length), ∃ en : MapEntry, es[i]? = some en ∧ EncV w U β H ⟨K, xs[i].1⟩ en.key ∧ EncV w U β H ⟨V, xs[i].2⟩ en.val := by
  unfold ObjAt at h
  rw [he] at h
  exact h

theorem lookupC_ok (hT : TIok S.P S.E) (hn : h.n = n) (hR : FRel S n U β s a w) {t : Nat} {x i : Operand} {ok : Bool} (hop : o.op = .lookup t x i ok)
    (hk : lookupC S.E s t (ev S.E s t x) (fun kt => ev S.E s kt i) ok (fun v => putC h s o.dst v k) = some r) : o.wp S.P a w (Handed S n U β s w k r) Q := by
  have hx := hR.ev t x
  generalize ev S.E s t x = X at hx hk
  unfold lookupC at hk
  split at hk
  · rename_i kt et id x' htd
    split at hk
    · rename_i K V xs he
      obtain ⟨h1, hk⟩ := bif_some hk
      obtain ⟨h1, hz⟩ := and2 h1
      obtain ⟨hkey, hV⟩ := and2 h1
      have hV := of_decide_eq_true hV
      split at hk
      · rename_i y hy
        have hy := cast_some hy
        have hkv := hR.ev kt i
        have hy : ev S.E s kt i = ⟨K, y⟩ := hy
        rw [hy] at hkv
        obtain ⟨info, d, hK⟩ := hT.known_td (t := t) (by rw [htd]; simp)
        obtain rfl := td_map (hK.td.trans htd)
        obtain ⟨kinfo, kd, hKk⟩ := hT.known_td (t := kt) (by intro e; rw [e] at hkey; cases hkey)
        obtain ⟨einfo, ed, hKe⟩ := (hT.known et).resolve_right fun e => by rw [e] at hV; subst hV; cases hz
        have hm := hx.one rfl rfl
        simp only [EncM] at hm
        obtain ⟨hid, _, b, hb, hv⟩ := hm
        have hv := (List.cons.inj hv).1
        obtain ⟨_, _, b', es, clock, hb', hge, hnU, hw, hsz, hes⟩ := (hR.wrel.heap.obj id hid).map he
        obtain rfl : b' = b := by rw [hb'] at hb; exact Option.some.inj hb
        have hfind := findNow_key (V := V) hkey hKk.td hkv es.toList xs 0 (by simpa using hsz) (fun j h1 h2 => by
          obtain ⟨en, g1, g2, _⟩ := hes j h1
          have : es.toList[j] = en := by
            have : es.toList[j]? = some en := by simpa using g1
            rw [List.getElem?_eq_getElem h2] at this
            exact Option.some.inj this
          rw [this]; exact g2)
        have hck := checkKey_key hkey hKk.td hKk.runU hkv es.isEmpty
        have hmf := mfind_eq (eq := eqv K) xs y
        have key : ∃ (v : Value) , EncV w U β s.heap ⟨V, (mfind (eqv K) xs y).getD V.dflt⟩ v ∧ (execOp a.eval o).run S.P w = .ok (.value (if ok then .tuple #[v, .bool (mfind (eqv K) xs y).isSome] else v)) w := by
          cases hfi : mfindI (eqv K) xs y with
          | none =>
            rw [hfi] at hfind hmf
            simp only [Option.bind_none] at hmf hfind
            rw [hmf]
            have hz2 : (tiOf S.E et).ty.zOK = true := by rw [← hV]; exact hz
            refine ⟨zval V, zval_ok V hz, ?_⟩
            simp only [execOp, hop, hv, Instr.lookup, Sem.run_bind, hK.runU, Result.andThen_ok, getObj, Sem.run, hw, hck, Instr.findKey, hKk.runU, hfind, Sem.run_pure, zeroValue, hKe.runT, hKe.zero hz2, hV]
            cases ok <;> rfl
          | some j =>
            have hj := mfindI_lt hfi
            obtain ⟨en, g1, _, g3⟩ := hes j hj
            have g1' : es.toList[j]? = some en := by simpa using g1
            rw [hfi] at hfind hmf
            simp only [Option.bind_some, g1', Option.map_some, List.getElem?_eq_getElem hj] at hmf hfind
            rw [hmf]
            refine ⟨en.val, g3, ?_⟩
            simp only [execOp, hop, hv, Instr.lookup, Sem.run_bind, hK.runU, Result.andThen_ok, getObj, Sem.run, hw, hck, Instr.findKey, hKk.runU, hfind, Sem.run_pure]
            cases ok <;> rfl
        obtain ⟨v, g1, g2⟩ := key
        cases ok with
        | false => exact value_ok hn hR g2 g1 hk
        | true =>
          refine value_ok hn hR g2 (.inr ⟨rfl, ?_⟩) hk
          simp only [EncM, Value.cells]
          exact ⟨_, rfl, v, _, rfl, g1, .bool _, _, rfl, .inr ⟨rfl, by simp [EncM, Value.cells]⟩, rfl⟩
      · cases hk
    · cases hk
  · cases hk

theorem mapUpdateC_ok (hT : TIok S.P S.E) (hn : h.n = n) (hR : FRel S n U β s a w) {t : Nat} {x i y : Operand} (hop : o.op = .mapUpdate t x i y)
    (hk : mapUpdateC S.E s t (ev S.E s t x) (fun kt => ev S.E s kt i) (fun et => ev S.E s et y) (fun s => putC h s o.dst .unk k) = some r) : o.wp S.P a w (Handed S n U β s w k r) Q := by
  have hx := hR.ev t x
  generalize ev S.E s t x = X at hx hk
  unfold mapUpdateC at hk
  split at hk
  · rename_i kt et id x' htd
    split at hk
    · rename_i K V xs he
      obtain ⟨hkey, hk⟩ := bif_some hk
      split at hk
      · rename_i y1 z1 hy hz
        have hy := cast_some hy
        have hz := cast_some hz
        have hkv := hR.ev kt i
        have hy : ev S.E s kt i = ⟨K, y1⟩ := hy
        rw [hy] at hkv
        have hzv := hR.ev et y
        have hz : ev S.E s et y = ⟨V, z1⟩ := hz
        rw [hz] at hzv
        obtain ⟨info, d, hK⟩ := hT.known_td (t := t) (by rw [htd]; simp)
        obtain rfl := td_map (hK.td.trans htd)
        obtain ⟨kinfo, kd, hKk⟩ := hT.known_td (t := kt) (by intro e; rw [e] at hkey; cases hkey)
        have hm := hx.one rfl rfl
        simp only [EncM] at hm
        obtain ⟨hid, _, b, hb, hv⟩ := hm
        have hv := (List.cons.inj hv).1
        obtain ⟨hKe, hVe, b', es, clock, hb', hge, hnU, hw, hsz, hes⟩ := (hR.wrel.heap.obj id hid).map he
        obtain rfl : b' = b := by rw [hb'] at hb; exact Option.some.inj hb
        have hlt : b' < w.heap.size := (Array.getElem?_eq_some_iff.1 hw).1
        have hfind := findNow_key (V := V) hkey hKk.td hkv es.toList xs 0 (by simpa using hsz) (fun j h1 h2 => by
          obtain ⟨en, g1, g2, _⟩ := hes j h1
          have : es.toList[j] = en := by
            have : es.toList[j]? = some en := by simpa using g1
            rw [List.getElem?_eq_getElem h2] at this
            exact Option.some.inj this
          rw [this]; exact g2)
        have hck := checkKey_key hkey hKk.td hKk.runU hkv false
        -- what the block is afterwards
        have key : ∃ es' clock', (execOp a.eval o).run S.P w = .ok .skip { w with heap := w.heap.setIfInBounds b' (.map es' clock') } ∧ es'.size = (mput (eqv K) xs y1 z1).length ∧
            ∀ i (h : i < (mput (eqv K) xs y1 z1).length), ∃ en : MapEntry, es'[i]? = some en ∧ EncV w U β s.heap ⟨K, (mput (eqv K) xs y1 z1)[i].1⟩ en.key ∧ EncV w U β s.heap ⟨V, (mput (eqv K) xs y1 z1)[i].2⟩ en.val := by
          rw [mput_eq]
          cases hfi : mfindI (eqv K) xs y1 with
          | none =>
            rw [hfi] at hfind
            simp only [Option.bind_none] at hfind
            refine ⟨es.push { key := a.eval i, val := a.eval y, born := clock }, clock + 1, ?_, by simp [hsz], fun j hj => ?_⟩
            · simp only [execOp, hop, hv, Instr.mapUpdate, Sem.run_bind, hK.runU, Result.andThen_ok, getObj, Sem.run, hw, hck, Instr.findKey, hKk.runU, hfind, Sem.run_pure, setObj]
            · simp only [List.length_append, List.length_cons, List.length_nil] at hj
              by_cases hj' : j < xs.length
              · obtain ⟨en, g1, g2, g3⟩ := hes j hj'
                refine ⟨en, ?_, by rw [List.getElem_append_left hj']; exact g2, by rw [List.getElem_append_left hj']; exact g3⟩
                rw [Array.getElem?_push, if_neg (by omega)]; exact g1
              · have : j = xs.length := by omega
                subst this
                refine ⟨_, by rw [← hsz, Array.getElem?_push, if_pos rfl], ?_, ?_⟩
                · simpa using hkv
                · simpa using hzv
          | some i0 =>
            have hj := mfindI_lt hfi
            obtain ⟨en, g1, g2, g3⟩ := hes i0 hj
            have g1' : es.toList[i0]? = some en := by simpa using g1
            have heq : eqv K y1 xs[i0].1 = true := by
              have : ∀ (l : List (K.den × V.den)) (i : Nat) (hi : i < l.length), mfindI (eqv K) l y1 = some i → eqv K y1 l[i].1 = true := by
                intro l
                induction l with
                | nil => intro i hi; simp at hi
                | cons p l ih =>
                  obtain ⟨p1, p2⟩ := p
                  intro i hi hm
                  simp only [mfindI] at hm
                  cases hb : eqv K y1 p1 with
                  | true => rw [hb] at hm; cases hm; exact hb
                  | false =>
                    rw [hb] at hm
                    obtain ⟨j, h1, rfl⟩ := Option.map_eq_some_iff.1 hm
                    exact ih j (by simpa using hi) h1
              exact this xs i0 hj hfi
            have hsb : Instr.sameBits 10000 en.key (a.eval i) = true := sameBits_key hkey hkv g2 heq
            rw [hfi] at hfind
            simp only [Option.bind_some, g1', Option.map_some, Nat.zero_add] at hfind
            refine ⟨es.modify i0 fun e => { e with key := a.eval i, val := a.eval y }, clock, ?_, by simp [hsz], fun j hj' => ?_⟩
            · simp only [execOp, hop, hv, Instr.mapUpdate, Sem.run_bind, hK.runU, Result.andThen_ok, getObj, Sem.run, hw, hck, Instr.findKey, hKk.runU, hfind, Sem.run_pure, Instr.keyThatStays, g1, Option.map_some, Option.getD_some, hsb, if_true, setObj]
            · simp only [List.length_set] at hj'
              by_cases hji : i0 = j
              · subst hji
                refine ⟨{ en with key := a.eval i, val := a.eval y }, ?_, ?_, ?_⟩
                · rw [Array.getElem?_modify, if_pos rfl, g1]; rfl
                · simpa using hkv
                · simpa using hzv
              · obtain ⟨en', g1', g2', g3'⟩ := hes j hj'
                refine ⟨en', ?_, ?_, ?_⟩
                · rw [Array.getElem?_modify, if_neg hji]; exact g1'
                · simpa [List.getElem_set, hji] using g2'
                · simpa [List.getElem_set, hji] using g3'
        obtain ⟨es', clock', hrun, hsz', hes'⟩ := key
        unfold Oper.wp
        rw [hrun]
        generalize mput (eqv K) xs y1 z1 = ys at hsz' hes' hk
        let w' : World := { w with heap := w.heap.setIfInBounds b' (.map es' clock') }
        have hsame : ∀ c, c ≠ b' → w'.heap[c]? = w.heap[c]? := fun c hc => by
          show (w.heap.setIfInBounds b' _)[c]? = w.heap[c]?
          exact Array.getElem?_setIfInBounds_ne (by omega)
        have hbel : Below b' w w' := ⟨rfl, rfl, rfl, by simp [w'], fun c hc => hsame c (by omega)⟩
        have hfits : Fits (hget s.heap id) ⟨.mobj K V, ys⟩ := by
          rw [he]
          exact ⟨fun e xs h => (by cases h), fun _ => ⟨rfl, fun e ys h => (by cases h)⟩⟩
        have hAdv0 : Adv w U β s.heap w' U β (hset s.heap id ⟨.mobj K V, ys⟩) [] := Adv.set hid (fun c hc => hsame c fun e => hnU (e ▸ hc)) (fun c _ hc => hsame c fun e => hc (by rw [e]; exact hb')) hfits
        obtain ⟨hW, hA⟩ := hR.wrel.update hid hb' hbel hsame hfits (by
          unfold ObjAt
          rw [hget_hset_same _ _ _ hid]
          refine ⟨hKe, hVe, b', es', clock', hb', hge, hnU, ?_, hsz', fun j hj => ?_⟩
          · show (w.heap.setIfInBounds b' _)[b']? = _
            simp [hlt]
          · obtain ⟨en, g1, g2, g3⟩ := hes' j hj
            exact ⟨en, g1, g2.adv hAdv0 (avoids_nil _), g3.adv hAdv0 (avoids_nil _)⟩)
        exact putC_ok (s1 := ⟨s.regs, hset s.heap id ⟨.mobj K V, ys⟩, s.app⟩) hn ⟨hR.defers, hR.size, fun i => (hR.regs i).adv (hA []) (avoids_nil _), hW⟩ (.unk _) (hA _) (fun _ _ h => h) hk
      · cases hk
    · cases hk
  · cases hk

theorem mdrop_eq {κ ν : Type} {eq : κ → κ → Bool} : ∀ (l : List (κ × ν)) (k : κ), mdrop eq l k = match mfindI eq l k with | some i => l.eraseIdx i | none => l := by
  intro l
  induction l with
  | nil => intro k; rfl
  | cons p l ih =>
    obtain ⟨a, b⟩ := p
    intro k
    simp only [mdrop, mfindI]
    cases hb : eq k a with
    | true => rfl
    | false => simp only [cond_false]; rw [ih k]; cases mfindI eq l k <;> simp

theorem deleteC_ok (hT : TIok S.P S.E) (hn : h.n = n) (hR : FRel S n U β s a w) {t u : Nat} {x i : Operand} (hop : o.op = .call { callee := .builtin .delete, args := #[x, i], argTypes := #[t, u] })
    (hk : deleteC S.E s t (ev S.E s t x) (fun kt => ev S.E s kt i) (fun s => putC h s o.dst .unk k) = some r) : o.wp S.P a w (Handed S n U β s w k r) Q := by
  have hx := hR.ev t x
  generalize ev S.E s t x = X at hx hk
  unfold deleteC at hk
  split at hk
  · rename_i kt et id x' htd
    split at hk
    · rename_i K V xs he
      obtain ⟨hkey, hk⟩ := bif_some hk
      split at hk
      · rename_i y1 hy
        have hy := cast_some hy
        have hkv := hR.ev kt i
        have hy : ev S.E s kt i = ⟨K, y1⟩ := hy
        rw [hy] at hkv
        obtain ⟨info, d, hK⟩ := hT.known_td (t := t) (by rw [htd]; simp)
        obtain rfl := td_map (hK.td.trans htd)
        obtain ⟨kinfo, kd, hKk⟩ := hT.known_td (t := kt) (by intro e; rw [e] at hkey; cases hkey)
        have hm := hx.one rfl rfl
        simp only [EncM] at hm
        obtain ⟨hid, _, b, hb, hv⟩ := hm
        have hv := (List.cons.inj hv).1
        obtain ⟨hKe, hVe, b', es, clock, hb', hge, hnU, hw, hsz, hes⟩ := (hR.wrel.heap.obj id hid).map he
        obtain rfl : b' = b := by rw [hb'] at hb; exact Option.some.inj hb
        have hlt : b' < w.heap.size := (Array.getElem?_eq_some_iff.1 hw).1
        have hfind := findNow_key (V := V) hkey hKk.td hkv es.toList xs 0 (by simpa using hsz) (fun j h1 h2 => by
          obtain ⟨en, g1, g2, _⟩ := hes j h1
          have : es.toList[j] = en := by
            have : es.toList[j]? = some en := by simpa using g1
            rw [List.getElem?_eq_getElem h2] at this
            exact Option.some.inj this
          rw [this]; exact g2)
        have hck := checkKey_key hkey hKk.td hKk.runU hkv es.isEmpty
        have key : ∃ es' clock', (execOp a.eval o).run S.P w = .ok (.value (.tuple #[])) { w with heap := w.heap.setIfInBounds b' (.map es' clock') } ∧ es'.size = (mdrop (eqv K) xs y1).length ∧
            ∀ i (h : i < (mdrop (eqv K) xs y1).length), ∃ en : MapEntry, es'[i]? = some en ∧ EncV w U β s.heap ⟨K, (mdrop (eqv K) xs y1)[i].1⟩ en.key ∧ EncV w U β s.heap ⟨V, (mdrop (eqv K) xs y1)[i].2⟩ en.val := by
          rw [mdrop_eq]
          cases hfi : mfindI (eqv K) xs y1 with
          | none =>
            rw [hfi] at hfind
            simp only [Option.bind_none] at hfind
            refine ⟨es, clock, ?_, hsz, hes⟩
            simp [execOp, hop, resolve, invoke, builtin, Builtin.delete_, hv, Sem.run_bind, hK.runU, Result.andThen_ok, getObj, Sem.run, hw, hck, Instr.findKey, hKk.runU, hfind, Sem.run_pure, setObj]
          | some i0 =>
            have hj := mfindI_lt hfi
            obtain ⟨en, g1, g2, g3⟩ := hes i0 hj
            have g1' : es.toList[i0]? = some en := by simpa using g1
            rw [hfi] at hfind
            simp only [Option.bind_some, g1', Option.map_some, Nat.zero_add] at hfind
            refine ⟨es.eraseIdxIfInBounds i0, clock, ?_, ?_, fun j hj' => ?_⟩
            · simp [execOp, hop, resolve, invoke, builtin, Builtin.delete_, hv, Sem.run_bind, hK.runU, Result.andThen_ok, getObj, Sem.run, hw, hck, Instr.findKey, hKk.runU, hfind, Sem.run_pure, setObj]
            · have hi0 : i0 < es.size := by omega
              simp only [Array.eraseIdxIfInBounds, hi0, dif_pos, Array.size_eraseIdx, List.length_eraseIdx, hj, if_true]
              omega
            · simp only [List.length_eraseIdx, hj, if_true] at hj'
              have hi0 : i0 < es.size := by omega
              simp only [Array.eraseIdxIfInBounds, hi0, dif_pos, Array.getElem?_eraseIdx, List.getElem_eraseIdx]
              by_cases hji : j < i0
              · obtain ⟨en', g1', g2', g3'⟩ := hes j (by omega)
                refine ⟨en', by rw [if_pos hji]; exact g1', ?_, ?_⟩
                · simpa [hji] using g2'
                · simpa [hji] using g3'
              · obtain ⟨en', g1', g2', g3'⟩ := hes (j + 1) (by omega)
                refine ⟨en', by rw [if_neg hji]; exact g1', ?_, ?_⟩
                · simpa [hji] using g2'
                · simpa [hji] using g3'
        obtain ⟨es', clock', hrun, hsz', hes'⟩ := key
        unfold Oper.wp
        rw [hrun]
        generalize mdrop (eqv K) xs y1 = ys at hsz' hes' hk
        let w' : World := { w with heap := w.heap.setIfInBounds b' (.map es' clock') }
        have hsame : ∀ c, c ≠ b' → w'.heap[c]? = w.heap[c]? := fun c hc => by
          show (w.heap.setIfInBounds b' _)[c]? = w.heap[c]?
          exact Array.getElem?_setIfInBounds_ne (by omega)
        have hbel : Below b' w w' := ⟨rfl, rfl, rfl, by simp [w'], fun c hc => hsame c (by omega)⟩
        have hfits : Fits (hget s.heap id) ⟨.mobj K V, ys⟩ := by
          rw [he]
          exact ⟨fun e xs h => (by cases h), fun _ => ⟨rfl, fun e ys h => (by cases h)⟩⟩
        have hAdv0 : Adv w U β s.heap w' U β (hset s.heap id ⟨.mobj K V, ys⟩) [] := Adv.set hid (fun c hc => hsame c fun e => hnU (e ▸ hc)) (fun c _ hc => hsame c fun e => hc (by rw [e]; exact hb')) hfits
        obtain ⟨hW, hA⟩ := hR.wrel.update hid hb' hbel hsame hfits (by
          unfold ObjAt
          rw [hget_hset_same _ _ _ hid]
          refine ⟨hKe, hVe, b', es', clock', hb', hge, hnU, ?_, hsz', fun j hj => ?_⟩
          · show (w.heap.setIfInBounds b' _)[b']? = _
            simp [hlt]
          · obtain ⟨en, g1, g2, g3⟩ := hes' j hj
            exact ⟨en, g1, g2.adv hAdv0 (avoids_nil _), g3.adv hAdv0 (avoids_nil _)⟩)
        exact putC_ok (s1 := ⟨s.regs, hset s.heap id ⟨.mobj K V, ys⟩, s.app⟩) hn ⟨hR.defers, hR.size, fun i => (hR.regs i).adv (hA []) (avoids_nil _), hW⟩ (.unk _) (hA _) (fun _ _ h => h) hk
      · cases hk
    · cases hk
  · cases hk

theorem twoMem {i j : Nat} : ∀ id, id ∈ [i, j] → two i j id = true := by
  intro id h
  simp only [List.mem_cons, List.not_mem_nil, or_false] at h
  rcases h with rfl | rfl <;> simp [two]

theorem move_ok (hR : FRel S n U β s a w) {i j : Nat} {e : Ty} {xi xs : List e.den} (hi : i < s.heap.length) (hj : j < s.heap.length) (hij : i ≠ j) (hei : hget s.heap i = ⟨.row e, xi⟩) (hej : hget s.heap j = ⟨.row e, xs⟩) :
    ∃ β', FRel S n U β' (moveS s i j e xs) a w ∧ Adv w U β s.heap w U β' (moveS s i j e xs).heap (moveS s i j e xs).app ∧
      (∀ (x : TV) (v : Value), EncV w U β s.heap x v → EncV w U β' (moveS s i j e xs).heap (killT (two i j) x) v) ∧
      (∀ v : Value, EncV w U β s.heap ⟨.slw j, ()⟩ v → EncV w U β' (moveS s i j e xs).heap ⟨.slw i, ()⟩ v) := by
  have hO := (hR.wrel.heap.obj j hj).row hej
  let β' : Nat → Blk := setB (setB β i (β j)) j ⟨none, 0⟩
  let H' : Heap := killH (two i j) (hset (hset s.heap i ⟨.row e, xs⟩) j ⟨.row e, []⟩)
  have hlen : H'.length = s.heap.length := by simp only [H']; rw [length_killH, length_hset, length_hset]
  have hgk : ∀ k, k ≠ i → k ≠ j → hget H' k = killT (two i j) (hget s.heap k) := fun k h1 h2 => by
    simp only [H']; rw [hget_killH, hget_hset_ne _ _ _ _ h2, hget_hset_ne _ _ _ _ h1]
  have hgi : hget H' i = ⟨.row e, xs⟩ := by
    simp only [H']; rw [hget_killH, hget_hset_ne _ _ _ _ hij, hget_hset_same _ _ _ hi, kill_row]
  have hgj : hget H' j = ⟨.row e, []⟩ := by
    simp only [H']; rw [hget_killH, hget_hset_same _ _ _ (by rw [length_hset]; exact hj), kill_row]
  have hbi : β' i = β j := by simp [β', setB, hij]
  have hbj : β' j = ⟨none, 0⟩ := by simp [β', setB]
  have hbk : ∀ k, k ≠ i → k ≠ j → β' k = β k := fun k h1 h2 => by simp [β', setB, h1, h2]
  have hA : Adv w U β s.heap w U β' H' [i, j] := by
    refine ⟨⟨fun _ h => h, fun _ _ => rfl, by rw [hlen]; exact Nat.le_refl _, fun k e' xs' hk he' => ?_, fun k hk hn => ?_⟩, fun b hb hu hn => ⟨rfl, hu, fun k hk h => ?_⟩⟩
    · by_cases e1 : k = i
      · subst e1
        rw [hei] at he'
        cases he'
        exact ⟨xs, hgi, fun hn => absurd (by simp) hn⟩
      · by_cases e2 : k = j
        · subst e2
          rw [hej] at he'
          cases he'
          exact ⟨[], hgj, fun hn => absurd (by simp) hn⟩
        · exact ⟨xs', by rw [hgk k e1 e2, he', kill_row], fun _ => ⟨rfl, hbk k e1 e2⟩⟩
    · have e1 : k ≠ i := fun e1 => by subst e1; exact hn _ _ hei
      have e2 : k ≠ j := fun e1 => by subst e1; exact hn _ _ hej
      rw [hgk k e1 e2]
      exact ⟨hbk k e1 e2, kill_shape _ _, kill_notRow hn⟩
    · rw [hlen] at hk
      by_cases e1 : k = i
      · subst e1; rw [hbi] at h; exact hn j hj h
      · by_cases e2 : k = j
        · subst e2; rw [hbj] at h; cases h
        · rw [hbk k e1 e2] at h; exact hn k hk h
  have hW : WRel S U β' H' w := by
    refine ⟨⟨fun k hk => ?_, fun k k' b hk hk' hb hb' => ?_⟩, hR.wrel.below, hR.wrel.uin, hR.wrel.uold, fun g z hz => ?_⟩
    · rw [hlen] at hk
      by_cases e1 : k = i
      · subst e1
        unfold ObjAt
        rw [hgi, hbi]
        refine ⟨hO.1, hO.2.imp id ?_⟩
        rintro ⟨b, arr, el, fr, h1, h2, h3, h4, h5, h6, h7, h8⟩
        refine ⟨b, arr, el, fr, h1, h2, h3, h4, h5, h6, h7, fun q hq => ?_⟩
        obtain ⟨cs, q1, q2⟩ := h8 q hq
        exact ⟨cs, q1.adv hA _ _ _ _ (avoids_of_pure _ _ (elem_pure hO.1)), q2⟩
      · by_cases e2 : k = j
        · subst e2
          unfold ObjAt
          rw [hgj, hbj]
          exact ⟨hO.1, .inl ⟨rfl, rfl, rfl⟩⟩
        · exact ObjAt.kill twoMem hA (hR.wrel.heap.obj k hk) (hgk k e1 e2) (hbk k e1 e2) fun b hb => ⟨rfl, (hR.wrel.blk_lt hk hb).2.2⟩
    · rw [hlen] at hk hk'
      have hor : ∀ k, k < s.heap.length → (β' k).blk = some b → (k = i ∧ (β j).blk = some b) ∨ (k ≠ i ∧ k ≠ j ∧ (β k).blk = some b) := by
        intro k hk h
        by_cases e1 : k = i
        · subst e1; rw [hbi] at h; exact .inl ⟨rfl, h⟩
        · by_cases e2 : k = j
          · subst e2; rw [hbj] at h; cases h
          · rw [hbk k e1 e2] at h; exact .inr ⟨e1, e2, h⟩
      rcases hor k hk hb with ⟨h1, h2⟩ | ⟨h1, h2, h3⟩ <;> rcases hor k' hk' hb' with ⟨g1, g2⟩ | ⟨g1, g2, g3⟩
      · rw [h1, g1]
      · exact absurd (hR.wrel.heap.inj k' j b hk' hj g3 h2) g2
      · exact absurd (hR.wrel.heap.inj k j b hk hj h3 g2) h2
      · exact hR.wrel.heap.inj k k' b hk hk' h3 g3
    · rcases hR.wrel.globs g z hz with e1 | ⟨e1, e2, e3⟩
      · exact .inl e1
      · exact .inr ⟨e1, e2, e3.adv hA (avoids_of_pure _ _ e1)⟩
  have hF : FRel S n U β' (moveS s i j e xs) a w :=
    ⟨hR.defers, hR.size, fun k => by
      show EncV w U _ _ (lookTV (killR (two i j) s.regs) k) _
      rw [look_killR]
      exact (hR.regs k).kill twoMem hA, hW⟩
  refine ⟨β', hF, ⟨⟨hA.use, hA.same, hA.len, fun k e' xs' hk he' => ?_, hA.box⟩, hA.keep⟩, fun x v hx => hx.kill twoMem hA, fun v hv => ?_⟩
  · obtain ⟨ys', g1, g2⟩ := hA.row k e' xs' hk he'
    refine ⟨ys', g1, fun hn => g2 fun hm => hn ?_⟩
    simp only [List.mem_cons, List.not_mem_nil, or_false] at hm
    rcases hm with rfl | rfl <;> simp [moveS]
  · have hm := hv.one rfl rfl
    simp only [EncM] at hm
    obtain ⟨e', xs', _, he', hv⟩ := hm
    have hv := (List.cons.inj hv).1
    rw [hej] at he'
    cases he'
    refine .inr ⟨by rw [hv]; rfl, ?_⟩
    rw [hv]
    simp only [EncM, Value.cells]
    exact ⟨e, xs, by show i < H'.length; rw [hlen]; exact hi, hgi, by rw [hbi]⟩

theorem storeMoveC_ok (hT : TIok S.P S.E) (hn : h.n = n) (hR : FRel S n U β s a w) {t : Nat} {x y : Operand} (hop : o.op = .store t x y)
    (hk : storeMoveC S.E s t (ev S.E s 0 x) (ev S.E s t y) (fun s => putC h s o.dst .unk k) = some r) : o.wp S.P a w (Handed S n U β s w k r) Q := by
  have hx := hR.ev 0 x
  have hy := hR.ev t y
  generalize ev S.E s 0 x = X at hx hk
  generalize ev S.E s t y = Y at hy hk
  unfold storeMoveC at hk
  split at hk
  · rename_i i j hm
    split at hk
    · rename_i e xi e' ys hei hej
      split at hk
      · rename_i xs hc
        have hc := cast_some hc
        cases hc
        unfold moveAt at hm
        split at hm
        · rename_i id post v j' u'
          split at hm
          · rename_i i' v' hp
            obtain ⟨g, hm⟩ := bif_none hm
            cases hm
            simp only [Bool.or_eq_false_iff, Bool.not_eq_false'] at g
            have hi := bltN g.1.2
            have hj := bltN g.2
            have hij : i ≠ j := fun e => by rw [e, Nat.beq_refl] at g; exact absurd g.1.1 (by simp)
            obtain ⟨β1, hF, hA, hx1, hy1⟩ := move_ok hR hi hj hij hei hej
            have hx2 := hx1 _ _ hx
            have e2 : killT (two i j) ⟨.loc id false post, v⟩ = ⟨.loc id false post, v⟩ := by simp [killT, killV]
            rw [e2] at hx2
            exact Oper.wp_mono (fun a' w' hh => Handed.after hA (fun _ _ h => List.mem_cons_of_mem _ (List.mem_cons_of_mem _ h)) hh) (storeV_ok hT hn hF hop hx2 (hy1 _ hy) hk)
          · cases hm
        · cases hm
      · cases hk
    · cases hk
  · exact storeV_ok hT hn hR hop hx hy hk

def EnterOK' (P : Program) (f : Nat) : Prop := ∀ (args : Array Value) (w : World), (callFunc f args).run P w = .ok (.enter f args) w
/-- What a function that turns a row in place says of the model's call. -/
structure MContract (P : Program) (f : Nat) (M : MSpec) : Prop where
  noMem : M.e.noMem = true
  enter : EnterOK' P f
  nil : ∀ K zs, M.F K [] = some zs → zs = [] ∧ ∀ w : World, Calls P f #[.slice none 0 0] w fun e w' => (∃ v, e = .returned v) ∧ Below w.heap.size w w'
  row : ∀ K ys zs, M.F K ys = some zs → zs.length = ys.length ∧ ∀ (w : World) (b cap : Nat) (arr : Array Value) (el : TypeId) (fr : Nat × Nat), w.heap[b]? = some (.cells arr el fr) → arr.size = cap * M.e.csize → ys.length ≤ cap → (∀ j, j < arr.size → ¬ (fr.1 ≤ j ∧ j < fr.2)) →
    (∀ i (h : i < ys.length), ∃ cs, EncM w (fun _ => False) (fun _ => ⟨none, 0⟩) [] false M.e ys[i] cs ∧ ∀ j (h : j < cs.length), arr[i * M.e.csize + j]? = some cs[j]) →
    Calls P f #[.slice (some ⟨b, 0, none⟩) ys.length cap] w fun e w' => (∃ v, e = .returned v) ∧ w'.os = w.os ∧ w'.output = w.output ∧ w'.tape = w.tape ∧ w.heap.size ≤ w'.heap.size ∧ (∀ c, c < w.heap.size → c ≠ b → w'.heap[c]? = w.heap[c]?) ∧
      ∃ arr', w'.heap[b]? = some (.cells arr' el fr) ∧ arr'.size = arr.size ∧ ∀ i (h : i < zs.length), ∃ cs, EncM w' (fun _ => False) (fun _ => ⟨none, 0⟩) [] false M.e zs[i] cs ∧ ∀ j (h : j < cs.length), arr'[i * M.e.csize + j]? = some cs[j]

theorem lookM_mem : ∀ {l : List (Nat × MSpec)} {f : Nat} {M : MSpec}, lookM l f = some M → (f, M) ∈ l := by
  intro l
  induction l with
  | nil => intro f M h; cases h
  | cons p l ih =>
    obtain ⟨g, M0⟩ := p
    intro f M h
    simp only [lookM] at h
    cases hb : Nat.beq g f with
    | true => rw [hb] at h; cases h; rw [beqN hb]; exact List.mem_cons_self
    | false => rw [hb] at h; exact List.mem_cons_of_mem _ (ih h)

theorem mutC_ok (hn : h.n = n) (hR : FRel S n U β s a w) {f : Nat} {M : MSpec} (hM : MContract S.P f M) {args : List TV} {vals : List Value} (hl : args.length = vals.length)
    (hv : ∀ i (h : i < args.length) (h' : i < vals.length), EncV w U β s.heap args[i] vals[i]) (hrun : (execOp a.eval o).run S.P w = (callFunc f vals.toArray).run S.P w)
    (hk : mutC S.E h s o.dst M args k = some r) : o.wp S.P a w (Handed S n U β s w k r) Q := by
  unfold mutC at hk
  split at hk
  · rename_i id x'
    split at hk
    · rename_i e xs he
      split at hk
      · rename_i ys hy
        have hy := cast_some hy
        cases hy
        rw [Option.bind_eq_some_iff] at hk
        obtain ⟨zs, hzs, hk⟩ := hk
        obtain ⟨v, rfl⟩ : ∃ v, vals = [v] := List.length_eq_one_iff.1 (by rw [← hl]; rfl)
        have h1 := hv 0 (by simp) (by simp)
        simp only [List.getElem_cons_zero] at h1
        have h1 := h1.one rfl rfl
        simp only [EncM] at h1
        obtain ⟨e', xs', hid, he', hvv⟩ := h1
        rw [he] at he'
        cases he'
        have hvv := (List.cons.inj hvv).1
        subst hvv
        obtain ⟨helem, hrow⟩ := (hR.wrel.heap.obj id hid).row he
        unfold Oper.wp
        rw [hrun, hM.enter]
        simp only [Oper.upon]
        rcases hrow with ⟨hb, hc, rfl⟩ | ⟨b, arr, el, fr, hb, hge, hnU, hw, hsz, hcap, hfr, hel⟩
        · obtain ⟨rfl, hcall⟩ := hM.nil _ _ hzs
          rw [hb, hc]
          refine (hcall w).mono ?_
          rintro e' w' ⟨⟨v, rfl⟩, hbel⟩
          have hG := hR.grow hbel (U' := U) (fun b => ⟨.inl, fun h => h.elim (fun h => h) fun h => h.2.2⟩)
          have hs : hset s.heap id ⟨.row M.e, []⟩ = s.heap := by
            rw [← he]
            have : ∀ (H : Heap) (i : Nat), hset H i (hget H i) = H := by
              intro H
              induction H with
              | nil => intro i; rfl
              | cons x l ih => intro i; cases i <;> simp [hset, hget, ih]
            exact this _ _
          rw [hs] at hk
          exact putC_ok (s1 := s) hn hG (.unk _) (Adv.grow hbel.block hR.wrel.uin (fun b hb => hb) (fun _ _ h => h)) (fun _ _ h => h) hk
        · obtain ⟨hlen, hcall⟩ := hM.row _ _ _ hzs
          rw [hb]
          refine (hcall w b (β id).cap arr el fr hw hsz hcap hfr fun i hi => ?_).mono ?_
          · obtain ⟨cs, g1, g2⟩ := hel i hi
            exact ⟨cs, noMem_any _ _ _ _ hM.noMem g1, g2⟩
          rintro e' w' ⟨⟨v, rfl⟩, ho, hou, ht, hsize, hsame', arr', hw', harr', hzs'⟩
          have hlt : b < w.heap.size := (Array.getElem?_eq_some_iff.1 hw).1
          let w1 : World := { w with heap := w.heap.setIfInBounds b (.cells arr' el fr) }
          have hsame : ∀ c, c ≠ b → w1.heap[c]? = w.heap[c]? := fun c hc => by
            show (w.heap.setIfInBounds b _)[c]? = w.heap[c]?
            exact Array.getElem?_setIfInBounds_ne (by omega)
          have hsz1 : w1.heap.size = w.heap.size := by simp [w1]
          have hbel : Below b w w1 := ⟨rfl, rfl, rfl, by omega, fun c hc => hsame c (by omega)⟩
          have hat : w1.heap[b]? = some (.cells arr' el fr) := by
            show (w.heap.setIfInBounds b _)[b]? = _
            simp [hlt]
          have hfits : Fits (hget s.heap id) ⟨.row M.e, zs⟩ := by
            rw [he]
            exact ⟨fun e xs h => by cases h; exact ⟨zs, rfl, hlen⟩, fun hh => absurd rfl (hh _ _)⟩
          obtain ⟨hW, hA⟩ := hR.wrel.update hid hb hbel hsame hfits (by
            unfold ObjAt
            rw [hget_hset_same _ _ _ hid]
            refine ⟨helem, .inr ⟨b, arr', el, fr, hb, hge, hnU, hat, by rw [harr', hsz], by rw [hlen]; exact hcap, fun j hj => hfr j (by rw [← harr']; exact hj), fun i hi => ?_⟩⟩
            obtain ⟨cs, g1, g2⟩ := hzs' i hi
            exact ⟨cs, noMem_any _ _ _ _ hM.noMem g1, g2⟩)
          have hF1 : FRel S n U β ⟨s.regs, hset s.heap id ⟨.row M.e, zs⟩, s.app⟩ a w1 := ⟨hR.defers, hR.size, fun i => (hR.regs i).adv (hA []) (avoids_nil _), hW⟩
          have hbel2 : Below w1.heap.size w1 w' := by
            refine ⟨ho, ht, hou, by omega, fun c hc => ?_⟩
            rw [hsz1] at hc
            by_cases e : c = b
            · subst e; rw [hw', hat]
            · rw [hsame' c hc e, hsame c e]
          have hG := hF1.grow hbel2 (U' := U) (fun b => ⟨.inl, fun h => h.elim (fun h => h) fun h => h.2.2⟩)
          refine putC_ok (s1 := ⟨s.regs, hset s.heap id ⟨.row M.e, zs⟩, s.app⟩) hn hG (.unk _) ?_ (fun _ _ h => h) hk
          exact (hA s.app).trans (Adv.grow hbel2.block hF1.wrel.uin (fun b hb => hb) (fun _ _ h => h)) (fun _ _ h => h)
      · cases hk
    · cases hk
  · cases hk
end
end Go.Dp
/- Calls. -/
set_option autoImplicit false
set_option linter.unusedVariables false
set_option linter.unusedSimpArgs false
namespace Go.Dp
open Go.RowKit

def noB (_ : Nat) : Blk := ⟨none, 0⟩

def GlobOK (gl : List (Nat × TV)) (w : World) (U : Nat → Prop) : Prop :=
  ∀ g x, lookTV gl g = x → x.t.isUnk = true ∨ (x.t.pure = true ∧ x.t.isAgg = false ∧ GlobAt w U noB [] g x)

def EnterOK (P : Program) (f : Nat) : Prop := ∀ (args : Array Value) (w : World), (callFunc f args).run P w = .ok (.enter f args) w

def Grows (w w' : World) (U U' : Nat → Prop) : Prop := ∀ b, U' b ↔ U b ∨ (w.heap.size ≤ b ∧ b < w'.heap.size ∧ U' b)

/-- A call that is entered, or that the model answers in place. -/
def CallsV (P : Program) (f : Nat) (vals : Array Value) (w : World) (R : Ending → World → Prop) : Prop :=
  (EnterOK P f ∧ Calls P f vals w R) ∨ ∃ v w', (callFunc f vals).run P w = .ok (.value v) w' ∧ R (.returned v) w'

/-- What a function's specification says of the model's call. -/
structure Contract (P : Program) (gl : List (Nat × TV)) (f : Nat) (Sp : Spec) : Prop where
  argsP : Sp.args.pure = true
  resP : Sp.res.pure = true
  calls : ∀ (K : Nat) (x : Sp.args.den) (r : Sp.res.den), Sp.F K x = some r → ∀ (w : World) (U : Nat → Prop) (vals : Array Value), (∀ b, U b → b < w.heap.size) → GlobOK gl w U → EncM w U noB [] true Sp.args x vals.toList →
    CallsV P f vals w fun e w' => ∃ v U', e = .returned v ∧ Below w.heap.size w w' ∧ Grows w w' U U' ∧ EncV w' U' noB [] ⟨Sp.res, r⟩ v

/-- The same of a function whose answer is a row of its own. -/
structure OContract (P : Program) (gl : List (Nat × TV)) (f : Nat) (O : OSpec) : Prop where
  argsP : O.args.pure = true
  noMem : O.e.noMem = true
  elem : O.e.elem = true
  enter : EnterOK P f
  calls : ∀ (K : Nat) (x : O.args.den) (zs : List O.e.den), O.F K x = some zs → ∀ (w : World) (U : Nat → Prop) (vals : Array Value), (∀ b, U b → b < w.heap.size) → GlobOK gl w U → EncM w U noB [] true O.args x vals.toList →
    Calls P f vals w fun e w' => ∃ bl : Blk, e = .returned (.slice (bl.blk.map fun b => ⟨b, 0, none⟩) zs.length bl.cap) ∧ Below w.heap.size w w' ∧
      ((bl.blk = none ∧ bl.cap = 0 ∧ zs = []) ∨ ∃ b arr el fr, bl.blk = some b ∧ w.heap.size ≤ b ∧ w'.heap[b]? = some (.cells arr el fr) ∧ arr.size = bl.cap * O.e.csize ∧ zs.length ≤ bl.cap ∧ (∀ j, j < arr.size → ¬ (fr.1 ≤ j ∧ j < fr.2)) ∧
        ∀ i (h : i < zs.length), ∃ cs, EncM w' (fun _ => False) noB [] false O.e zs[i] cs ∧ ∀ j (h : j < cs.length), arr[i * O.e.csize + j]? = some cs[j])

structure SpecsOK (P : Program) (E : Env) : Prop where
  ok : ∀ f Sp, (f, Sp) ∈ E.specs → Contract P E.gl f Sp
  turn : ∀ f M, (f, M) ∈ E.muts → MContract P f M
  own : ∀ f O, (f, O) ∈ E.owns → OContract P E.gl f O

/-- What a call that is gone through answers. -/
structure CallPost (S : Base) (U : Nat → Prop) (β : Nat → Blk) (H : Heap) (w : World) {α : Type} (k : TV → Heap → List Nat → Option α) (r : α) (e : Ending) (w' : World) : Prop where
  out : ∃ v x H' app U' β', e = .returned v ∧ EncV w' U' β' H' x v ∧ WRel S U' β' H' w' ∧ Adv w U β H w' U' β' H' app ∧ k x H' app = some r

def CallSound (S : Base) {α : Type} (call : CallT α) : Prop :=
  ∀ (f : Nat) (args : List TV) (H : Heap) (k : TV → Heap → List Nat → Option α) (r : α), call f args H [] k = some r →
    EnterOK S.P f ∧ ∀ (U : Nat → Prop) (β : Nat → Blk) (w : World) (vals : List Value), WRel S U β H w → args.length = vals.length → (∀ i (h : i < args.length) (h' : i < vals.length), EncV w U β H args[i] vals[i]) →
      Calls S.P f vals.toArray w (CallPost S U β H w k r)

section
variable {S : Base} {n : Nat} {U : Nat → Prop} {β : Nat → Blk} {s : St} {a : Act} {w w' : World} {α : Type} {k : St → Option α} {r : α} {h : Hint} {Q : Exit → Act → World → Prop} {o : Oper} {call : CallT α}

theorem chList_ok {H : Heap} : ∀ (R : Ty) (x : R.den) (vs : List Value), EncM w U β H true R x vs → (chList R x).length = vs.length ∧ ∀ i (h : i < (chList R x).length) (h' : i < vs.length), EncV w U β H (chList R x)[i] vs[i] := by
  intro R
  induction R with
  | scons a b iha ihb =>
    intro x vs h
    simp only [EncM] at h
    obtain ⟨v, l2, rfl, h1, h2⟩ := h
    obtain ⟨h3, h4⟩ := ihb x.2 l2 h2
    refine ⟨by simp [chList, h3], fun i hi hi' => ?_⟩
    cases i with
    | zero => exact h1
    | succ i => exact h4 i (by simpa [chList] using hi) (by simpa using hi')
  | snil => intro x vs h; simp only [EncM] at h; subst h; exact ⟨rfl, fun i hi => absurd hi (by simp [chList])⟩
  | _ => intro x vs h; simp [EncM] at h

theorem evL_ok (hR : FRel S n U β s a w) : ∀ (xs : List Operand) (ts : List Nat), xs.length = ts.length → (evL S.E s xs ts).length = xs.length ∧ ∀ i (h : i < (evL S.E s xs ts).length) (h' : i < (xs.map a.eval).length), EncV w U β s.heap (evL S.E s xs ts)[i] (xs.map a.eval)[i] := by
  intro xs
  induction xs with
  | nil => intro ts _; cases ts <;> exact ⟨rfl, fun i hi => absurd hi (by simp [evL])⟩
  | cons x xs ih =>
    intro ts hl
    cases ts with
    | nil => simp at hl
    | cons t ts =>
      obtain ⟨h1, h2⟩ := ih ts (by simpa using hl)
      refine ⟨by simp [evL, h1], fun i hi hi' => ?_⟩
      cases i with
      | zero => exact hR.ev t x
      | succ i => exact h2 i (by simpa [evL] using hi) (by simpa using hi')

theorem evL0_ok (hR : FRel S n U β s a w) : ∀ (xs : List Operand), (evL0 S.E s xs).length = xs.length ∧ ∀ i (h : i < (evL0 S.E s xs).length) (h' : i < (xs.map a.eval).length), EncV w U β s.heap (evL0 S.E s xs)[i] (xs.map a.eval)[i] := by
  intro xs
  induction xs with
  | nil => exact ⟨rfl, fun i hi => absurd hi (by simp [evL0])⟩
  | cons x xs ih =>
    obtain ⟨h1, h2⟩ := ih
    refine ⟨by simp [evL0, h1], fun i hi hi' => ?_⟩
    cases i with
    | zero => exact hR.ev 0 x
    | succ i => exact h2 i (by simpa [evL0] using hi) (by simpa using hi')

theorem freezeL_len (H : Heap) : ∀ l : List TV, (freezeL H l).length = l.length := by
  intro l; induction l with
  | nil => rfl
  | cons x l ih => simp [freezeL, ih]
theorem freezeL_get (H : Heap) : ∀ (l : List TV) (i : Nat) (h : i < l.length) (h' : i < (freezeL H l).length), (freezeL H l)[i] = deepF H 3 l[i] := by
  intro l
  induction l with
  | nil => intro i h; simp at h
  | cons x l ih =>
    intro i h h'
    cases i with
    | zero => rfl
    | succ i => exact ih i (by simpa using h) (by simpa [freezeL] using h')

theorem deepV_pure (H : Heap) (r : Nat → TV) : ∀ (t : Ty) (x : t.den), t.pure = true → deepV H r t x = ⟨t, x⟩ := by
  intro t
  induction t with
  | scons a b iha ihb => intro x h; simp only [Ty.pure, Bool.and_eq_true] at h; simp only [deepV]; rw [iha _ h.1, ihb _ h.2]
  | tup b ih => intro x h; simp only [deepV]; rw [ih _ h]
  | hl b ih => intro x h; simp only [deepV]; rw [ih _ h]
  | fn f c ih => intro x h; simp only [deepV]; rw [ih _ h]
  | bm f c ih => intro x h; simp only [deepV]; rw [ih _ h]
  | iface t a ih => intro x h; simp only [deepV]; rw [ih _ h]
  | slw id => intro x h; cases h
  | slv id => intro x h; cases h
  | loc id ix p => intro x h; cases h
  | _ => intro x h; rfl
theorem deepF_pure (H : Heap) (n : Nat) (x : TV) (h : x.t.pure = true) : deepF H n x = x := by
  cases n <;> exact deepV_pure _ _ _ _ h

theorem WRel.globOK (h : WRel S U β s.heap w) : GlobOK S.E.gl w U := by
  intro g x hx
  rcases h.globs g x hx with e | ⟨e1, e2, e3⟩
  · exact .inl e
  · exact .inr ⟨e1, e2, ⟨e3.enc.pure_any _ _ _ _ e1, e3.whole⟩⟩

theorem memN_mem : ∀ {l : List Nat} {i : Nat}, i ∈ l → memN l i = true := by
  intro l
  induction l with
  | nil => intro i h; cases h
  | cons j l ih =>
    intro i h
    simp only [memN]
    cases hb : Nat.beq j i with
    | true => rfl
    | false =>
      rcases List.mem_cons.1 h with e | e
      · subst e; rw [Nat.beq_refl] at hb; cases hb
      · exact ih e

theorem lookS_mem : ∀ {l : List (Nat × Spec)} {f : Nat} {t : Ty} {Sp : Spec}, lookS l f t = some Sp → (f, Sp) ∈ l := by
  intro l
  induction l with
  | nil => intro f t Sp h; cases h
  | cons p l ih =>
    intro f t Sp h
    obtain ⟨g, S⟩ := p
    simp only [lookS] at h
    cases hb : Nat.beq g f && decide (S.args = t) with
    | true =>
      rw [hb] at h
      obtain rfl := beqN (and2 hb).1
      cases h
      exact List.mem_cons_self
    | false => rw [hb] at h; exact List.mem_cons_of_mem _ (ih h)

theorem callFnC_ok (hS : SpecsOK S.P S.E) (hC : CallSound S call) (hn : h.n = n) (hR : FRel S n U β s a w) {f : Nat} {args : List TV} {vals : List Value} (hl : args.length = vals.length)
    (hv : ∀ i (h : i < args.length) (h' : i < vals.length), EncV w U β s.heap args[i] vals[i]) (hrun : (execOp a.eval o).run S.P w = (callFunc f vals.toArray).run S.P w)
    (hk : callFnC S.E h call s o.dst f args k = some r) : o.wp S.P a w (Handed S n U β s w k r) Q := by
  unfold callFnC at hk
  split at hk
  · rename_i Sp hsp
    have hCt := hS.ok f Sp (lookS_mem hsp)
    obtain ⟨hcond, hk⟩ := bif_some hk
    split at hk
    · rename_i x hx
      have hx := cast_some hx
      rw [Option.bind_eq_some_iff] at hk
      obtain ⟨y, hy, hk⟩ := hk
      unfold Oper.wp
      rw [hrun]
      have up : ∀ {R : Ending → World → Prop} {N : Act → World → Prop}, CallsV S.P f vals.toArray w R → (∀ e w1, R e w1 → ∃ v, e = .returned v ∧ N (a.put o.dst v) w1) → o.upon S.P a N Q ((callFunc f vals.toArray).run S.P w) := by
        intro R N hc hR
        rcases hc with ⟨h1, h2⟩ | ⟨v, w', h1, h2⟩
        · rw [h1]
          simp only [Oper.upon]
          refine h2.mono fun e w1 h3 => ?_
          obtain ⟨v, rfl, h4⟩ := hR _ _ h3
          exact h4
        · rw [h1]
          obtain ⟨v', e, h4⟩ := hR _ _ h2
          cases e
          exact h4
      -- the arguments as they are now
      have key : ∀ U2 : Nat → Prop, (∀ b, U b → U2 b) → (∀ i (h : i < (freezeL s.heap args).length) (h' : i < vals.length), EncV w U2 β s.heap (freezeL s.heap args)[i] vals[i]) → EncM w U2 noB [] true Sp.args x vals := by
        intro U2 _ h2
        have h3 := chMk_chain _ vals (by rw [freezeL_len]; exact hl) h2
        have hx' : (chMk (freezeL s.heap args)) = ⟨Sp.args, x⟩ := hx
        rw [hx'] at h3
        exact h3.pure_any _ _ _ _ hCt.argsP
      have fin : ∀ {w1 : World} {v : Value} {U1 : Nat → Prop}, Grows w w1 U U1 → EncV w1 U1 β s.heap ⟨Sp.res, y⟩ v → Below w.heap.size w w1 → Handed S n U β s w k r (a.put o.dst v) w1 := by
        intro w1 v U1 hg he hb
        exact putC_ok hn (hR.grow hb hg) he (Adv.grow hb.block hR.wrel.uin (fun b hb' => (hg b).2 (.inl hb')) (un_of hg)) (fun _ _ h => h) hk
      cases hnm : Sp.res.noMem with
      | true =>
        let U2 : Nat → Prop := fun b => U b ∨ ∃ id, id < s.heap.length ∧ (β id).blk = some b
        have hU2 : ∀ b, U b → U2 b := fun b hb => .inl hb
        have hin : ∀ b, U2 b → b < w.heap.size := by
          rintro b (hb | ⟨id, hid, hb⟩)
          · exact hR.wrel.uin b hb
          · exact (hR.wrel.blk_lt hid hb).1
        have henc := key U2 hU2 fun i h1 h2 => by
          rw [freezeL_get _ _ _ (by rw [freezeL_len] at h1; exact h1)]
          exact deepF_val hR.wrel.heap hU2 (fun id b hid hb => .inr ⟨id, hid, hb⟩) 3 (hv i (by rw [freezeL_len] at h1; exact h1) h2)
        have hglob : GlobOK S.E.gl w U2 := by
          intro g z hz
          rcases hR.wrel.globOK (s := s) g z hz with e | ⟨e1, e2, e3⟩
          · exact .inl e
          · exact .inr ⟨e1, e2, ⟨EncM.more hU2 _ _ _ _ e3.enc, e3.whole⟩⟩
        refine up (hCt.calls S.E.K x y hy w U2 vals.toArray hin hglob (by simpa using henc)) ?_
        rintro e w1 ⟨v, U', rfl, hb, _, he⟩
        refine ⟨v, rfl, fin (U1 := U) (fun b => ⟨.inl, ?_⟩) ?_ hb⟩
        · rintro (h | ⟨_, _, h⟩) <;> exact h
        · rcases he with he | ⟨h1, h2⟩
          · exact .inl he
          · exact .inr ⟨h1, noMem_any _ _ _ _ hnm h2⟩
      | false =>
        rw [hnm, Bool.false_or] at hcond
        have henc := key U (fun _ h => h) fun i h1 h2 => by
          have h3 : i < args.length := by rw [freezeL_len] at h1; exact h1
          rw [freezeL_get _ _ _ h3, deepF_pure _ _ _ (List.all_eq_true.1 hcond _ (List.getElem_mem h3))]
          exact hv i h3 h2
        refine up (hCt.calls S.E.K x y hy w U vals.toArray hR.wrel.uin (hR.wrel.globOK (s := s)) (by simpa using henc)) ?_
        rintro e w1 ⟨v, U', rfl, hb, hg, he⟩
        refine ⟨v, rfl, fin hg ?_ hb⟩
        rcases he with he | ⟨h1, h2⟩
        · exact .inl he
        · exact .inr ⟨h1, h2.pure_any _ _ _ _ hCt.resP⟩
    · cases hk
  · rename_i hsp
    obtain ⟨hent, hcalls⟩ := hC f args s.heap _ r hk
    unfold Oper.wp
    rw [hrun, hent]
    simp only [Oper.upon]
    refine (hcalls U β w vals hR.wrel hl hv).mono ?_
    rintro e w1 ⟨v, x, H', app, U', β', rfl, he, hW, hA, hk⟩
    have hF : FRel S n U' β' ⟨killR (memN app) s.regs, H', app ++ s.app⟩ a w1 :=
      ⟨hR.defers, hR.size, fun i => by
        show EncV w1 U' β' H' (lookTV (killR (memN app) s.regs) i) _
        rw [look_killR]
        exact (hR.regs i).kill (fun id hid => memN_mem hid) hA, hW⟩
    refine putC_ok hn hF he ⟨⟨hA.use, hA.same, hA.len, fun i e' xs' hi he' => ?_, hA.box⟩, hA.keep⟩ (fun _ _ h => List.mem_append.2 (.inr h)) hk
    obtain ⟨ys', g1, g2⟩ := hA.row i e' xs' hi he'
    exact ⟨ys', g1, fun hn => g2 fun hm => hn (List.mem_append.2 (.inl hm))⟩

theorem lookO_mem : ∀ {l : List (Nat × OSpec)} {f : Nat} {t : Ty} {O : OSpec}, lookO l f t = some O → (f, O) ∈ l := by
  intro l
  induction l with
  | nil => intro f t O h; cases h
  | cons p l ih =>
    obtain ⟨g, O0⟩ := p
    intro f t O h
    simp only [lookO] at h
    cases hb : (Nat.beq g f && decide (O0.args = t)) with
    | true =>
      rw [hb] at h
      obtain ⟨h1, _⟩ := and2 hb
      obtain rfl := beqN h1
      cases h
      exact List.mem_cons_self
    | false => rw [hb] at h; exact List.mem_cons_of_mem _ (ih h)

theorem ownC_ok (hn : h.n = n) (hR : FRel S n U β s a w) {f : Nat} {O : OSpec} (hO : OContract S.P S.E.gl f O) {args : List TV} {vals : List Value} (hl : args.length = vals.length)
    (hv : ∀ i (h : i < args.length) (h' : i < vals.length), EncV w U β s.heap args[i] vals[i]) (hrun : (execOp a.eval o).run S.P w = (callFunc f vals.toArray).run S.P w)
    (hk : ownC S.E h s o.dst O args k = some r) : o.wp S.P a w (Handed S n U β s w k r) Q := by
  unfold ownC at hk
  split at hk
  · rename_i x hx
    have hx := cast_some hx
    rw [Option.bind_eq_some_iff] at hk
    obtain ⟨zs, hzs, hk⟩ := hk
    let U2 : Nat → Prop := fun b => U b ∨ ∃ id, id < s.heap.length ∧ (β id).blk = some b
    have hU2 : ∀ b, U b → U2 b := fun b hb => .inl hb
    have hin : ∀ b, U2 b → b < w.heap.size := by
      rintro b (hb | ⟨id, hid, hb⟩)
      · exact hR.wrel.uin b hb
      · exact (hR.wrel.blk_lt hid hb).1
    have henc : EncM w U2 noB [] true O.args x vals := by
      have h3 := chMk_chain (w := w) (U := U2) (β := β) (H := s.heap) (freezeL s.heap args) vals (by rw [freezeL_len]; exact hl) (fun i h1 h2 => by
        rw [freezeL_get _ _ _ (by rw [freezeL_len] at h1; exact h1)]
        exact deepF_val hR.wrel.heap hU2 (fun id b hid hb => .inr ⟨id, hid, hb⟩) 3 (hv i (by rw [freezeL_len] at h1; exact h1) h2))
      have hx' : (chMk (freezeL s.heap args)) = ⟨O.args, x⟩ := hx
      rw [hx'] at h3
      exact h3.pure_any _ _ _ _ hO.argsP
    have hglob : GlobOK S.E.gl w U2 := by
      intro g z hz
      rcases hR.wrel.globOK (s := s) g z hz with e | ⟨e1, e2, e3⟩
      · exact .inl e
      · exact .inr ⟨e1, e2, ⟨EncM.more hU2 _ _ _ _ e3.enc, e3.whole⟩⟩
    unfold Oper.wp
    rw [hrun, hO.enter]
    simp only [Oper.upon]
    refine (hO.calls S.E.K x zs hzs w U2 vals.toArray hin hglob (by simpa using henc)).mono ?_
    rintro e w1 ⟨bl, rfl, hb, hrow⟩
    have hA : Adv w U β s.heap w1 U (setB β s.heap.length bl) (s.heap ++ [⟨.row O.e, zs⟩]) s.app := Adv.push hR.wrel.uin hb _ _ (fun b e => by
        rcases hrow with ⟨h1, _⟩ | ⟨b', _, _, _, h1, h2, _⟩
        · rw [h1] at e; cases e
        · rw [h1] at e; cases e; exact h2)
    have hP := hR.push hb (x := ⟨.row O.e, zs⟩) (bl := bl) (fun b e => by
        rcases hrow with ⟨h1, _⟩ | ⟨b', _, _, _, h1, h2, _⟩
        · rw [h1] at e; cases e
        · rw [h1] at e; cases e; exact h2) (by
      unfold ObjAt
      rw [hget_append_at]
      refine ⟨hO.elem, ?_⟩
      rcases hrow with ⟨h1, h2, h3⟩ | ⟨b, arr, el, fr, h1, h2, h3, h4, h5, h6, h7⟩
      · exact .inl ⟨by simp [setB, h1], by simp [setB, h2], h3⟩
      · refine .inr ⟨b, arr, el, fr, by simp [setB, h1], Nat.le_trans hR.wrel.below.size h2, fun hu => by have := hR.wrel.uin _ hu; omega, h3, by simpa [setB] using h4, by simpa [setB] using h5, h6, fun i hi => ?_⟩
        obtain ⟨cs, g1, g2⟩ := h7 i hi
        exact ⟨cs, noMem_any _ _ _ _ hO.noMem g1, g2⟩)
    refine putC_ok (s1 := ⟨s.regs, s.heap ++ [⟨.row O.e, zs⟩], s.app⟩) hn hP (.inr ⟨rfl, ?_⟩) hA (fun _ _ h => h) hk
    simp only [EncM, Value.cells]
    exact ⟨O.e, zs, by simp, hget_append_at, by simp [setB]⟩
  · cases hk

theorem callO_ok (hS : SpecsOK S.P S.E) (hC : CallSound S call) (hn : h.n = n) (hR : FRel S n U β s a w) {f : Nat} {args : List TV} {vals : List Value} (hl : args.length = vals.length)
    (hv : ∀ i (h : i < args.length) (h' : i < vals.length), EncV w U β s.heap args[i] vals[i]) (hrun : (execOp a.eval o).run S.P w = (callFunc f vals.toArray).run S.P w)
    (hk : callO S.E h call s o.dst f args k = some r) : o.wp S.P a w (Handed S n U β s w k r) Q := by
  unfold callO at hk
  cases hw : h.isOwn o.dst with
  | false => rw [hw] at hk; exact callFnC_ok hS hC hn hR hl hv hrun hk
  | true =>
    rw [hw] at hk
    simp only [cond_true] at hk
    split at hk
    · rename_i O hO
      exact ownC_ok hn hR (hS.own f O (lookO_mem hO)) hl hv hrun hk
    · exact callFnC_ok hS hC hn hR hl hv hrun hk

theorem fnuC_some {δ : Type} {k : Nat → Option δ} {r : δ} {f : Nat} : ∀ {fs : List Nat} {i0 n : Nat}, fnuC fs i0 n k = some r → fs[n - i0]? = some f → i0 ≤ n → k f = some r := by
  intro fs
  induction fs with
  | nil => intro i0 n h; cases h
  | cons g fs ih =>
    intro i0 n h hf hle
    simp only [fnuC] at h
    cases hb : Nat.beq n i0 with
    | true =>
      rw [hb] at h
      have := beqN hb
      subst this
      simp at hf
      subst hf
      exact h
    | false =>
      rw [hb] at h
      have hne : n ≠ i0 := fun e => by subst e; rw [Nat.beq_refl] at hb; cases hb
      refine ih h ?_ (by omega)
      rw [show n - i0 = (n - (i0 + 1)) + 1 by omega] at hf
      simpa using hf

theorem callC_ok (hS : SpecsOK S.P S.E) (hC : CallSound S call) (hn : h.n = n) (hR : FRel S n U β s a w) {c : Call} {f : Operand} (hop : o.op = .call c) (hcal : c.callee = .value f)
    (hlen : c.args.toList.length = c.argTypes.toList.length) (hk : callC S.E h call s o.dst (ev S.E s 0 f) (evL S.E s c.args.toList c.argTypes.toList) k = some r) : o.wp S.P a w (Handed S n U β s w k r) Q := by
  have hf := hR.ev 0 f
  generalize ev S.E s 0 f = X at hf hk
  unfold callC at hk
  split at hk
  · rename_i fid fst cv
    cases hfz : h.isFrz o.dst with
    | true => rw [hfz] at hk; cases hk
    | false =>
    rw [hfz, cond_false] at hk
    have hm := hf.one rfl rfl
    simp only [EncM] at hm
    obtain ⟨vs, hv, hch⟩ := hm
    have hv := (List.cons.inj hv).1
    obtain ⟨h1, h2⟩ := evL_ok hR c.args.toList c.argTypes.toList hlen
    obtain ⟨h3, h4⟩ := chList_ok fst cv vs.toList hch
    have hlen' : (chList fst cv ++ evL S.E s c.args.toList c.argTypes.toList).length = (vs.toList ++ c.args.toList.map a.eval).length := by simp [h1, h3]
    have hrun : (execOp a.eval o).run S.P w = (callFunc fid (vs.toList ++ c.args.toList.map a.eval).toArray).run S.P w := by
      have e1 : (vs.toList ++ c.args.toList.map a.eval).toArray = vs ++ c.args.map a.eval := by
        apply Array.ext'
        simp
      rw [e1]
      simp [execOp, hop, resolve, hcal, hv, Deferred.ofValue, Sem.run_bind, Sem.run_pure, Result.andThen_ok, invoke]
    have hvals : ∀ i (h : i < (chList fst cv ++ evL S.E s c.args.toList c.argTypes.toList).length) (h' : i < (vs.toList ++ c.args.toList.map a.eval).length), EncV w U β s.heap (chList fst cv ++ evL S.E s c.args.toList c.argTypes.toList)[i] (vs.toList ++ c.args.toList.map a.eval)[i] := by
      intro i hi hi'
      by_cases hlt : i < (chList fst cv).length
      · rw [List.getElem_append_left hlt, List.getElem_append_left (by rw [h3] at hlt; simpa using hlt)]
        exact h4 i hlt (by rw [h3] at hlt; simpa using hlt)
      · have e1 : (chList fst cv).length = vs.toList.length := h3
        rw [List.getElem_append_right (by omega), List.getElem_append_right (by omega)]
        simp only [← e1]
        exact h2 _ _ _
    exact callFnC_ok hS hC hn hR (f := fid) hlen' hvals hrun hk
  · rename_i fs cv
    cases hfz : h.isFrz o.dst with
    | true => rw [hfz] at hk; cases hk
    | false =>
    rw [hfz, cond_false] at hk
    have hm := hf.one rfl rfl
    simp only [EncM] at hm
    obtain ⟨fid, hfs, hv⟩ := hm
    have hv := (List.cons.inj hv).1
    obtain ⟨h1, h2⟩ := evL_ok hR c.args.toList c.argTypes.toList hlen
    have hrun : (execOp a.eval o).run S.P w = (callFunc fid (c.args.toList.map a.eval).toArray).run S.P w := by
      have e1 : (c.args.toList.map a.eval).toArray = c.args.map a.eval := by
        apply Array.ext'
        simp
      rw [e1]
      simp [execOp, hop, resolve, hcal, hv, Deferred.ofValue, Sem.run_bind, Sem.run_pure, Result.andThen_ok, invoke]
    have hk' := fnuC_some (i0 := 0) hk (by simpa using hfs) (Nat.zero_le _)
    exact callFnC_ok hS hC hn hR (f := fid) (by simp [h1]) h2 hrun hk'
  · rename_i fid caps cv
    have hm := hf.one rfl rfl
    simp only [EncM] at hm
    obtain ⟨vs, hv, hch⟩ := hm
    have hv := (List.cons.inj hv).1
    obtain ⟨h1, h2⟩ := evL_ok hR c.args.toList c.argTypes.toList hlen
    obtain ⟨h3, h4⟩ := chList_ok caps cv vs.toList hch
    have hlen' : (evL S.E s c.args.toList c.argTypes.toList ++ chList caps cv).length = (c.args.toList.map a.eval ++ vs.toList).length := by simp [h1, h3]
    have hrun : (execOp a.eval o).run S.P w = (callFunc fid (c.args.toList.map a.eval ++ vs.toList).toArray).run S.P w := by
      have e1 : (c.args.toList.map a.eval ++ vs.toList).toArray = c.args.map a.eval ++ vs := by
        apply Array.ext'
        simp
      rw [e1]
      simp [execOp, hop, resolve, hcal, hv, Deferred.ofValue, Sem.run_bind, Sem.run_pure, Result.andThen_ok, invoke]
    have hvals : ∀ i (h : i < (evL S.E s c.args.toList c.argTypes.toList ++ chList caps cv).length) (h' : i < (c.args.toList.map a.eval ++ vs.toList).length), EncV w U β s.heap (evL S.E s c.args.toList c.argTypes.toList ++ chList caps cv)[i] (c.args.toList.map a.eval ++ vs.toList)[i] := by
      intro i hi hi'
      by_cases hlt : i < (evL S.E s c.args.toList c.argTypes.toList).length
      · rw [List.getElem_append_left hlt, List.getElem_append_left (by rw [h1] at hlt; simpa using hlt)]
        exact h2 i hlt (by rw [h1] at hlt; simpa using hlt)
      · have e1 : (evL S.E s c.args.toList c.argTypes.toList).length = (c.args.toList.map a.eval).length := by rw [h1]; simp
        rw [List.getElem_append_right (by omega), List.getElem_append_right (by omega)]
        simp only [← e1]
        exact h4 _ _ _
    cases hfz : h.isFrz o.dst with
    | false =>
      rw [hfz, cond_false] at hk
      exact callO_ok hS hC hn hR (f := fid) hlen' hvals hrun hk
    | true =>
      rw [hfz] at hk
      simp only [cond_true] at hk
      split at hk
      · rename_i M hM
        exact mutC_ok hn hR (hS.turn fid M (lookM_mem hM)) hlen' hvals hrun hk
      split at hk
      · rename_i id hid
        split at hk
        · rename_i e xs he
          obtain ⟨v0, hm⟩ := frzId_mem hid
          obtain ⟨i, hi, hg⟩ := List.getElem_of_mem hm
          have hi' : i < (c.args.toList.map a.eval ++ vs.toList).length := by rw [← hlen']; exact hi
          have hlt : id < s.heap.length := by
            have q := hvals i hi hi'
            rw [hg] at q
            have q := q.one rfl rfl
            simp only [EncM] at q
            obtain ⟨_, _, q, _⟩ := q
            exact q
          obtain ⟨U', β', hF, hA, hE⟩ := freeze_ok hR hlt he
          have hk2 := callFnC_ok (Q := Q) hS hC hn hF (f := fid) (args := frzL id e xs (evL S.E s c.args.toList c.argTypes.toList ++ chList caps cv)) (vals := c.args.toList.map a.eval ++ vs.toList) (by rw [frzL_len]; exact hlen')
            (fun i hi hi' => by rw [frzL_get]; exact hE _ _ (hvals i _ hi')) hrun hk
          exact Oper.wp_mono (fun a' w' hh => Handed.after (s1 := frzS s id e) hA (fun _ _ h => List.mem_cons_of_mem _ h) hh) hk2
        · cases hk
      · cases hk
  · cases hk
end
end Go.Dp
/- Every operation. -/
set_option autoImplicit false
set_option linter.unusedVariables false
set_option linter.unusedSimpArgs false
namespace Go.Dp
open Go.RowKit

section
variable {S : Base} {n : Nat} {U : Nat → Prop} {β : Nat → Blk} {s : St} {a : Act} {w w' : World} {α : Type} {k : St → Option α} {r : α} {h : Hint} {Q : Exit → Act → World → Prop} {o : Oper} {call : CallT α}

theorem noObj {H : Heap} {X : TV} {v : Value} (hx : EncV w U β H X v) : X.t.isObj = false := by
  rcases hx with hx | ⟨_, hx⟩
  · obtain ⟨t, x⟩ := X
    cases t <;> simp_all [Ty.isUnk, Ty.isObj]
  · obtain ⟨t, x⟩ := X
    cases t <;> first | rfl | simp [EncM] at hx

theorem blt0 {m : Nat} (h : Nat.blt 0 m = true) : m ≠ 0 := by have := bltN h; omega

theorem pick_ok (hn : h.n = n) (hR : FRel S n U β s a w) {c x y : Operand} (hop : o.op = .pick c x y)
    (hk : asB (ev S.E s 0 c) (pickC h s o.dst (ev S.E s o.type x) (ev S.E s o.type y) k) = some r) : o.wp S.P a w (Handed S n U β s w k r) Q := by
  have hc := hR.ev 0 c
  have hx := hR.ev o.type x
  have hy := hR.ev o.type y
  generalize ev S.E s 0 c = C at hc hk
  obtain ⟨C, b⟩ := C
  cases C <;> first | (simp [asB] at hk; done) | skip
  change Bool at b
  have hc := hc.bool
  simp only [asB, pickC] at hk
  have hrun : (execOp a.eval o).run S.P w = .ok (.value (if b then a.eval x else a.eval y)) w := by
    simp [execOp, hop, hc, asBool]
  split at hk
  · rename_i x' y' e1 e2
    rw [e1] at hx
    rw [e2] at hy
    refine value_ok hn hR hrun (x := ⟨.bool, bif b then x' else y'⟩) ?_ hk
    cases b
    · simpa using hy
    · simpa using hx
  · cases b
    · exact value_ok hn hR hrun (by simpa using hy) (by simpa using hk)
    · exact value_ok hn hR hrun (by simpa using hx) (by simpa using hk)

theorem nilCheck_ok (hn : h.n = n) (hR : FRel S n U β s a w) {x : Operand} (hop : o.op = .nilCheck x)
    (hk : nilC h s o.dst (ev S.E s o.type x) k = some r) : o.wp S.P a w (Handed S n U β s w k r) Q := by
  have hx := hR.ev o.type x
  generalize ev S.E s o.type x = X at hx hk
  obtain ⟨t, v⟩ := X
  cases t <;> first | (simp [nilC] at hk; done) | skip
  · have hm := hx.one rfl rfl
    simp only [EncM] at hm
    obtain ⟨b, off, cs, e, _⟩ := hm
    have e := (List.cons.inj e).1
    exact value_ok hn hR (by simp [execOp, hop, e]) (e ▸ hx) hk
  · have hm := hx.one rfl rfl
    simp only [EncM] at hm
    obtain ⟨vs, e, _⟩ := hm
    have e := (List.cons.inj e).1
    exact value_ok hn hR (by simp [execOp, hop, e]) (e ▸ hx) hk
  · have hm := hx.one rfl rfl
    simp only [EncM] at hm
    obtain ⟨vs, e, _⟩ := hm
    have e := (List.cons.inj e).1
    exact value_ok hn hR (by simp [execOp, hop, e]) (e ▸ hx) hk
  · have hm := hx.one rfl rfl
    simp only [EncM] at hm
    obtain ⟨f, _, e⟩ := hm
    have e := (List.cons.inj e).1
    exact value_ok hn hR (by simp [execOp, hop, e]) (e ▸ hx) hk
  · have hm := hx.one rfl rfl
    simp only [EncM] at hm
    obtain ⟨b, off, e, _⟩ := hm
    have e := (List.cons.inj e).1
    exact value_ok hn hR (by simp [execOp, hop, e]) (e ▸ hx) hk

theorem chGet_ok {H : Heap} : ∀ (R : Ty) (x : R.den) (vs : List Value) (i : Nat), EncM w U β H true R x vs → i < chLen R → ∃ v, vs[i]? = some v ∧ EncV w U β H (chGet R x i) v := by
  intro R
  induction R with
  | scons a b iha ihb =>
    intro x vs i h hi
    simp only [EncM] at h
    obtain ⟨v, l2, rfl, h1, h2⟩ := h
    cases i with
    | zero => exact ⟨v, rfl, h1⟩
    | succ i => exact ihb x.2 l2 i h2 (by simpa [chLen] using hi)
  | _ => intro x vs i h hi; simp [chLen] at hi

theorem extract_ok (hn : h.n = n) (hR : FRel S n U β s a w) {x : Operand} {i : Nat} (hop : o.op = .extract x i)
    (hk : extractC h s o.dst (ev S.E s 0 x) i k = some r) : o.wp S.P a w (Handed S n U β s w k r) Q := by
  have hx := hR.ev 0 x
  generalize ev S.E s 0 x = X at hx hk
  obtain ⟨t, v⟩ := X
  cases t <;> first | (simp [extractC] at hk; done) | skip
  simp only [extractC] at hk
  obtain ⟨h1, hk⟩ := bif_some hk
  have hm := hx.one rfl rfl
  simp only [EncM] at hm
  obtain ⟨vs, e, hc⟩ := hm
  have e := (List.cons.inj e).1
  obtain ⟨u, hu, he⟩ := chGet_ok _ _ _ i hc (bltN h1)
  exact value_ok hn hR (v := u) (by
    have hu : vs[i]? = some u := by simpa using hu
    simp [execOp, hop, e, Instr.extract, hu]) he hk

theorem chMk_true {H : Heap} : ∀ (l : List TV) (vs : List Value), l.length = vs.length → (∀ i (h : i < l.length) (h' : i < vs.length), EncV w U β H l[i] vs[i]) → EncM w U β H true (chMk l).t (chMk l).v vs :=
  fun l vs h1 h2 => chMk_chain _ vs h1 h2

theorem makeFunc_ok (hn : h.n = n) (hR : FRel S n U β s a w) {f : FuncId} {first caps : Array Operand} (hop : o.op = .makeFunc (.func f) first caps)
    (hk : (bif first.isEmpty then putC h s o.dst ⟨.fn f (chMk (evL0 S.E s caps.toList)).t, (chMk (evL0 S.E s caps.toList)).v⟩ k else bif caps.isEmpty then putC h s o.dst ⟨.bm f (chMk (evL0 S.E s first.toList)).t, (chMk (evL0 S.E s first.toList)).v⟩ k else none) = some r) : o.wp S.P a w (Handed S n U β s w k r) Q := by
  cases h1 : first.isEmpty with
  | false =>
    rw [h1, cond_false] at hk
    obtain ⟨h4, hk⟩ := bif_some hk
    obtain ⟨h2, h3⟩ := evL0_ok hR first.toList
    have hf : caps = #[] := by simpa using h4
    refine value_ok hn hR (v := .func (.func f) (first.map a.eval) #[]) (by simp [execOp, hop, Instr.makeFunc, hf]) (.inr ⟨rfl, ?_⟩) hk
    simp only [EncM, Value.cells]
    exact ⟨_, rfl, chMk_true _ _ (by simp [h2]) (by simpa using h3)⟩
  | true =>
  rw [h1, cond_true] at hk
  obtain ⟨h2, h3⟩ := evL0_ok hR caps.toList
  have hf : first = #[] := by simpa using h1
  refine value_ok hn hR (v := .func (.func f) #[] (caps.map a.eval)) (by simp [execOp, hop, Instr.makeFunc, hf]) (.inr ⟨rfl, ?_⟩) hk
  simp only [EncM, Value.cells]
  exact ⟨_, rfl, chMk_true _ _ (by simp [h2]) (by simpa using h3)⟩

/-- An empty row of one's own. -/
theorem emptyRow (hR : FRel S n U β s a w) {e : Ty} (he : e.elem = true) :
    FRel S n U (setB β s.heap.length ⟨none, 0⟩) ⟨s.regs, s.heap ++ [⟨.row e, []⟩], s.app⟩ a w ∧ Adv w U β s.heap w U (setB β s.heap.length ⟨none, 0⟩) (s.heap ++ [⟨.row e, []⟩]) s.app := by
  have hb : Below w.heap.size w w := Below.refl _ _
  refine ⟨hR.push hb (fun b e => by cases e) ?_, Adv.push hR.wrel.uin hb _ _ (fun b e => by cases e)⟩
  unfold ObjAt
  rw [hget_append_at]
  exact ⟨he, .inl ⟨by simp [setB], by simp [setB], rfl⟩⟩

theorem slw_empty (hR : FRel S n U β s a w) {e : Ty} : EncV w U (setB β s.heap.length ⟨none, 0⟩) (s.heap ++ [⟨.row e, []⟩]) ⟨.slw s.heap.length, ()⟩ (.slice none 0 0) := by
  refine .inr ⟨rfl, ?_⟩
  simp only [EncM, Value.cells]
  exact ⟨e, [], by simp, hget_append_at, by simp [setB]⟩

theorem assign_ok (hn : h.n = n) (hR : FRel S n U β s a w) {x : Operand} (hop : o.op = .assign x)
    (hk : (bif h.isOwn o.dst && isNilS x then
      (match (tiOf S.E o.type).ty with
       | .list e => bif !e.elem then none else putC h ⟨s.regs, s.heap ++ [⟨.row e, []⟩], s.app⟩ o.dst ⟨.slw s.heap.length, ()⟩ k
       | _ => none)
    else putC h s o.dst (ev S.E s o.type x) k) = some r) : o.wp S.P a w (Handed S n U β s w k r) Q := by
  cases hb : h.isOwn o.dst && isNilS x with
  | false =>
    rw [hb] at hk
    exact value_ok hn hR (by simp [execOp, hop]) (hR.ev o.type x) hk
  | true =>
    rw [hb] at hk
    simp only [cond_true] at hk
    split at hk
    · rename_i e he
      obtain ⟨h1, hk⟩ := bif_none hk
      have hx : x = .const (.slice none 0 0) := by
        have := (and2 hb).2
        unfold isNilS at this
        split at this
        · rfl
        · cases this
      subst hx
      obtain ⟨h2, h3⟩ := emptyRow hR (e := e) (by simpa using h1)
      unfold Oper.wp
      have hrun : (execOp a.eval o).run S.P w = .ok (.value (.slice none 0 0)) w := by simp [execOp, hop, Act.eval]
      rw [hrun]
      exact putC_ok hn h2 (slw_empty hR) h3 (fun _ _ h => h) hk
    · cases hk

theorem allocAny_ok (hT : TIok S.P S.E) (hn : h.n = n) (hR : FRel S n U β s a w) {e : TypeId} (hop : o.op = .alloc e)
    (hk : (bif (h.isOwn o.dst) then
        (match (tiOf S.E e).ty with
         | .list a => bif !(a.elem && Nat.beq (tiOf S.E e).size 1 && !(tiOf S.E e).ty.isAgg) then none else
           putC h ⟨s.regs, (s.heap ++ [⟨.row a, []⟩]) ++ [⟨.slw s.heap.length, ()⟩], s.app⟩ o.dst ⟨.loc (s.heap.length + 1) false [], (0 : Nat)⟩ k
         | _ => none)
      else bif Nat.beq (tiOf S.E e).ty.csize (tiOf S.E e).size && (tiOf S.E e).ty.zOK then putC h ⟨s.regs, s.heap ++ [⟨(tiOf S.E e).ty, (tiOf S.E e).ty.dflt⟩], s.app⟩ o.dst ⟨.loc s.heap.length false [], (0 : Nat)⟩ k else none) = some r) :
    o.wp S.P a w (Handed S n U β s w k r) Q := by
  cases hb : h.isOwn o.dst with
  | false =>
    rw [hb] at hk
    simp only [cond_false] at hk
    obtain ⟨h1, hk⟩ := bif_some hk
    obtain ⟨h1, h2⟩ := and2 h1
    exact alloc_ok hT hn hR hop (beqN h1) h2 ((hT.known e).resolve_right fun e => by rw [e] at h2; cases h2) hk
  | true =>
    rw [hb] at hk
    simp only [cond_true] at hk
    split at hk
    · rename_i T hT'
      obtain ⟨h1, hk⟩ := bif_none hk
      have h1 : (T.elem && Nat.beq (tiOf S.E e).size 1 && !(tiOf S.E e).ty.isAgg) = true := by simpa using h1
      obtain ⟨h1, h2, _⟩ := and3 h1
      obtain ⟨info, d, hK⟩ := hT.known_size (t := e) (by rw [beqN h2]; simp)
      obtain ⟨h3, h4⟩ := emptyRow hR (e := T) h1
      have hz : (tiOf S.E e).ty.zOK = true := by rw [hT']; exact elem_pure h1
      have hlen : s.heap.length + 1 = (s.heap ++ [(⟨.row T, []⟩ : TV)]).length := by simp
      rw [hlen] at hk
      have hrun : (execOp a.eval o).run S.P w = .ok (.value (.pointer (some ⟨w.heap.size, 0, none⟩))) (w.alloc (.cells (Value.slice none 0 0).cells e)) := by
        have hzv : zval (tiOf S.E e).ty = .slice none 0 0 := by rw [hT']; rfl
        simp only [execOp, hop, Instr.alloc, zeroValue, Sem.run_bind, hK.runT, Result.andThen_ok, hK.zero hz, hzv, Sem.run_pure, run_newVar]
      have hs := new_ok (s := ⟨s.regs, s.heap ++ [⟨.row T, []⟩], s.app⟩) (Q := Q) (o := o) hn h3 (slw_empty hR) rfl rfl hrun hk
      exact Oper.wp_mono (fun a' w' hh => Handed.after (s1 := ⟨s.regs, s.heap ++ [⟨.row T, []⟩], s.app⟩) h4 (fun _ _ h => h) hh) hs
    · cases hk

theorem boxAny_ok (hn : h.n = n) (hR : FRel S n U β s a w) {e : TypeId} {x : Operand} (hop : o.op = .box e x)
    (hk : (bif (h.isImm o.dst) then
        (bif (ev S.E s e x).t.pure && !(ev S.E s e x).t.isUnk then putC h s o.dst ⟨.ref (ev S.E s e x).t, (ev S.E s e x).v⟩ k else none)
      else bif (ev S.E s e x).t.isUnk then none else putC h ⟨s.regs, s.heap ++ [ev S.E s e x], s.app⟩ o.dst ⟨.loc s.heap.length false [], (0 : Nat)⟩ k) = some r) :
    o.wp S.P a w (Handed S n U β s w k r) Q := by
  cases hb : h.isImm o.dst with
  | true =>
    rw [hb] at hk
    obtain ⟨h1, hk⟩ := bif_some hk
    obtain ⟨h1, h2⟩ := and2 h1
    exact boxImm_ok hn hR hop (by simpa using h2) h1 hk
  | false =>
    rw [hb] at hk
    obtain ⟨h1, hk⟩ := bif_none hk
    exact box_ok hn hR hop h1 (noObj (hR.ev e x)) hk

theorem range_any_ok (hT : TIok S.P S.E) (hn : h.n = n) (hR : FRel S n U β s a w) {t : TypeId} {x : Operand} (hop : o.op = .range t x)
    (hk : (match (tiOf S.E t).td, ev S.E s t x with
    | .str, ⟨.str, b⟩ => putC h ⟨s.regs, s.heap ++ [⟨.iter, (b, 0)⟩], s.app⟩ o.dst ⟨.loc s.heap.length false [], (0 : Nat)⟩ k
    | _, _ => none) = some r) : o.wp S.P a w (Handed S n U β s w k r) Q := by
  split at hk
  · rename_i b h1 h2
    exact range_ok hT hn hR hop h1 h2 hk
  · cases hk

/-- An operation that only computes, by what it runs. -/
theorem val_ok {M : Sem Value} (hn : h.n = n) (hR : FRel S n U β s a w) (hrun : (execOp a.eval o).run S.P w = (M.run S.P w).andThen fun v w => .ok (.value v) w)
    (h : ∃ z v, putC h s o.dst z k = some r ∧ EncV w U β s.heap z v ∧ M.run S.P w = .ok v w) : o.wp S.P a w (Handed S n U β s w k r) Q := by
  obtain ⟨z, v, h1, h2, h3⟩ := h
  exact value_ok hn hR (by rw [hrun, h3]; rfl) h2 h1

theorem optEv (hR : FRel S n U β s a w) (x : Option Operand) : OptV w U β s.heap (x.map (ev S.E s 0)) (x.map a.eval) := by
  cases x with
  | none => exact ⟨fun x h => (by cases h), fun _ => rfl⟩
  | some x => exact ⟨fun y h => (by cases h; exact ⟨_, rfl, hR.ev 0 x⟩), fun h => (by cases h)⟩

theorem run_v {P : Program} {w : World} (M : Sem Value) : (do pure (Next.value (← M)) : Sem Next).run P w = (M.run P w).andThen fun v w => .ok (.value v) w := by
  simp only [Sem.run_bind, Sem.run_pure]

theorem buildOwn_ok (hT : TIok S.P S.E) (hn : h.n = n) (hR : FRel S n U β s a w) {t : TypeId} {ps : Array (Nat × Operand)} (hop : o.op = .build t ps) (hk : buildOwnC S.E h s o.dst t ps.toList k = some r) : o.wp S.P a w (Handed S n U β s w k r) Q := by
  unfold buildOwnC at hk
  split at hk
  · rename_i e he
    obtain ⟨h1, hk⟩ := bif_none hk
    obtain ⟨f, p, hp⟩ : ∃ f p, ownP ps.toList 0 (tiOf S.E t).ty = f :: p := by
      cases hq : ownP ps.toList 0 (tiOf S.E t).ty with
      | nil => rw [hq] at h1; simp at h1
      | cons f p => exact ⟨f, p, rfl⟩
    rw [hp] at h1 he hk
    have h1' : e.elem = true ∧ pathOK (f :: p) (tiOf S.E t).ty = true := by simpa using h1
    have hf : f < chLen (tiOf S.E t).ty := by
      have := h1'.2
      simp only [pathOK, Bool.and_eq_true] at this
      exact bltN this.1
    obtain ⟨h2, h3⟩ := emptyRow hR h1'.1
    have hs := (slw_empty hR (e := e)).resolve_left (by simp [Ty.isUnk])
    obtain ⟨z, v, g1, g2, g3⟩ := buildC_ok hT h2 hk (fun q1 q2 => ⟨chSet_agg _ _ _ _ hf, own_init hs.2 _ _ q2 h1'.2 he⟩)
    have eq1 : (ps.toList.map fun (i, x) => (i, a.eval x)).toArray = ps.map fun (i, x) => (i, a.eval x) := by apply Array.ext'; simp
    rw [eq1] at g3
    unfold Oper.wp
    have hrun : (execOp a.eval o).run S.P w = .ok (.value v) w := by simp only [execOp, hop, run_v, Sem.run_bind, g3, Result.andThen_ok, Sem.run_pure]
    rw [hrun]
    exact putC_ok (s1 := ⟨s.regs, s.heap ++ [⟨.row e, []⟩], s.app⟩) hn h2 g2 h3 (fun _ _ h => h) g1
  · cases hk

theorem call_len_ok (hT : TIok S.P S.E) (hn : h.n = n) (hR : FRel S n U β s a w) {x : Operand} {t : TypeId} (hop : o.op = .call { callee := .builtin .len, args := #[x], argTypes := #[t] })
    (hk : lenC (tiOf S.E t).td s (ev S.E s t x) (fun v => putC h s o.dst v k) = some r) : o.wp S.P a w (Handed S n U β s w k r) Q := by
  obtain ⟨z, v, h1, h2, h3⟩ := lenC_ok (P := S.P) hT (hR.ev t x) hk
  refine value_ok hn hR (v := v) ?_ h2 h1
  simp [execOp, hop, resolve, invoke, builtin, h3]

theorem call_minmax_ok (hn : h.n = n) (hR : FRel S n U β s a w) (mx : Bool) {c : Call} (hop : o.op = .call c) (hc : c.callee = .builtin (bif mx then .max else .min)) {x : TV} {l : List TV}
    (hl : c.args.toList.length = c.argTypes.toList.length) (he : evL S.E s c.args.toList c.argTypes.toList = x :: l)
    (hk : minMaxC mx x l (fun v => putC h s o.dst v k) = some r) : o.wp S.P a w (Handed S n U β s w k r) Q := by
  obtain ⟨h1, h2⟩ := evL_ok hR c.args.toList c.argTypes.toList hl
  rw [he] at h1
  cases hargs : c.args.toList with
  | nil => rw [hargs] at h1; simp at h1
  | cons y ys =>
    rw [hargs] at h1
    have h3 : ∀ i (h : i < (x :: l).length) (h' : i < ((y :: ys).map a.eval).length), EncV w U β s.heap (x :: l)[i] ((y :: ys).map a.eval)[i] := by rw [← he, ← hargs]; exact h2
    obtain ⟨z, v, g1, g2, g3⟩ := minMaxC_ok (P := S.P) (s := s) mx l (ys.map a.eval) x (a.eval y) (by simpa using h1)
      (fun i hi hi' => by
        have := h3 (i + 1) (by simpa using hi) (by simpa using hi')
        simpa using this)
      (by have := h3 0 (by simp) (by simp); simpa using this) hk
    refine value_ok hn hR (v := v) ?_ g2 g1
    have hm : (c.args.map a.eval).toList = a.eval y :: ys.map a.eval := by simp [hargs]
    cases mx
    · simp only [execOp, hop, resolve, hc, cond_false, invoke, builtin, Builtin.min_, hm, Sem.run_bind, Sem.run_pure, Result.andThen_ok]
      simp only [cond_false] at g3
      rw [g3]; rfl
    · simp only [execOp, hop, resolve, hc, cond_true, invoke, builtin, Builtin.max_, hm, Sem.run_bind, Sem.run_pure, Result.andThen_ok]
      simp only [cond_true] at g3
      rw [g3]; rfl

theorem op_sound (hT : TIok S.P S.E) (hS : SpecsOK S.P S.E) (hC : CallSound S call) (hn : h.n = n) (hR : FRel S n U β s a w) (hk : opC S.E h call o s k = some r) : o.wp S.P a w (Handed S n U β s w k r) Q := by
  have hH := hR.wrel.heap
  unfold opC at hk
  cases hop : o.op with
  | move x => rw [hop] at hk; exact value_ok hn hR (by simp [execOp, hop]) (hR.ev o.type x) hk
  | assign x => rw [hop] at hk; exact assign_ok hn hR hop hk
  | pick c x y => rw [hop] at hk; exact pick_ok hn hR hop hk
  | alloc e => rw [hop] at hk; exact allocAny_ok hT hn hR hop hk
  | box e x => rw [hop] at hk; exact boxAny_ok hn hR hop hk
  | build t ps =>
    rw [hop] at hk
    cases ho : h.isOwn o.dst with
    | true => rw [ho] at hk; exact buildOwn_ok hT hn hR hop hk
    | false =>
    rw [ho] at hk
    simp only [cond_false] at hk
    refine val_ok hn hR (by simp only [execOp, hop, run_v]) (M := Instr.build t (ps.map fun (i, x) => (i, a.eval x))) ?_
    obtain ⟨z, v, h1, h2, h3⟩ := buildC_ok hT hR hk (fun h1 h2 => ⟨h1, zcells_ok _ h2⟩)
    have e : (ps.toList.map fun (i, x) => (i, a.eval x)).toArray = ps.map fun (i, x) => (i, a.eval x) := by apply Array.ext'; simp
    rw [e] at h3
    exact ⟨z, v, h1, h2, h3⟩
  | buildSlice t len ps => rw [hop] at hk; exact buildSliceC_ok hT hn hR hop hk
  | makeSlice t x y => rw [hop] at hk; exact makeSliceC_ok hT hn hR hop hk
  | load t x => rw [hop] at hk; exact val_ok hn hR (by simp only [execOp, hop, run_v]) (loadC_ok hT hH (hR.ev 0 x) hk)
  | store t x y =>
    rw [hop] at hk
    simp only at hk
    cases hf : memN h.frz (tmpOf x) with
    | true => rw [hf] at hk; exact storeMoveC_ok hT hn hR hop hk
    | false => rw [hf] at hk; exact storeC_ok hT hn hR hop hk
  | nilCheck x => rw [hop] at hk; exact nilCheck_ok hn hR hop hk
  | binOp op xt x y yt =>
    rw [hop] at hk
    obtain ⟨h1, hk⟩ := bif_some hk
    obtain ⟨info, d, hK⟩ := hT.known_size (blt0 h1)
    cases g2 : (ev S.E s xt x).t.isAgg with
    | true =>
      rw [g2, cond_true] at hk
      obtain ⟨z, v, h2, h3, h4⟩ := eqC_ok hT g2 (hR.ev xt x) (hR.ev yt y) hk
      refine value_ok hn hR (v := v) ?_ h3 h2
      simp only [execOp, hop, run_v, h4 x y]
      rfl
    | false =>
    rw [g2, cond_false] at hk
    obtain ⟨z, v, h2, h3, h4⟩ := binAny_ok (P := S.P) hT (hR.ev xt x) (hR.ev yt y) hk
    refine value_ok hn hR (v := v) ?_ h3 h2
    simp only [execOp, hop, run_v, h4 xt x y d hK.und hK.td]
    rfl
  | unOp op t x => rw [hop] at hk; exact val_ok hn hR (by simp only [execOp, hop, run_v]) (unC_ok (hR.ev t x) hk)
  | convert src dst x => rw [hop] at hk; exact convC_ok hT hn hR hop hk
  | makeFunc f first caps =>
    rw [hop] at hk
    cases f with
    | func f => exact makeFunc_ok hn hR hop hk
    | _ => cases hk
  | slice t x lo hi mx =>
    rw [hop] at hk
    cases mx with
    | some m => cases hk
    | none =>
      simp only at hk
      split at hk
      · rename_i htd
        split at hk
        · rename_i b hb
          have hx := hR.ev t x
          rw [hb] at hx
          obtain ⟨l, u, v, h1, h2, h3⟩ := sliceStr_ok (P := S.P) hT htd hx (optEv hR lo) (optEv hR hi) hk
          exact val_ok hn hR (by simp only [execOp, hop, run_v, Option.map_none]) ⟨_, v, h1, h2, h3⟩
        · cases hk
      · rename_i e htd
        obtain ⟨h1, hk⟩ := bif_some hk
        exact val_ok hn hR (by simp only [execOp, hop, run_v, Option.map_none]) (sliceC_ok hT hH htd (hT.known_size (blt0 h1)) (hR.ev t x) (optEv hR lo) (optEv hR hi) hk)
      · cases hk
  | fieldAddr t x f => rw [hop] at hk; exact val_ok hn hR (by simp only [execOp, hop, run_v]) (fieldAddrC_ok hT (hR.ev 0 x) hk)
  | field t x f => rw [hop] at hk; exact val_ok hn hR (by simp only [execOp, hop, run_v]) (fieldC_ok hT (hR.ev t x) hk)
  | indexAddr t x i =>
    rw [hop] at hk
    simp only at hk
    split at hk
    · rename_i e htd
      obtain ⟨h1, hk⟩ := bif_some hk
      exact val_ok hn hR (by simp only [execOp, hop, run_v]) (indexAddrC_ok hT hH htd (hR.ev t x) (hR.ev 0 i) hk (hT.known_size (blt0 h1)))
    · rename_i m e htd
      obtain ⟨h1, hk⟩ := bif_some hk
      exact val_ok hn hR (by simp only [execOp, hop, run_v]) (elemAddrC_ok hT htd (hR.ev t x) (hR.ev 0 i) hk (hT.known_size (blt0 h1)))
    · cases hk
  | index t x i =>
    rw [hop] at hk
    refine val_ok hn hR (by simp only [execOp, hop, run_v]) (indexC_ok hT (e := match (tiOf S.E t).td with | .arr _ e => e | _ => 0) (fun m e' h => by rw [h]) (hR.ev t x) (hR.ev 0 i) hk)
  | extract x i => rw [hop] at hk; exact extract_ok hn hR hop hk
  | range t x => rw [hop] at hk; exact range_any_ok hT hn hR hop hk
  | makeMap t m =>
    rw [hop] at hk
    cases m with
    | none => exact makeMapC_ok hn hR hop hk
    | some m => cases hk
  | lookup t x i ok => rw [hop] at hk; exact lookupC_ok hT hn hR hop hk
  | mapUpdate t x i y => rw [hop] at hk; exact mapUpdateC_ok hT hn hR hop hk
  | next it b =>
    rw [hop] at hk
    cases b with
    | true => exact next_ok hn hR hop hk
    | false => cases hk
  | call c =>
    rw [hop] at hk
    obtain ⟨callee, args, argTypes⟩ := c
    simp only at hk
    cases callee with
    | invoke x m => cases hk
    | value f =>
      obtain ⟨h1, hk⟩ := bif_some hk
      exact callC_ok hS hC hn hR hop rfl (beqN h1) hk
    | builtin b =>
      cases b with
      | len =>
        simp only at hk
        split at hk
        · rename_i x t e1 e2
          have e1 : args = #[x] := by apply Array.ext'; simpa using e1
          have e2 : argTypes = #[t] := by apply Array.ext'; simpa using e2
          subst e1; subst e2
          exact call_len_ok hT hn hR hop hk
        · cases hk
      | append =>
        simp only at hk
        split at hk
        · rename_i x y t u e1 e2
          have e1 : args = #[x, y] := by apply Array.ext'; simpa using e1
          have e2 : argTypes = #[t, u] := by apply Array.ext'; simpa using e2
          subst e1; subst e2
          cases hf : h.isFrz o.dst with
          | true => rw [hf] at hk; exact appendXC_ok hT hn hR hop hk
          | false => rw [hf] at hk; exact appendC_ok hT hn hR hop hk
        · cases hk
      | delete =>
        simp only at hk
        split at hk
        · rename_i x y t u e1 e2
          have e1 : args = #[x, y] := by apply Array.ext'; simpa using e1
          have e2 : argTypes = #[t, u] := by apply Array.ext'; simpa using e2
          subst e1; subst e2
          exact deleteC_ok hT hn hR hop hk
        · cases hk
      | min =>
        obtain ⟨h1, hk⟩ := bif_some hk
        split at hk
        · rename_i x l e
          exact call_minmax_ok hn hR false hop rfl (beqN h1) e hk
        · cases hk
      | max =>
        obtain ⟨h1, hk⟩ := bif_some hk
        split at hk
        · rename_i x l e
          exact call_minmax_ok hn hR true hop rfl (beqN h1) e hk
        · cases hk
      | _ => cases hk
  | _ => rw [hop] at hk; cases hk
end
end Go.Dp
/- Regions in the order of the text. -/
set_option autoImplicit false
set_option linter.unusedVariables false
set_option linter.unusedSimpArgs false
namespace Go.Dp
open Go.RowKit

section
variable {S : Base} {n : Nat} {U : Nat → Prop} {β : Nat → Blk} {s : St} {a : Act} {w w' : World} {α : Type} {r : α} {h : Hint} {Q : Exit → Act → World → Prop} {o : Oper} {call : CallT α}

theorem asB_some {x : TV} {k : Bool → Option α} (h : asB x k = some r) : ∃ b, x = ⟨.bool, b⟩ ∧ k b = some r := by
  obtain ⟨t, v⟩ := x
  cases t <;> first | (simp [asB] at h; done) | exact ⟨v, rfl, h⟩

theorem get_set (s : St) (g : Nat) (x : TV) (i : Nat) : (s.set g x).get i = bif Nat.beq g i then x else s.get i := rfl

theorem guardC_some {x : TV} {kb : Bool → Option α} {ku : Option α} (h : guardC x kb ku = some r) : (∃ b, x = ⟨.bool, b⟩ ∧ kb b = some r) ∨ (x = .undef ∧ ku = some r) := by
  unfold guardC at h
  split at h
  · exact .inl ⟨_, rfl, h⟩
  · exact .inr ⟨rfl, h⟩
  · cases h

theorem EncV.und {w : World} {U : Nat → Prop} {β : Nat → Blk} {H : Heap} : EncV w U β H .undef undef := .inr ⟨rfl, by simp [EncM, Value.cells, undef]⟩

theorem EncV.of_und {w : World} {U : Nat → Prop} {β : Nat → Blk} {H : Heap} {v : Value} (h : EncV w U β H .undef v) : v = .tuple #[] := by
  have hm := h.one rfl rfl
  simp only [EncM] at hm
  obtain ⟨vs, e, hc⟩ := hm
  rw [(List.cons.inj e).1]
  congr 1
  exact Array.ext' hc

theorem FRel.refine (hR : FRel S n U β s a w) {g : Nat} {x : TV} (hg : s.get g = x) : FRel S n U β (s.set g x) a w :=
  ⟨hR.defers, hR.size, fun i => by
    rw [get_set]
    cases hb : Nat.beq g i with
    | true => obtain rfl := beqN hb; subst hg; exact hR.regs g
    | false => exact hR.regs i, hR.wrel⟩

theorem getD_bool {xs : Array Value} {g : Nat} {b : Bool} (h : xs.getD g undef = .bool b) : xs[g]? = some (.bool b) := by
  rw [Array.getD_eq_getD_getElem?] at h
  cases hx : xs[g]? with
  | none => rw [hx] at h; cases h
  | some v => rw [hx] at h; simpa using h

theorem yields_ok (hR : FRel S n U β s a w) {all : List Oper} {j g : Nat} {b : Bool} (hd : dstOf all j = some g) (hb : s.get g = ⟨.bool, b⟩) : yielded all.toArray a.tmps j = some b := by
  have h1 := hR.regs g
  rw [hb] at h1
  have h2 := getD_bool h1.bool
  unfold yielded
  have h3 : ((all.toArray[j]?).bind (·.dst)) = some g := by simpa [dstOf] using hd
  rw [h3]
  simp [h2]

theorem yields_none (hR : FRel S n U β s a w) {all : List Oper} {j g : Nat} (hd : dstOf all j = some g) (hb : s.get g = .undef) : yielded all.toArray a.tmps j = none := by
  have h1 := hR.regs g
  rw [hb] at h1
  have h2 := h1.of_und
  unfold yielded
  have h3 : ((all.toArray[j]?).bind (·.dst)) = some g := by simpa [dstOf] using hd
  rw [h3]
  rw [Array.getD_eq_getD_getElem?] at h2
  cases hx : a.tmps[g]? with
  | none => simp [hx]
  | some v => rw [hx] at h2; simp only [Option.getD_some] at h2; subst h2; simp [hx]

theorem wanted_undef {o : Oper} {y : Nat → Option Bool} {j : Nat} {want : Bool} (h : o.guard = some (j, want)) (hy : y j = none) : Region.wanted o y = false := by
  simp only [Region.wanted, h, hy]
  rfl

theorem wanted_none {o : Oper} {y : Nat → Option Bool} (h : o.guard = none) : Region.wanted o y = true := by simp [Region.wanted, h]
theorem wanted_some {o : Oper} {y : Nat → Option Bool} {j : Nat} {want b : Bool} (h : o.guard = some (j, want)) (hy : y j = some b) : Region.wanted o y = bif want then b else !b := by
  simp only [Region.wanted, h, hy]
  cases b <;> cases want <;> rfl

/-- Forgetting what was handed on of a refined state. -/
theorem Handed.refined {g : Nat} {x : TV} {k : St → Option α} (h : Handed S n U β (s.set g x) w k r a w') : Handed S n U β s w k r a w' := ⟨h.out⟩

end
end Go.Dp
/- What an operation comes to does not hang on what follows. -/
set_option autoImplicit false
set_option linter.unusedVariables false
set_option linter.unusedSimpArgs false
namespace Go.Dp
open Go.RowKit

section
variable {E : Env} {s : St} {α γ : Type} {r : α} {h : Hint} {k : TV → Option α}

theorem unC_det {op : UnOp} {x : TV} (H : unC op x k = some r) : ∃ z, k z = some r ∧ ∀ k' : TV → Option γ, unC op x k' = k' z := by
  unfold unC at H ⊢
  split at H <;> (first | (cases H; done) | (refine ⟨_, H, fun k' => ?_⟩ <;> first | rfl | (simp only [*]; done) | (simp [*]; done)) | (obtain ⟨g1, H⟩ := bif_some H; refine ⟨_, H, fun k' => ?_⟩ <;> first | (simp only [*, cond_true, cond_false]; done) | (simp [*]; done)) | (obtain ⟨g1, H⟩ := bif_none H; refine ⟨_, H, fun k' => ?_⟩ <;> first | (simp only [*, cond_true, cond_false]; done) | (simp [*]; done)) | (obtain ⟨g1, H⟩ := bif_some H; obtain ⟨g2, H⟩ := bif_some H; refine ⟨_, H, fun k' => ?_⟩ <;> first | (simp only [*, cond_true, cond_false]; done) | (simp [*]; done)))

theorem indexC_det {td : TD} {sz : Nat} {agg : Bool} {x i : TV} (H : indexC td sz agg x i k = some r) : ∃ z, k z = some r ∧ ∀ k' : TV → Option γ, indexC td sz agg x i k' = k' z := by
  unfold indexC at H ⊢
  split at H <;> (try split at H) <;> (first | (cases H; done) | (refine ⟨_, H, fun k' => ?_⟩ <;> first | rfl | (simp only [*]; done) | (simp [*]; done)) | (obtain ⟨g1, H⟩ := bif_some H; refine ⟨_, H, fun k' => ?_⟩ <;> first | (simp only [*, cond_true, cond_false]; done) | (simp [*]; done)) | (obtain ⟨g1, H⟩ := bif_none H; refine ⟨_, H, fun k' => ?_⟩ <;> first | (simp only [*, cond_true, cond_false]; done) | (simp [*]; done)) | (obtain ⟨g1, H⟩ := bif_some H; obtain ⟨g2, H⟩ := bif_some H; refine ⟨_, H, fun k' => ?_⟩ <;> first | (simp only [*, cond_true, cond_false]; done) | (simp [*]; done)))

theorem indexAddrC_det {sz : Nat} {x i : TV} (H : indexAddrC s sz x i k = some r) : ∃ z, k z = some r ∧ ∀ k' : TV → Option γ, indexAddrC s sz x i k' = k' z := by
  unfold indexAddrC at H ⊢
  split at H
  · (first | (cases H; done) | (refine ⟨_, H, fun k' => ?_⟩ <;> first | rfl | (simp only [*]; done) | (simp [*]; done)) | (obtain ⟨g1, H⟩ := bif_some H; refine ⟨_, H, fun k' => ?_⟩ <;> first | (simp only [*, cond_true, cond_false]; done) | (simp [*]; done)) | (obtain ⟨g1, H⟩ := bif_none H; refine ⟨_, H, fun k' => ?_⟩ <;> first | (simp only [*, cond_true, cond_false]; done) | (simp [*]; done)) | (obtain ⟨g1, H⟩ := bif_some H; obtain ⟨g2, H⟩ := bif_some H; refine ⟨_, H, fun k' => ?_⟩ <;> first | (simp only [*, cond_true, cond_false]; done) | (simp [*]; done)))
  · obtain ⟨g1, H⟩ := bif_some H
    obtain ⟨g2, H⟩ := bif_some H
    obtain ⟨g3, H⟩ := bif_none H
    exact ⟨_, H, fun k' => by simp only [g1, g2, g3, cond_true, cond_false]⟩
  · split at H <;> (first | (cases H; done) | (refine ⟨_, H, fun k' => ?_⟩ <;> first | rfl | (simp only [*]; done) | (simp [*]; done)) | (obtain ⟨g1, H⟩ := bif_some H; refine ⟨_, H, fun k' => ?_⟩ <;> first | (simp only [*, cond_true, cond_false]; done) | (simp [*]; done)) | (obtain ⟨g1, H⟩ := bif_none H; refine ⟨_, H, fun k' => ?_⟩ <;> first | (simp only [*, cond_true, cond_false]; done) | (simp [*]; done)) | (obtain ⟨g1, H⟩ := bif_some H; obtain ⟨g2, H⟩ := bif_some H; refine ⟨_, H, fun k' => ?_⟩ <;> first | (simp only [*, cond_true, cond_false]; done) | (simp [*]; done)))
  · split at H <;> (first | (cases H; done) | (refine ⟨_, H, fun k' => ?_⟩ <;> first | rfl | (simp only [*]; done) | (simp [*]; done)) | (obtain ⟨g1, H⟩ := bif_some H; refine ⟨_, H, fun k' => ?_⟩ <;> first | (simp only [*, cond_true, cond_false]; done) | (simp [*]; done)) | (obtain ⟨g1, H⟩ := bif_none H; refine ⟨_, H, fun k' => ?_⟩ <;> first | (simp only [*, cond_true, cond_false]; done) | (simp [*]; done)) | (obtain ⟨g1, H⟩ := bif_some H; obtain ⟨g2, H⟩ := bif_some H; refine ⟨_, H, fun k' => ?_⟩ <;> first | (simp only [*, cond_true, cond_false]; done) | (simp [*]; done)))
  · (first | (cases H; done) | (refine ⟨_, H, fun k' => ?_⟩ <;> first | rfl | (simp only [*]; done) | (simp [*]; done)) | (obtain ⟨g1, H⟩ := bif_some H; refine ⟨_, H, fun k' => ?_⟩ <;> first | (simp only [*, cond_true, cond_false]; done) | (simp [*]; done)) | (obtain ⟨g1, H⟩ := bif_none H; refine ⟨_, H, fun k' => ?_⟩ <;> first | (simp only [*, cond_true, cond_false]; done) | (simp [*]; done)) | (obtain ⟨g1, H⟩ := bif_some H; obtain ⟨g2, H⟩ := bif_some H; refine ⟨_, H, fun k' => ?_⟩ <;> first | (simp only [*, cond_true, cond_false]; done) | (simp [*]; done)))

theorem indexArrC_det {n sz : Nat} {x i : TV} (H : indexArrC n sz x i k = some r) : ∃ z, k z = some r ∧ ∀ k' : TV → Option γ, indexArrC n sz x i k' = k' z := by
  unfold indexArrC at H ⊢
  split at H <;> (first | (cases H; done) | (refine ⟨_, H, fun k' => ?_⟩ <;> first | rfl | (simp only [*]; done) | (simp [*]; done)) | (obtain ⟨g1, H⟩ := bif_some H; refine ⟨_, H, fun k' => ?_⟩ <;> first | (simp only [*, cond_true, cond_false]; done) | (simp [*]; done)) | (obtain ⟨g1, H⟩ := bif_none H; refine ⟨_, H, fun k' => ?_⟩ <;> first | (simp only [*, cond_true, cond_false]; done) | (simp [*]; done)) | (obtain ⟨g1, H⟩ := bif_some H; obtain ⟨g2, H⟩ := bif_some H; refine ⟨_, H, fun k' => ?_⟩ <;> first | (simp only [*, cond_true, cond_false]; done) | (simp [*]; done)))

theorem boundsC_det {n : Nat} {lo hi : Option TV} {k : Nat → Nat → Option α} (H : boundsC n lo hi k = some r) : ∃ l u, k l u = some r ∧ ∀ k' : Nat → Nat → Option γ, boundsC n lo hi k' = k' l u := by
  unfold boundsC at H ⊢
  split at H
  · exact ⟨_, _, H, fun k' => rfl⟩
  · obtain ⟨g1, H⟩ := bif_some H
    exact ⟨_, _, H, fun k' => by simp only [g1, cond_true]⟩
  · obtain ⟨g1, H⟩ := bif_some H
    exact ⟨_, _, H, fun k' => by simp only [g1, cond_true]⟩
  · obtain ⟨g1, H⟩ := bif_some H
    obtain ⟨g2, H⟩ := bif_some H
    exact ⟨_, _, H, fun k' => by simp only [g1, g2, cond_true]⟩
  · cases H

theorem sliceC_det {sz : Nat} {x : TV} {lo hi : Option TV} (H : sliceC s sz x lo hi k = some r) : ∃ z, k z = some r ∧ ∀ k' : TV → Option γ, sliceC s sz x lo hi k' = k' z := by
  unfold sliceC at H ⊢
  split at H
  · obtain ⟨g1, H⟩ := bif_some H
    obtain ⟨l, u, H, g⟩ := boundsC_det (γ := γ) H
    exact ⟨_, H, fun k' => by simp only [g1, cond_true, g]⟩
  · split at H
    · obtain ⟨g1, H⟩ := bif_some H
      obtain ⟨l, u, H, g⟩ := boundsC_det (γ := γ) H
      exact ⟨_, H, fun k' => by simp only [*, cond_true, g]⟩
    · cases H
  · split at H
    · obtain ⟨g1, H⟩ := bif_some H
      obtain ⟨l, u, H, g⟩ := boundsC_det (γ := γ) H
      exact ⟨_, H, fun k' => by simp only [*, cond_true, g]⟩
    · cases H
  · cases H

theorem loadC_det {t : Nat} {x : TV} (H : loadC E s t x k = some r) : ∃ z, k z = some r ∧ ∀ k' : TV → Option γ, loadC E s t x k' = k' z := by
  unfold loadC at H ⊢
  split at H <;> (try split at H) <;> (first | (cases H; done) | (refine ⟨_, H, fun k' => ?_⟩ <;> first | rfl | (simp only [*]; done) | (simp [*]; done)) | (obtain ⟨g1, H⟩ := bif_some H; refine ⟨_, H, fun k' => ?_⟩ <;> first | (simp only [*, cond_true, cond_false]; done) | (simp [*]; done)) | (obtain ⟨g1, H⟩ := bif_none H; refine ⟨_, H, fun k' => ?_⟩ <;> first | (simp only [*, cond_true, cond_false]; done) | (simp [*]; done)) | (obtain ⟨g1, H⟩ := bif_some H; obtain ⟨g2, H⟩ := bif_some H; refine ⟨_, H, fun k' => ?_⟩ <;> first | (simp only [*, cond_true, cond_false]; done) | (simp [*]; done)))

theorem fieldAddrC_det {t f : Nat} {x : TV} (H : fieldAddrC E s t x f k = some r) : ∃ z, k z = some r ∧ ∀ k' : TV → Option γ, fieldAddrC E s t x f k' = k' z := by
  unfold fieldAddrC at H ⊢
  split at H
  · split at H
    · split at H <;> (first | (cases H; done) | (refine ⟨_, H, fun k' => ?_⟩ <;> first | rfl | (simp only [*]; done) | (simp [*]; done)) | (obtain ⟨g1, H⟩ := bif_some H; refine ⟨_, H, fun k' => ?_⟩ <;> first | (simp only [*, cond_true, cond_false]; done) | (simp [*]; done)) | (obtain ⟨g1, H⟩ := bif_none H; refine ⟨_, H, fun k' => ?_⟩ <;> first | (simp only [*, cond_true, cond_false]; done) | (simp [*]; done)) | (obtain ⟨g1, H⟩ := bif_some H; obtain ⟨g2, H⟩ := bif_some H; refine ⟨_, H, fun k' => ?_⟩ <;> first | (simp only [*, cond_true, cond_false]; done) | (simp [*]; done)))
    · cases H
  · cases H

theorem fieldC_det {t f : Nat} {x : TV} (H : fieldC E t x f k = some r) : ∃ z, k z = some r ∧ ∀ k' : TV → Option γ, fieldC E t x f k' = k' z := by
  unfold fieldC at H ⊢
  split at H
  · split at H <;> (first | (cases H; done) | (refine ⟨_, H, fun k' => ?_⟩ <;> first | rfl | (simp only [*]; done) | (simp [*]; done)) | (obtain ⟨g1, H⟩ := bif_some H; refine ⟨_, H, fun k' => ?_⟩ <;> first | (simp only [*, cond_true, cond_false]; done) | (simp [*]; done)) | (obtain ⟨g1, H⟩ := bif_none H; refine ⟨_, H, fun k' => ?_⟩ <;> first | (simp only [*, cond_true, cond_false]; done) | (simp [*]; done)) | (obtain ⟨g1, H⟩ := bif_some H; obtain ⟨g2, H⟩ := bif_some H; refine ⟨_, H, fun k' => ?_⟩ <;> first | (simp only [*, cond_true, cond_false]; done) | (simp [*]; done)))
  · cases H

theorem lenC_det {td : TD} {x : TV} (H : lenC td s x k = some r) : ∃ z, k z = some r ∧ ∀ k' : TV → Option γ, lenC td s x k' = k' z := by
  unfold lenC at H ⊢
  split at H
  · split at H <;> (first | (cases H; done) | (refine ⟨_, H, fun k' => ?_⟩ <;> first | rfl | (simp only [*]; done) | (simp [*]; done)) | (obtain ⟨g1, H⟩ := bif_some H; refine ⟨_, H, fun k' => ?_⟩ <;> first | (simp only [*, cond_true, cond_false]; done) | (simp [*]; done)) | (obtain ⟨g1, H⟩ := bif_none H; refine ⟨_, H, fun k' => ?_⟩ <;> first | (simp only [*, cond_true, cond_false]; done) | (simp [*]; done)) | (obtain ⟨g1, H⟩ := bif_some H; obtain ⟨g2, H⟩ := bif_some H; refine ⟨_, H, fun k' => ?_⟩ <;> first | (simp only [*, cond_true, cond_false]; done) | (simp [*]; done)))
  · unfold lenC.lenSl at H ⊢
    split at H <;> (try split at H) <;> (first | (cases H; done) | (refine ⟨_, H, fun k' => ?_⟩ <;> first | rfl | (simp only [*]; done) | (simp [*]; done)) | (obtain ⟨g1, H⟩ := bif_some H; refine ⟨_, H, fun k' => ?_⟩ <;> first | (simp only [*, cond_true, cond_false]; done) | (simp [*]; done)) | (obtain ⟨g1, H⟩ := bif_none H; refine ⟨_, H, fun k' => ?_⟩ <;> first | (simp only [*, cond_true, cond_false]; done) | (simp [*]; done)) | (obtain ⟨g1, H⟩ := bif_some H; obtain ⟨g2, H⟩ := bif_some H; refine ⟨_, H, fun k' => ?_⟩ <;> first | (simp only [*, cond_true, cond_false]; done) | (simp [*]; done)))
  · (first | (cases H; done) | (refine ⟨_, H, fun k' => ?_⟩ <;> first | rfl | (simp only [*]; done) | (simp [*]; done)) | (obtain ⟨g1, H⟩ := bif_some H; refine ⟨_, H, fun k' => ?_⟩ <;> first | (simp only [*, cond_true, cond_false]; done) | (simp [*]; done)) | (obtain ⟨g1, H⟩ := bif_none H; refine ⟨_, H, fun k' => ?_⟩ <;> first | (simp only [*, cond_true, cond_false]; done) | (simp [*]; done)) | (obtain ⟨g1, H⟩ := bif_some H; obtain ⟨g2, H⟩ := bif_some H; refine ⟨_, H, fun k' => ?_⟩ <;> first | (simp only [*, cond_true, cond_false]; done) | (simp [*]; done)))
  · cases H

theorem minMaxC_det {mx : Bool} : ∀ (l : List TV) (x : TV), minMaxC mx x l k = some r → ∃ z, k z = some r ∧ ∀ k' : TV → Option γ, minMaxC mx x l k' = k' z := by
  intro l
  induction l with
  | nil => intro x H; unfold minMaxC at H; exact ⟨x, H, fun k' => by unfold minMaxC; rfl⟩
  | cons y l ih =>
    intro x H
    obtain ⟨T, x⟩ := x
    obtain ⟨V, y⟩ := y
    cases T <;> first | (simp [minMaxC] at H; done) | skip
    cases V <;> first | (simp [minMaxC] at H; done) | skip
    simp only [minMaxC] at H ⊢
    obtain ⟨g1, H⟩ := bif_some H
    obtain ⟨z, H, g⟩ := ih _ H
    exact ⟨z, H, fun k' => by simp only [g1, cond_true, g]⟩

theorem build_go_det {fs : List (Nat × Nat)} : ∀ (parts : List (Nat × Operand)) (T : Ty) (v : T.den), buildC.go E s k fs T v parts = some r → ∃ z, k z = some r ∧ ∀ k' : TV → Option γ, buildC.go E s k' fs T v parts = k' z := by
  intro parts
  induction parts with
  | nil => intro T v H; unfold buildC.go at H; exact ⟨_, H, fun k' => by unfold buildC.go; rfl⟩
  | cons p ps ih =>
    intro T v H
    obtain ⟨f, x⟩ := p
    unfold buildC.go at H
    split at H
    · rename_i ft off hf
      obtain ⟨g1, H⟩ := bif_some H
      obtain ⟨z, H, g⟩ := ih _ _ H
      exact ⟨z, H, fun k' => by unfold buildC.go; simp only [hf, g1, cond_true, g]⟩
    · cases H

theorem buildC_det {t : Nat} {init : TV} {parts : List (Nat × Operand)} (H : buildC E s t init parts k = some r) : ∃ z, k z = some r ∧ ∀ k' : TV → Option γ, buildC E s t init parts k' = k' z := by
  unfold buildC at H ⊢
  split at H
  · rename_i fs htd
    obtain ⟨g1, H⟩ := bif_some H
    obtain ⟨z, H, g⟩ := build_go_det (γ := γ) _ _ _ H
    exact ⟨z, H, fun k' => by simp only [g1, cond_true, g]⟩
  · rename_i m e htd
    obtain ⟨g1, H⟩ := bif_some H
    obtain ⟨z, H, g⟩ := build_go_det (γ := γ) _ _ _ H
    exact ⟨z, H, fun k' => by simp only [g1, cond_true, g]⟩
  · cases H

theorem elemAddrC_det {n sz : Nat} {x i : TV} (H : elemAddrC s n sz x i k = some r) : ∃ z, k z = some r ∧ ∀ k' : TV → Option γ, elemAddrC s n sz x i k' = k' z := by
  unfold elemAddrC at H ⊢
  split at H
  · obtain ⟨g1, H⟩ := bif_some H
    exact ⟨_, H, fun k' => by simp only [g1, cond_true]⟩
  · exact indexArrC_det H

theorem elemsC_det {e : Ty} {x : TV} {k : List e.den → Option α} (H : elemsC s e x k = some r) : ∃ z, k z = some r ∧ ∀ k' : List e.den → Option γ, elemsC s e x k' = k' z := by
  unfold elemsC at H ⊢
  repeat' split at H
  all_goals (first | (cases H; done) | (refine ⟨_, H, fun k' => ?_⟩ <;> first | rfl | (simp only [*]; done) | (simp [*]; done)) | (obtain ⟨g1, H⟩ := bif_some H; refine ⟨_, H, fun k' => ?_⟩ <;> first | (simp only [*, cond_true, cond_false]; done) | (simp [*]; done)) | (obtain ⟨g1, H⟩ := bif_none H; refine ⟨_, H, fun k' => ?_⟩ <;> first | (simp only [*, cond_true, cond_false]; done) | (simp [*]; done)) | (obtain ⟨g1, H⟩ := bif_some H; obtain ⟨g2, H⟩ := bif_some H; refine ⟨_, H, fun k' => ?_⟩ <;> first | (simp only [*, cond_true, cond_false]; done) | (simp [*]; done)))

theorem eqC_det {E : Env} {op : BinOp} {xt : Nat} {x y : TV} (H : eqC E op xt x y k = some r) : ∃ z, k z = some r ∧ ∀ k' : TV → Option γ, eqC E op xt x y k' = k' z := by
  unfold eqC at H ⊢
  obtain ⟨g1, H⟩ := bif_some H
  split at H
  · rename_i y' hc
    split at H
    · exact ⟨_, H, fun k' => by simp only [g1, cond_true, hc]⟩
    · exact ⟨_, H, fun k' => by simp only [g1, cond_true, hc]⟩
    · cases H
  · cases H

theorem binC_det {td : TD} {op : BinOp} {x y : TV} (H : binC td op x y k = some r) : ∃ z, k z = some r ∧ ∀ k' : TV → Option γ, binC td op x y k' = k' z := by
  unfold binC at H ⊢
  split at H
  · split at H
    · (first | (cases H; done) | (refine ⟨_, H, fun k' => ?_⟩ <;> first | rfl | (simp only [*]; done) | (simp [*]; done)) | (obtain ⟨g1, H⟩ := bif_some H; refine ⟨_, H, fun k' => ?_⟩ <;> first | (simp only [*, cond_true, cond_false]; done) | (simp [*]; done)) | (obtain ⟨g1, H⟩ := bif_none H; refine ⟨_, H, fun k' => ?_⟩ <;> first | (simp only [*, cond_true, cond_false]; done) | (simp [*]; done)) | (obtain ⟨g1, H⟩ := bif_some H; obtain ⟨g2, H⟩ := bif_some H; refine ⟨_, H, fun k' => ?_⟩ <;> first | (simp only [*, cond_true, cond_false]; done) | (simp [*]; done)))
    · (first | (cases H; done) | (refine ⟨_, H, fun k' => ?_⟩ <;> first | rfl | (simp only [*]; done) | (simp [*]; done)) | (obtain ⟨g1, H⟩ := bif_some H; refine ⟨_, H, fun k' => ?_⟩ <;> first | (simp only [*, cond_true, cond_false]; done) | (simp [*]; done)) | (obtain ⟨g1, H⟩ := bif_none H; refine ⟨_, H, fun k' => ?_⟩ <;> first | (simp only [*, cond_true, cond_false]; done) | (simp [*]; done)) | (obtain ⟨g1, H⟩ := bif_some H; obtain ⟨g2, H⟩ := bif_some H; refine ⟨_, H, fun k' => ?_⟩ <;> first | (simp only [*, cond_true, cond_false]; done) | (simp [*]; done)))
    · obtain ⟨g1, H⟩ := bif_some H
      split at H <;> first | (simp only [g1, cond_true]; (first | (cases H; done) | (refine ⟨_, H, fun k' => ?_⟩ <;> first | rfl | (simp only [*]; done) | (simp [*]; done)) | (obtain ⟨g1, H⟩ := bif_some H; refine ⟨_, H, fun k' => ?_⟩ <;> first | (simp only [*, cond_true, cond_false]; done) | (simp [*]; done)) | (obtain ⟨g1, H⟩ := bif_none H; refine ⟨_, H, fun k' => ?_⟩ <;> first | (simp only [*, cond_true, cond_false]; done) | (simp [*]; done)) | (obtain ⟨g1, H⟩ := bif_some H; obtain ⟨g2, H⟩ := bif_some H; refine ⟨_, H, fun k' => ?_⟩ <;> first | (simp only [*, cond_true, cond_false]; done) | (simp [*]; done)))) | cases H
  · split at H <;> (first | (cases H; done) | (refine ⟨_, H, fun k' => ?_⟩ <;> first | rfl | (simp only [*]; done) | (simp [*]; done)) | (obtain ⟨g1, H⟩ := bif_some H; refine ⟨_, H, fun k' => ?_⟩ <;> first | (simp only [*, cond_true, cond_false]; done) | (simp [*]; done)) | (obtain ⟨g1, H⟩ := bif_none H; refine ⟨_, H, fun k' => ?_⟩ <;> first | (simp only [*, cond_true, cond_false]; done) | (simp [*]; done)) | (obtain ⟨g1, H⟩ := bif_some H; obtain ⟨g2, H⟩ := bif_some H; refine ⟨_, H, fun k' => ?_⟩ <;> first | (simp only [*, cond_true, cond_false]; done) | (simp [*]; done)))
  · split at H
    · split at H <;> (first | (cases H; done) | (refine ⟨_, H, fun k' => ?_⟩ <;> first | rfl | (simp only [*]; done) | (simp [*]; done)) | (obtain ⟨g1, H⟩ := bif_some H; refine ⟨_, H, fun k' => ?_⟩ <;> first | (simp only [*, cond_true, cond_false]; done) | (simp [*]; done)) | (obtain ⟨g1, H⟩ := bif_none H; refine ⟨_, H, fun k' => ?_⟩ <;> first | (simp only [*, cond_true, cond_false]; done) | (simp [*]; done)) | (obtain ⟨g1, H⟩ := bif_some H; obtain ⟨g2, H⟩ := bif_some H; refine ⟨_, H, fun k' => ?_⟩ <;> first | (simp only [*, cond_true, cond_false]; done) | (simp [*]; done)))
    · cases H
  · cases H
theorem binAny_det {td : TD} {op : BinOp} {x y : TV} (H : binAny E td op x y k = some r) : ∃ z, k z = some r ∧ ∀ k' : TV → Option γ, binAny E td op x y k' = k' z := by
  cases td with
  | ptr e =>
    simp only [binAny] at H ⊢
    unfold ptrEqC at H ⊢
    cases hp : ptrEq x y with
    | none => rw [hp] at H; cases H
    | some b =>
      rw [hp] at H
      simp only at H ⊢
      obtain ⟨g1, H⟩ := bif_some H
      cases op <;> first | (cases H; done) | exact ⟨_, H, fun k' => by simp only [g1, cond_true]⟩
  | _ => (simp only [binAny] at H ⊢; exact binC_det H)

end
end Go.Dp
/- Operations that only give a value. -/
set_option autoImplicit false
set_option linter.unusedVariables false
set_option linter.unusedSimpArgs false
namespace Go.Dp
open Go.RowKit

section
variable {E : Env} {s : St} {α γ : Type} {r : α} {h : Hint} {k : St → Option α} {o : Oper} {call : CallT α}

/-- What is known of such an operation, `f` being what it does with what follows. -/
def Det (h : Hint) (d : Option Nat) (s : St) (k : St → Option α) (r : α) (f : (St → Option γ) → Option γ) : Prop :=
  ∃ s1, k s1 = some r ∧ s1.heap = s.heap ∧ s1.app = s.app ∧ (∀ e, d = some e → e < h.n) ∧ ∀ k', f k' = k' s1

theorem putC_det {d : Option Nat} {z : TV} (H : putC h s d z k = some r) : Det (γ := γ) h d s k r (putC h s d z) := by
  cases d with
  | none => exact ⟨s, H, rfl, rfl, fun e he => (by cases he), fun k' => rfl⟩
  | some d =>
    simp only [putC] at H
    obtain ⟨g, H⟩ := bif_some H
    exact ⟨_, H, rfl, rfl, fun e he => (by cases he; exact bltN g), fun k' => by simp only [putC, g, cond_true]⟩

/-- A value that is then put away. -/
theorem via_det {f' : (TV → Option γ) → Option γ} {d : Option Nat} (H : ∃ z, putC h s d z k = some r ∧ ∀ k' : TV → Option γ, f' k' = k' z) :
    Det (γ := γ) h d s k r (fun k' => f' fun v => putC h s d v k') := by
  obtain ⟨z, H, g⟩ := H
  obtain ⟨s1, g1, g2, g3, g4, g5⟩ := putC_det (γ := γ) H
  exact ⟨s1, g1, g2, g3, g4, fun k' => by show f' (fun v => putC h s d v k') = _; rw [g, g5]⟩

theorem Det.congr {d : Option Nat} {f f' : (St → Option γ) → Option γ} (H : Det h d s k r f') (e : ∀ k', f k' = f' k') : Det h d s k r f := by
  obtain ⟨s1, g1, g2, g3, g4, g5⟩ := H
  exact ⟨s1, g1, g2, g3, g4, fun k' => by rw [e, g5]⟩

theorem convC_det {src dst : Nat} {x : TV} {d : Option Nat} (hd : h.isOwn d = false) (H : convC E h s d src dst x k = some r) : Det (γ := γ) h d s k r (convC E h s d src dst x) := by
  obtain ⟨T, y⟩ := x
  unfold convC at H
  split at H
  · rename_i e; cases e; split at H
    · exact (putC_det H).congr fun k' => by unfold convC; simp only [*]
    · cases H
  · rename_i e; cases e; split at H
    · exact (putC_det H).congr fun k' => by unfold convC; simp only [*]
    · cases H
  · rename_i e; cases e; split at H
    · rw [hd] at H
      exact (putC_det H).congr fun k' => by unfold convC; simp only [*, cond_false]
    · cases H
  · rename_i x' htd hx
    split at H
    · rename_i e he
      split at H
      · rename_i hu
        obtain ⟨z, H, g⟩ := elemsC_det (γ := γ) H
        refine (putC_det H).congr fun k' => ?_
        cases T with
        | str => exact absurd rfl (hx y)
        | _ => unfold convC; simp only [htd, he, hu, g]
      · cases H
    · cases H
  · cases H

theorem appendXC_det {t u : Nat} {x y : TV} {d : Option Nat} (H : appendXC E h s d t u x y k = some r) : Det (γ := γ) h d s k r (appendXC E h s d t u x y) := by
  unfold appendXC at H
  split at H
  · rename_i et htd
    split at H
    · rename_i e xs
      obtain ⟨g1, H⟩ := bif_some H
      obtain ⟨z, H, g⟩ := elemsC_det (γ := γ) H
      obtain ⟨g2, H⟩ := bif_some H
      refine (putC_det H).congr fun k' => ?_
      unfold appendXC
      simp only [htd, g1, cond_true, g, g2]
    · cases H
  · cases H

theorem buildSliceC_det {t len : Nat} {parts : List (Nat × Operand)} {d : Option Nat} (hd : h.isOwn d = false) (H : buildSliceC E h s d t len parts k = some r) : Det (γ := γ) h d s k r (buildSliceC E h s d t len parts) := by
  unfold buildSliceC at H
  split at H
  · rename_i et htd
    obtain ⟨g1, H⟩ := bif_some H
    simp only at H
    split at H
    · rename_i ys hy
      obtain ⟨g2, H⟩ := bif_none H
      rw [hd] at H
      cases hfz : h.isFrz d with
      | true => rw [hfz] at H; exact (putC_det H).congr fun k' => by unfold buildSliceC; simp only [htd, g1, cond_true, hy, g2, hd, hfz, cond_false]
      | false => rw [hfz] at H; exact (putC_det H).congr fun k' => by unfold buildSliceC; simp only [htd, g1, cond_true, hy, g2, hd, hfz, cond_false]
    · rename_i hy
      split at H
      · rename_i T ys hU
        obtain ⟨g2, H⟩ := bif_some H
        exact (putC_det H).congr fun k' => by unfold buildSliceC; simp only [htd, g1, cond_true, hy, hU, g2]
      · rename_i hU
        obtain ⟨g2, H⟩ := bif_some H
        exact (putC_det H).congr fun k' => by unfold buildSliceC; simp only [htd, g1, cond_true, hy, hU, g2]
  · cases H

theorem callFn_det {d : Option Nat} {f : Nat} {args : List TV} (H : callFnC E h noCall s d f args k = some r) : Det (γ := γ) h d s k r (callFnC E h noCall s d f args) := by
  unfold callFnC at H
  split at H
  · rename_i Sp hs
    obtain ⟨g1, H⟩ := bif_some H
    split at H
    · rename_i x hx
      rw [Option.bind_eq_some_iff] at H
      obtain ⟨y, hy, H⟩ := H
      exact (putC_det H).congr fun k' => by unfold callFnC; simp only [hs, g1, cond_true, hx, hy, Option.bind_some]
    · cases H
  · cases H

theorem nilC_det {x : TV} {d : Option Nat} (H : nilC h s d x k = some r) : Det (γ := γ) h d s k r (nilC h s d x) := by
  obtain ⟨t, v⟩ := x
  cases t <;> first | (simp [nilC] at H; done) | exact (putC_det H).congr fun k' => rfl

theorem pickC_det {c x y : TV} {d : Option Nat} (H : asB c (pickC h s d x y k) = some r) : Det (γ := γ) h d s k r (fun k' => asB c (pickC h s d x y k')) := by
  obtain ⟨b, rfl, G⟩ := asB_some H
  obtain ⟨t, x⟩ := x
  obtain ⟨u, y⟩ := y
  by_cases hb : t = .bool ∧ u = .bool
  · obtain ⟨rfl, rfl⟩ := hb
    exact (putC_det G).congr fun k' => rfl
  · have key : ∀ {δ : Type} (q : St → Option δ), pickC h s d ⟨t, x⟩ ⟨u, y⟩ q b = bif b then putC h s d ⟨t, x⟩ q else putC h s d ⟨u, y⟩ q := by
      intro δ q
      unfold pickC
      split
      · rename_i x' y' e1 e2
        cases e1; cases e2
        exact absurd ⟨rfl, rfl⟩ hb
      · rfl
    rw [key] at G
    cases b
    · exact (putC_det G).congr fun k' => (by simp only [asB]; rw [key]; rfl)
    · exact (putC_det G).congr fun k' => (by simp only [asB]; rw [key]; rfl)

theorem extractC_det {x : TV} {i : Nat} {d : Option Nat} (H : extractC h s d x i k = some r) : Det (γ := γ) h d s k r (extractC h s d x i) := by
  obtain ⟨t, v⟩ := x
  cases t <;> first | (simp [extractC] at H; done) | skip
  simp only [extractC] at H
  obtain ⟨g1, H⟩ := bif_some H
  exact (putC_det H).congr fun k' => by simp only [extractC, g1, cond_true]

theorem lookupC_det {t : Nat} {x : TV} {key : Nat → TV} {ok : Bool} {k : TV → Option α} (H : lookupC E s t x key ok k = some r) : ∃ z, k z = some r ∧ ∀ k' : TV → Option γ, lookupC E s t x key ok k' = k' z := by
  unfold lookupC at H ⊢
  split at H
  · rename_i kt et id x' e1
    split at H
    · rename_i K V xs e2
      obtain ⟨g1, H⟩ := bif_some H
      split at H
      · rename_i y e3
        cases ok with
        | true => exact ⟨_, H, fun k' => by simp only [e1, e2, g1, e3, cond_true]⟩
        | false => exact ⟨_, H, fun k' => by simp only [e1, e2, g1, e3, cond_true, cond_false]⟩
      · cases H
    · cases H
  · cases H
theorem fnuC_det {δ : Type} {k : Nat → Option δ} {r : δ} : ∀ {fs : List Nat} {i0 n : Nat}, fnuC fs i0 n k = some r → ∃ f, (∀ k' : Nat → Option γ, fnuC fs i0 n k' = k' f) ∧ k f = some r := by
  intro fs
  induction fs with
  | nil => intro i0 n h; cases h
  | cons g fs ih =>
    intro i0 n h
    simp only [fnuC] at h ⊢
    cases hb : Nat.beq n i0 with
    | true => rw [hb] at h; exact ⟨g, fun k' => rfl, h⟩
    | false => rw [hb] at h; exact ih h

theorem op_det (hq : quietB E h o = true) (H : opC E h noCall o s k = some r) : Det (γ := γ) h o.dst s k r (opC E h noCall o s) := by
  unfold quietB at hq
  unfold opC at H
  cases hop : o.op with
  | move x => rw [hop] at H; exact (putC_det H).congr fun k' => by unfold opC; rw [hop]
  | assign x =>
    rw [hop] at H hq
    have hq : h.isOwn o.dst = false := by simpa using hq
    simp only [hq, Bool.false_and, cond_false] at H
    exact (putC_det H).congr fun k' => by unfold opC; rw [hop]; simp only [hq, Bool.false_and, cond_false]
  | pick c x y => rw [hop] at H; exact (pickC_det H).congr fun k' => by unfold opC; rw [hop]
  | box e x =>
    rw [hop] at H hq
    have hq : h.isImm o.dst = true := hq
    simp only [hq, cond_true] at H
    obtain ⟨g1, H⟩ := bif_some H
    exact (putC_det H).congr fun k' => by unfold opC; rw [hop]; simp only [hq, cond_true, g1]
  | build t ps =>
    rw [hop] at H hq
    have hq : h.isOwn o.dst = false := by simpa using hq
    simp only [hq, cond_false] at H
    exact (via_det (buildC_det H)).congr fun k' => by unfold opC; rw [hop]; simp only [hq, cond_false]
  | buildSlice t len ps =>
    rw [hop] at H hq
    have hq : h.isOwn o.dst = false := by simpa using hq
    exact (buildSliceC_det hq H).congr fun k' => by unfold opC; rw [hop]
  | load t x => rw [hop] at H; exact (via_det (loadC_det H)).congr fun k' => by unfold opC; rw [hop]
  | nilCheck x => rw [hop] at H; exact (nilC_det H).congr fun k' => by unfold opC; rw [hop]
  | binOp op xt x y yt =>
    rw [hop] at H
    obtain ⟨g1, H⟩ := bif_some H
    cases g2 : (ev E s xt x).t.isAgg with
    | true =>
      rw [g2, cond_true] at H
      exact (via_det (eqC_det H)).congr fun k' => by unfold opC; rw [hop]; simp only [g1, g2, cond_true]
    | false =>
      rw [g2, cond_false] at H
      exact (via_det (binAny_det H)).congr fun k' => by unfold opC; rw [hop]; simp only [g1, g2, cond_true, cond_false]
  | unOp op t x => rw [hop] at H; exact (via_det (unC_det H)).congr fun k' => by unfold opC; rw [hop]
  | convert src dst x =>
    rw [hop] at H hq
    have hq : h.isOwn o.dst = false := by simpa using hq
    exact (convC_det hq H).congr fun k' => by unfold opC; rw [hop]
  | makeFunc f first caps =>
    rw [hop] at H
    cases f with
    | func f =>
      simp only at H
      cases g0 : first.isEmpty with
      | true => rw [g0, cond_true] at H; exact (putC_det H).congr fun k' => by unfold opC; rw [hop]; simp only [g0, cond_true]
      | false =>
        rw [g0, cond_false] at H
        obtain ⟨g1, H⟩ := bif_some H
        exact (putC_det H).congr fun k' => by unfold opC; rw [hop]; simp only [g0, g1, cond_true, cond_false]
    | _ => cases H
  | slice t x lo hi mx =>
    rw [hop] at H
    cases mx with
    | some m => cases H
    | none =>
      simp only at H
      split at H
      · rename_i htd
        split at H
        · rename_i b hb
          obtain ⟨l, u, H, g⟩ := boundsC_det (γ := γ) H
          exact (putC_det H).congr fun k' => by unfold opC; rw [hop]; simp only [htd, hb, g]
        · cases H
      · rename_i e htd
        obtain ⟨g1, H⟩ := bif_some H
        exact (via_det (sliceC_det H)).congr fun k' => by unfold opC; rw [hop]; simp only [htd, g1, cond_true]
      · cases H
  | fieldAddr t x f => rw [hop] at H; exact (via_det (fieldAddrC_det H)).congr fun k' => by unfold opC; rw [hop]
  | field t x f => rw [hop] at H; exact (via_det (fieldC_det H)).congr fun k' => by unfold opC; rw [hop]
  | indexAddr t x i =>
    rw [hop] at H
    simp only at H
    split at H
    · rename_i e htd
      obtain ⟨g1, H⟩ := bif_some H
      exact (via_det (indexAddrC_det H)).congr fun k' => by unfold opC; rw [hop]; simp only [htd, g1, cond_true]
    · rename_i m e htd
      obtain ⟨g1, H⟩ := bif_some H
      exact (via_det (elemAddrC_det H)).congr fun k' => by unfold opC; rw [hop]; simp only [htd, g1, cond_true]
    · cases H
  | index t x i => rw [hop] at H; exact (via_det (indexC_det H)).congr fun k' => by unfold opC; rw [hop]
  | lookup t x i ok => rw [hop] at H; exact (via_det (lookupC_det H)).congr fun k' => by unfold opC; rw [hop]
  | extract x i => rw [hop] at H; exact (extractC_det H).congr fun k' => by unfold opC; rw [hop]
  | call c =>
    rw [hop] at H hq
    obtain ⟨callee, args, argTypes⟩ := c
    simp only at H hq
    cases callee with
    | invoke x m => cases H
    | value f =>
      obtain ⟨g1, H⟩ := bif_some H
      unfold callC at H
      obtain ⟨hq0, hqo⟩ := and2 hq
      have hq0 : h.isFrz o.dst = false := by simpa using hq0
      have hqo : h.isOwn o.dst = false := by simpa using hqo
      split at H
      · rename_i fid fst cv hX
        rw [hq0, cond_false] at H
        exact (callFn_det H).congr fun k' => by unfold opC; rw [hop]; simp only [g1, cond_true]; unfold callC; rw [hX]; simp only [hq0, cond_false]
      · rename_i fs cv hX
        rw [hq0, cond_false] at H
        obtain ⟨fid, g3, H⟩ := fnuC_det (γ := γ) H
        exact (callFn_det H).congr fun k' => by unfold opC; rw [hop]; simp only [g1, cond_true]; unfold callC; rw [hX]; simp only [hq0, cond_false]; rw [g3]
      · rename_i fid caps cv hX
        rw [hq0, cond_false] at H
        unfold callO at H
        rw [hqo, cond_false] at H
        exact (callFn_det H).congr fun k' => by unfold opC; rw [hop]; simp only [g1, cond_true]; unfold callC; rw [hX]; simp only [hq0, cond_false]; unfold callO; rw [hqo, cond_false]
      · cases H
    | builtin b =>
      cases b with
      | len =>
        simp only at H
        split at H
        · rename_i x t e1 e2
          exact (via_det (lenC_det H)).congr fun k' => by unfold opC; rw [hop]; simp only [e1, e2]
        · cases H
      | append =>
        simp only at H hq
        split at H
        · rename_i x y t u e1 e2
          rw [hq] at H
          exact (appendXC_det H).congr fun k' => by unfold opC; rw [hop]; simp only [e1, e2, hq, cond_true]
        · cases H
      | min =>
        obtain ⟨g1, H⟩ := bif_some H
        split at H
        · rename_i x l e
          exact (via_det (minMaxC_det _ _ H)).congr fun k' => by unfold opC; rw [hop]; simp only [g1, cond_true, e]
        · cases H
      | max =>
        obtain ⟨g1, H⟩ := bif_some H
        split at H
        · rename_i x l e
          exact (via_det (minMaxC_det _ _ H)).congr fun k' => by unfold opC; rw [hop]; simp only [g1, cond_true, e]
        · cases H
      | _ => cases hq
  | _ => rw [hop] at hq; cases hq
end
end Go.Dp
/- Regions whose order is drawn: one run in the order of the text serves every order. -/
set_option autoImplicit false
set_option linter.unusedVariables false
set_option linter.unusedSimpArgs false
namespace Go.Dp
open Go.RowKit

/-! Registers after some of a region's operations. -/
def upd (f : Nat → TV) (d : Option Nat) (x : TV) (t : Nat) : TV := if d = some t then x else f t

def updL : List Oper → (Nat → TV) → List TV → (Nat → TV)
  | o :: l, f, x :: xs => updL l (upd f o.dst x) xs
  | _, f, _ => f

def after (L : Nat → Bool) : Nat → List Oper → List TV → (Nat → TV) → (Nat → TV)
  | i, o :: l, x :: xs, f => after L (i + 1) l xs (if L i then upd f o.dst x else f)
  | _, _, _, f => f

theorem after_agree {L L' : Nat → Bool} {t : Nat} : ∀ (l : List Oper) (i : Nat) (xs : List TV) (f f' : Nat → TV), f t = f' t → (∀ j o, l[j]? = some o → o.dst = some t → L (i + j) = L' (i + j)) → after L i l xs f t = after L' i l xs f' t := by
  intro l
  induction l with
  | nil => intro i xs f f' hf _; exact hf
  | cons o l ih =>
    intro i xs f f' hf h
    cases xs with
    | nil => exact hf
    | cons x xs =>
      simp only [after]
      refine ih (i + 1) xs _ _ ?_ fun j o' hj hd => by have := h (j + 1) o' (by simpa using hj) hd; rwa [Nat.add_assoc, Nat.add_comm 1 j]
      by_cases hd : o.dst = some t
      · have := h 0 o rfl hd
        simp only [Nat.add_zero] at this
        rw [this]
        cases L' i <;> simp [upd, hd, hf]
      · cases L i <;> cases L' i <;> simp [upd, hd, hf]

theorem after_skip {L : Nat → Bool} {t : Nat} : ∀ (l : List Oper) (i : Nat) (xs : List TV) (f : Nat → TV), (∀ j o, l[j]? = some o → L (i + j) = true → o.dst ≠ some t) → after L i l xs f t = f t := by
  intro l
  induction l with
  | nil => intro i xs f _; rfl
  | cons o l ih =>
    intro i xs f h
    cases xs with
    | nil => rfl
    | cons x xs =>
      simp only [after]
      rw [ih (i + 1) xs _ fun j o' hj hL => h (j + 1) o' (by simpa using hj) (by rwa [Nat.add_assoc, Nat.add_comm 1 j] at hL)]
      cases hL : L i with
      | false => rfl
      | true => simp [upd, h 0 o rfl (by simpa using hL)]

theorem after_hit {L : Nat → Bool} {t : Nat} : ∀ (l : List Oper) (i : Nat) (xs : List TV) (f : Nat → TV) (j : Nat) (o : Oper) (x : TV), l[j]? = some o → xs[j]? = some x → o.dst = some t → L (i + j) = true →
    (∀ j' o', l[j']? = some o' → j' ≠ j → o'.dst ≠ some t) → after L i l xs f t = x := by
  intro l
  induction l with
  | nil => intro i xs f j o x h; simp at h
  | cons o l ih =>
    intro i xs f j o' x' h hx hd hL hu
    cases xs with
    | nil => simp at hx
    | cons x xs =>
      simp only [after]
      cases j with
      | zero =>
        simp only [List.getElem?_cons_zero, Option.some.injEq] at h hx
        subst h; subst hx
        rw [after_skip l (i + 1) xs _ fun j o' hj _ => hu (j + 1) o' (by simpa using hj) (by omega)]
        simp only [Nat.add_zero] at hL
        simp [hL, upd, hd]
      | succ j =>
        exact ih (i + 1) xs _ j o' x' (by simpa using h) (by simpa using hx) hd (by rwa [Nat.add_assoc, Nat.add_comm 1 j]) fun j' o'' hj hne => hu (j' + 1) o'' (by simpa using hj) (by omega)

theorem after_last {L : Nat → Bool} {t : Nat} : ∀ (l : List Oper) (i : Nat) (xs : List TV) (f : Nat → TV) (j : Nat) (o : Oper) (x : TV), l[j]? = some o → xs[j]? = some x → o.dst = some t → L (i + j) = true →
    (∀ j' o', l[j']? = some o' → j < j' → L (i + j') = true → o'.dst ≠ some t) → after L i l xs f t = x := by
  intro l
  induction l with
  | nil => intro i xs f j o x h; simp at h
  | cons o l ih =>
    intro i xs f j o' x' h hx hd hL hu
    cases xs with
    | nil => simp at hx
    | cons x xs =>
      simp only [after]
      cases j with
      | zero =>
        simp only [List.getElem?_cons_zero, Option.some.injEq] at h hx
        subst h; subst hx
        rw [after_skip l (i + 1) xs _ fun j o' hj hLj => hu (j + 1) o' (by simpa using hj) (by omega) (by rwa [Nat.add_assoc, Nat.add_comm 1 j] at hLj)]
        simp only [Nat.add_zero] at hL
        simp [hL, upd, hd]
      | succ j =>
        exact ih (i + 1) xs _ j o' x' (by simpa using h) (by simpa using hx) hd (by rwa [Nat.add_assoc, Nat.add_comm 1 j]) fun j' o'' hj hlt hLj => hu (j' + 1) o'' (by simpa using hj) (by omega) (by rwa [Nat.add_assoc, Nat.add_comm 1 j'] at hLj)

theorem after_none (L : Nat → Bool) : ∀ (l : List Oper) (i : Nat) (xs : List TV) (f : Nat → TV), (∀ j, L (i + j) = false) → after L i l xs f = f := by
  intro l i xs f h
  funext t
  exact after_skip l i xs f fun j o _ hL => by rw [h j] at hL; cases hL

theorem updL_take : ∀ (l : List Oper) (i j : Nat) (xs : List TV) (f : Nat → TV), l.length = xs.length → updL (l.take j) f (xs.take j) = after (fun m => decide (m < i + j)) i l xs f := by
  intro l
  induction l with
  | nil => intro i j xs f _; simp [updL, after]
  | cons o l ih =>
    intro i j xs f hl
    cases xs with
    | nil => simp at hl
    | cons x xs =>
      cases j with
      | zero => rw [after_none]; · rfl
                intro j; simp
      | succ j =>
        simp only [List.take_succ_cons, updL, after]
        rw [ih (i + 1) j xs _ (by simpa using hl)]
        have : i + 1 + j = i + (j + 1) := by omega
        rw [this]
        simp

theorem updL_all (l : List Oper) (xs : List TV) (f : Nat → TV) (hl : l.length = xs.length) : updL l f xs = after (fun m => decide (m < l.length)) 0 l xs f := by
  have := updL_take l 0 l.length xs f hl
  simpa [hl, List.take_of_length_le] using this

/-! One operation of the region. -/
section
variable {E : Env} {h : Hint} {all : List Oper} {H : Heap}

inductive StepP (E : Env) (h : Hint) (all : List Oper) (H : Heap) (o : Oper) (f : Nat → TV) (x : TV) (it : Option TV) : Prop where
  | run (hq : quietB E h o = true) (hg : o.guard = none ∨ ∃ j want g, o.guard = some (j, want) ∧ dstOf all j = some g ∧ f g = ⟨.bool, want⟩) (s1 : St)
      (hr : opC E h noCall o ⟨maskF (opLooks o.op) f, H, []⟩ some = some s1) (hh : s1.heap = H) (ha : s1.app = []) (hd : ∀ d, o.dst = some d → d < h.n ∧ s1.get d = x) (hi : it = none)
  | skip (j : Nat) (want : Bool) (g : Nat) (hg : o.guard = some (j, want)) (hj : dstOf all j = some g) (hf : f g = ⟨.bool, !want⟩ ∨ f g = .undef) (hx : x = .undef) (hd : ∀ d, o.dst = some d → d < h.n) (hi : it = none)
  | made (hg : o.guard = none) (d : Nat) (hd : o.dst = some d) (hn : d < h.n) (hc : gcOK H.length H = true) (y : TV) (hy : objP y.t = true) (s1 : St)
      (hr : opC E h noCall o ⟨maskF (opLooks o.op) f, H, []⟩ some = some s1) (hh : s1.heap = H ++ [y]) (ha : s1.app = []) (hb : s1.get d = yOf (bOf y) H.length) (hx : x = .unk) (hi : it = some y) (hm : madeB h o = true)

def moreP (o : Oper) (it : Option TV) (pd : List Nat) : List Nat :=
  match it with
  | some _ => o.dst.getD 0 :: pd
  | none => pd
/-- With what the objects that are not counted yet hold. -/
inductive StepQ (E : Env) (h : Hint) (all : List Oper) (H : Heap) (o : Oper) (f : Nat → TV) (x : TV) (it : Option TV) (g : Nat → TV) (v : Option Nat) (y : TV) (pd : List Nat) : Prop where
  | base (hs : StepP E h all H o f x it) (hi : it = none) (hv : v = none)
  | made (hs : StepP E h all H o f x it) (hi : it = some y) (hv : v = o.dst)
  | put (hp : putB o = true) (hx : x = .unk) (hi : it = none) (hv : v = some (putAt o).1) (h1 : (f (putAt o).2).t.pure = true) (h2 : (f (putAt o).2).t.isUnk = false) (h3 : bOf (g (putAt o).1) = false) (h4 : (putAt o).2 ≠ (putAt o).1) (hpd : (putAt o).1 ∈ pd) (s1 : St)
      (hr : opC E h noCall o ⟨[((putAt o).1, yOf false 0), ((putAt o).2, f (putAt o).2)], [g (putAt o).1], []⟩ some = some s1) (hh : s1.heap = [y]) (ha : s1.app = []) (hy : objP y.t = true) (hb : bOf y = false)

def LexP (E : Env) (h : Hint) (all : List Oper) (H : Heap) : List Oper → (Nat → TV) → List TV → List (Option TV) → (Nat → TV) → List (Option Nat) → List TV → List Nat → Prop
  | [], _, xs, its, _, vs, ys, _ => xs = [] ∧ its = [] ∧ vs = [] ∧ ys = []
  | o :: l, f, xs, its, g, vs, ys, pd => ∃ x xs' it its' v vs' y ys', xs = x :: xs' ∧ its = it :: its' ∧ vs = v :: vs' ∧ ys = y :: ys' ∧ StepQ E h all H o f x it g v y pd ∧ LexP E h all H l (upd f o.dst x) xs' its' (upd g v y) vs' ys' (moreP o it pd)

def vops : List Oper → List (Option Nat) → List Oper
  | o :: l, v :: vs => { o with dst := v } :: vops l vs
  | _, _ => []

theorem set_same {s : St} {g : Nat} {x : TV} (hg : s.get g = x) : (s.set g x).get = s.get := by
  funext i
  rw [get_set]
  cases hb : Nat.beq g i with
  | true => obtain rfl := beqN hb; exact hg.symm
  | false => rfl

theorem get_set_upd (s : St) (d : Nat) (x : TV) : (s.set d x).get = upd s.get (some d) x := by
  funext i
  rw [get_set]
  unfold upd
  cases hb : Nat.beq d i with
  | true => obtain rfl := beqN hb; simp
  | false =>
    have : d ≠ i := fun e => by subst e; rw [Nat.beq_refl] at hb; cases hb
    simp [this]

variable {α : Type} {k : St → Option α} {r : α}

/-- The registers of the objects that are counted when the operations before the chain are done. -/
def pdlF : List Oper → List (Option TV) → List Nat → List Nat
  | o :: l, some _ :: its, pdl => pdlF l its (o.dst.getD 0 :: pdl)
  | _ :: l, none :: its, pdl => pdlF l its pdl
  | _, _, pdl => pdl
def withG (g : Nat → TV) (pdl : List Nat) : List (Nat × TV) := pdl.map fun d => (d, g d)
theorem findM_some {g : Nat → TV} {d : Nat} {x : TV} : ∀ {pdl : List Nat}, findM (withG g pdl) d = some x → x = g d := by
  intro pdl
  induction pdl with
  | nil => intro h; cases h
  | cons e r ih =>
    intro h
    simp only [withG, List.map_cons, findM] at h
    cases hb : Nat.beq e d with
    | true => rw [hb] at h; rw [← beqN hb]; exact (Option.some.inj h).symm
    | false => rw [hb] at h; exact ih h
theorem findM_mem {g : Nat → TV} {d : Nat} {x : TV} : ∀ {pdl : List Nat}, findM (withG g pdl) d = some x → d ∈ pdl := by
  intro pdl
  induction pdl with
  | nil => intro h; cases h
  | cons e r ih =>
    intro h
    simp only [withG, List.map_cons, findM] at h
    cases hb : Nat.beq e d with
    | true => rw [beqN hb]; exact List.mem_cons_self
    | false => rw [hb] at h; exact List.mem_cons_of_mem _ (ih h)
theorem findM_none {g : Nat → TV} {d : Nat} : ∀ {pdl : List Nat}, (findM (withG g pdl) d).isNone = true → d ∉ pdl := by
  intro pdl
  induction pdl with
  | nil => intro _ h; cases h
  | cons e r ih =>
    intro h hm
    simp only [withG, List.map_cons, findM] at h
    cases hb : Nat.beq e d with
    | true => rw [hb] at h; cases h
    | false =>
      rw [hb] at h
      rcases List.mem_cons.1 hm with hm | hm
      · subst hm; rw [Nat.beq_refl] at hb; cases hb
      · exact ih h hm
theorem withG_upd {g : Nat → TV} {d : Nat} {x : TV} {pdl : List Nat} (h : d ∉ pdl) : withG (upd g (some d) x) pdl = withG g pdl := by
  unfold withG
  apply List.map_congr_left
  intro e he
  have : d ≠ e := fun e' => h (e' ▸ he)
  simp [upd, this]
theorem setM_withG {g : Nat → TV} {d : Nat} {y : TV} : ∀ pdl : List Nat, setM d y (withG g pdl) = withG (upd g (some d) y) pdl := by
  intro pdl
  induction pdl with
  | nil => rfl
  | cons e r ih =>
    simp only [withG, List.map_cons, setM] at ih ⊢
    rw [ih]
    congr 2
    cases hb : Nat.beq e d with
    | true => have := beqN hb; subst this; simp [upd]
    | false =>
      have : d ≠ e := fun e' => by subst e'; rw [Nat.beq_refl] at hb; cases hb
      simp [upd, this]
theorem upd_none (g : Nat → TV) (y : TV) : upd g none y = g := by funext t; simp [upd]

theorem made_det {o : Oper} {s : St} (hm : madeB h o = true) (H : opC E h noCall o s k = some r) :
    ∃ s1, k s1 = some r ∧ ((∃ y, s1.heap = s.heap ++ [y]) ∨ s1.heap = s.heap) ∧ s1.app = s.app ∧ opC E h noCall o s some = some s1 := by
  unfold madeB at hm
  simp only [Bool.and_eq_true] at hm
  obtain ⟨hg, hm⟩ := hm
  unfold opC at H
  cases hop : o.op with
  | alloc e =>
    rw [hop] at H hm
    have hq : h.isOwn o.dst = false := by simpa using hm
    simp only [hq, cond_false] at H
    obtain ⟨g1, H⟩ := bif_some H
    obtain ⟨s1, h1, h2, h3, h4, h5⟩ := putC_det (γ := St) H
    exact ⟨s1, h1, .inl ⟨_, h2⟩, h3, by unfold opC; rw [hop]; simp only [hq, cond_false, g1, cond_true]; exact h5 some⟩
  | buildSlice t len ps =>
    rw [hop] at H hm
    have hq : h.isOwn o.dst = true := hm
    simp only at H
    unfold buildSliceC at H
    split at H
    · rename_i et htd
      obtain ⟨g1, H⟩ := bif_some H
      simp only at H
      split at H
      · rename_i ys hy
        obtain ⟨g2, H⟩ := bif_none H
        rw [hq] at H
        obtain ⟨s1, h1, h2, h3, h4, h5⟩ := putC_det (γ := St) H
        exact ⟨s1, h1, .inl ⟨_, h2⟩, h3, by unfold opC; rw [hop]; simp only []; unfold buildSliceC; simp only [htd, g1, cond_true, hy, g2, hq, cond_false]; exact h5 some⟩
      · rename_i hy
        split at H
        · rename_i T ys hU
          obtain ⟨g2, H⟩ := bif_some H
          rw [hq] at g2
          simp at g2
        · rename_i hU
          obtain ⟨g2, H⟩ := bif_some H
          obtain ⟨s1, h1, h2, h3, h4, h5⟩ := putC_det (γ := St) H
          exact ⟨s1, h1, .inr h2, h3, by unfold opC; rw [hop]; simp only []; unfold buildSliceC; simp only [htd, g1, cond_true, hy, hU, g2]; exact h5 some⟩
    · cases H
  | _ => rw [hop] at hm; cases hm

theorem madeK_some {α : Type} {r : α} {n : Nat} {s1 : St} {d : Nat} {k : TV → Option α} {H : Heap} {y : TV} (hn : n = H.length) (hh : s1.heap = H ++ [y]) (hk : madeK n s1 d k = some r) : objP y.t = true ∧ s1.get d = yOf (bOf y) n ∧ k y = some r := by
  unfold madeK at hk
  rw [hh, hn, List.drop_left] at hk
  simp only at hk
  obtain ⟨g1, hk⟩ := bif_some hk
  generalize hz : s1.get d = z at hk
  split at hk
  · obtain ⟨g2, hk2⟩ := bif_some hk
    simp only [Bool.and_eq_true] at g2
    have := beqN g2.1
    subst this
    exact ⟨g1, by rw [g2.2, hn]; rfl, hk2⟩
  · obtain ⟨g2, hk2⟩ := bif_some hk
    simp only [Bool.and_eq_true, Bool.not_eq_true'] at g2
    have e1 := beqN g2.1.1
    have e2 := beqN g2.1.2
    subst e1; subst e2
    exact ⟨g1, by rw [g2.2, hn]; rfl, hk2⟩
  · cases hk
theorem putK_some {α : Type} {r : α} {s1 : St} {k : TV → Option α} (hk : putK s1 k = some r) : ∃ y, s1.heap = [y] ∧ s1.app = [] ∧ objP y.t = true ∧ bOf y = false ∧ k y = some r := by
  unfold putK at hk
  split at hk
  · rename_i y h1 h2
    obtain ⟨g, hk⟩ := bif_some hk
    simp only [Bool.and_eq_true, Bool.not_eq_true'] at g
    exact ⟨y, h1, h2, g.1, g.2, hk⟩
  · cases hk
theorem store_det {t : Nat} {x y : TV} {s : St} (H : storeC E s t x y k = some r) : ∃ s1, k s1 = some r ∧ storeC E s t x y some = some s1 := by
  unfold storeC at H ⊢
  obtain ⟨g1, H⟩ := bif_some H
  simp only [g1, cond_true]
  split at H
  · obtain ⟨g2, H⟩ := bif_some H
    exact ⟨_, H, by simp only [g2, cond_true]⟩
  · rename_i id post i
    split at H
    · rename_i e xs he
      split at H
      · rename_i z hz
        exact ⟨_, H, by simp only [he, hz]⟩
      · cases H
    · cases H
  · cases H
theorem storeMove_det {t : Nat} {x y : TV} {s : St} (H : storeMoveC E s t x y k = some r) : ∃ s1, k s1 = some r ∧ storeMoveC E s t x y some = some s1 := by
  unfold storeMoveC at H ⊢
  split at H
  · rename_i i j hm
    split at H
    · rename_i e xi e' ys hei hej
      split at H
      · rename_i xs hc
        exact store_det H
      · cases H
    · cases H
  · exact store_det H
/-- A store gives one state. -/
theorem put_det {o : Oper} {s : St} (hp : putB o = true) (H : opC E h noCall o s k = some r) : ∃ s1, k s1 = some r ∧ opC E h noCall o s some = some s1 := by
  unfold putB at hp
  simp only [Bool.and_eq_true] at hp
  obtain ⟨⟨_, hd⟩, hp⟩ := hp
  have hd : o.dst = none := Option.isNone_iff_eq_none.1 hd
  unfold opC at H ⊢
  cases hop : o.op with
  | store t a x =>
    rw [hop] at H
    simp only [hd, putC] at H ⊢
    cases hf : memN h.frz (tmpOf a) with
    | true => rw [hf] at H; exact storeMove_det H
    | false => rw [hf] at H; exact store_det H
  | _ => rw [hop] at hp; cases hp

theorem lex_of : ∀ (l : List Oper) (s : St) (g : Nat → TV) (pdl : List Nat) (k : St → Option α), l.all (fun o => quietB E h o || madeB h o || putB o) = true → opsD E h all l s (withG g pdl) k = some r →
    ∃ xs its vs ys s', LexP E h all s.heap l s.get xs its g vs ys pdl ∧ k (pushPD (withG (updL (vops l vs) g ys) (pdlF l its pdl)) s') = some r ∧ s'.get = updL l s.get xs ∧ s'.heap = s.heap ∧ s'.app = s.app := by
  intro l
  induction l with
  | nil => intro s g pdl k _ hk; exact ⟨[], [], [], [], s, ⟨rfl, rfl, rfl, rfl⟩, hk, rfl, rfl, rfl⟩
  | cons o l ih =>
    intro s g pdl k hq hk
    simp only [List.all_cons, Bool.and_eq_true] at hq
    unfold opsD at hk
    cases hm : madeB h o with
    | true =>
      rw [hm] at hk
      simp only [cond_true] at hk
      split at hk
      · rename_i d hd
        obtain ⟨g1, hk⟩ := bif_some hk
        simp only [Bool.and_eq_true] at g1
        obtain ⟨s1, hk, h1, h2, h3⟩ := made_det hm hk
        obtain ⟨y, h1⟩ : ∃ y, s1.heap = s.heap ++ [y] := by
          rcases h1 with h1 | h1
          · exact h1
          · unfold madeK at hk
            rw [h1] at hk
            simp at hk
        obtain ⟨h4, h5, hk⟩ := madeK_some rfl h1 hk
        have hnm := findM_none g1.2
        have hpd : (d, y) :: withG g pdl = withG (upd g (some d) y) (d :: pdl) := by
          show _ = (d, upd g (some d) y d) :: withG (upd g (some d) y) pdl
          rw [withG_upd hnm]
          simp [upd]
        rw [hpd] at hk
        obtain ⟨xs, its, vs, ys, s', e1, e2, e3, e4, e5⟩ := ih (s.set d .unk) (upd g (some d) y) (d :: pdl) _ hq.2 hk
        have hg : o.guard = none := by
          have hm2 := hm
          unfold madeB at hm2
          simp only [Bool.and_eq_true] at hm2
          exact Option.isNone_iff_eq_none.1 hm2.1
        refine ⟨.unk :: xs, some y :: its, some d :: vs, y :: ys, s', ⟨.unk, xs, _, its, _, vs, y, ys, rfl, rfl, rfl, rfl, .made (.made hg d hd (bltN g1.1.1) g1.1.2 y h4 s1 h3 h1 h2 h5 rfl rfl hm) rfl hd.symm, ?_⟩, ?_, ?_, e4, e5⟩
        · rw [hd, ← get_set_upd]; simp only [moreP, hd, Option.getD_some]; exact e1
        · simp only [pdlF, vops, updL]; rw [hd]; exact e2
        · simp only [updL]; rw [hd, ← get_set_upd]; exact e3
      · cases hk
    | false =>
    rw [hm] at hk hq
    simp only [Bool.or_false] at hq
    simp only [cond_false] at hk
    cases hpb : putB o with
    | true =>
      rw [hpb] at hk
      simp only [cond_true] at hk
      split at hk
      · rename_i x hfx
        obtain ⟨g1, hk⟩ := bif_some hk
        simp only [Bool.and_eq_true, Bool.not_eq_true'] at g1
        have hx := findM_some hfx
        have hmem := findM_mem hfx
        subst hx
        obtain ⟨s1, hk, h3⟩ := put_det hpb hk
        obtain ⟨y, h1, h2, h4, h5, hk⟩ := putK_some hk
        rw [setM_withG] at hk
        obtain ⟨xs, its, vs, ys, s', e1, e2, e3, e4, e5⟩ := ih s (upd g (some (putAt o).1) y) pdl _ hq.2 hk
        have hd : o.dst = none := by
          have hp2 := hpb
          unfold putB at hp2
          simp only [Bool.and_eq_true] at hp2
          exact Option.isNone_iff_eq_none.1 hp2.1.2
        refine ⟨.unk :: xs, none :: its, some (putAt o).1 :: vs, y :: ys, s', ⟨.unk, xs, _, its, _, vs, y, ys, rfl, rfl, rfl, rfl, .put hpb rfl rfl rfl g1.1.1.1 g1.1.1.2 g1.1.2 (fun e => by rw [e, Nat.beq_refl] at g1; exact absurd g1.2 (by simp)) hmem s1 h3 h1 h2 h4 h5, ?_⟩, ?_, ?_, e4, e5⟩
        · rw [hd, upd_none]; exact e1
        · simp only [pdlF, vops, updL]; exact e2
        · simp only [updL]; rw [hd, upd_none]; exact e3
      · cases hk
    | false =>
    rw [hpb] at hk hq
    simp only [Bool.or_false] at hq
    simp only [cond_false] at hk
    -- the step, from a state with the same registers
    have step : ∀ s0 : St, s0.get = s.get → s0.heap = s.heap → s0.app = s.app → (o.guard = none ∨ ∃ j want gr, o.guard = some (j, want) ∧ dstOf all j = some gr ∧ s.get gr = ⟨.bool, want⟩) →
        opC E h noCall o ⟨maskF (opLooks o.op) s.get, s.heap, []⟩ (fun s1 => opsD E h all l (graft o.dst s1 s0) (withG g pdl) k) = some r →
        ∃ xs its vs ys s', LexP E h all s.heap (o :: l) s.get xs its g vs ys pdl ∧ k (pushPD (withG (updL (vops (o :: l) vs) g ys) (pdlF (o :: l) its pdl)) s') = some r ∧ s'.get = updL (o :: l) s.get xs ∧ s'.heap = s.heap ∧ s'.app = s.app := by
      intro s0 e1 e2 e3 hg hk
      obtain ⟨s1, g1, g2, g3, g4, g5⟩ := op_det (γ := St) hq.1 hk
      simp only at g2 g3
      have hr := g5 some
      cases hd : o.dst with
      | none =>
        rw [hd] at g1
        simp only [graft] at g1
        obtain ⟨xs, its, vs, ys, s', h1, h2, h3, h4, h5⟩ := ih s0 g pdl k hq.2 g1
        refine ⟨.unk :: xs, none :: its, none :: vs, .unk :: ys, s', ⟨.unk, xs, none, its, none, vs, .unk, ys, rfl, rfl, rfl, rfl, .base (.run hq.1 hg s1 hr g2 g3 (fun d e => by rw [hd] at e; cases e) rfl) rfl rfl, ?_⟩, by simp only [pdlF, vops, updL, upd_none]; exact h2, ?_, h4.trans e2, h5.trans e3⟩
        · have : upd s.get o.dst TV.unk = s.get := by funext t; simp [upd, hd]
          rw [this, upd_none, ← e1, ← e2]; exact h1
        · have : upd s.get o.dst TV.unk = s.get := by funext t; simp [upd, hd]
          simp only [updL]
          rw [this, ← e1]; exact h3
      | some d =>
        rw [hd] at g1
        simp only [graft] at g1
        obtain ⟨xs, its, vs, ys, s', h1, h2, h3, h4, h5⟩ := ih (s0.set d (s1.get d)) g pdl k hq.2 g1
        refine ⟨s1.get d :: xs, none :: its, none :: vs, .unk :: ys, s', ⟨_, xs, none, its, none, vs, .unk, ys, rfl, rfl, rfl, rfl, .base (.run hq.1 hg s1 hr g2 g3 (fun e he => ?_) rfl) rfl rfl, ?_⟩, by simp only [pdlF, vops, updL, upd_none]; exact h2, ?_, h4.trans e2, h5.trans e3⟩
        · rw [hd] at he; cases he; exact ⟨g4 d hd, rfl⟩
        · rw [hd, upd_none, ← e1, ← get_set_upd]
          have : (s0.set d (s1.get d)).heap = s.heap := e2
          rw [← this]; exact h1
        · simp only [updL]
          rw [hd, ← e1, ← get_set_upd]; exact h3
    split at hk
    · rename_i hg
      exact step s rfl rfl rfl (.inl hg) hk
    · rename_i j want hg
      split at hk
      · rename_i gr hj
        -- what is passed over
        have skip : ∀ s0 : St, s0.get = s.get → s0.heap = s.heap → s0.app = s.app → (s.get gr = ⟨.bool, !want⟩ ∨ s.get gr = .undef) → putC h s0 o.dst .undef (fun s => opsD E h all l s (withG g pdl) k) = some r →
            ∃ xs its vs ys s', LexP E h all s.heap (o :: l) s.get xs its g vs ys pdl ∧ k (pushPD (withG (updL (vops (o :: l) vs) g ys) (pdlF (o :: l) its pdl)) s') = some r ∧ s'.get = updL (o :: l) s.get xs ∧ s'.heap = s.heap ∧ s'.app = s.app := by
          intro s0 e0 e2 e3 hb hk
          cases hd : o.dst with
          | none =>
            rw [hd] at hk
            simp only [putC] at hk
            obtain ⟨xs, its, vs, ys, s', h1, h2, h3, h4, h5⟩ := ih s0 g pdl k hq.2 hk
            have e1 : upd s.get o.dst TV.undef = s.get := by funext t; simp [upd, hd]
            refine ⟨.undef :: xs, none :: its, none :: vs, .unk :: ys, s', ⟨_, xs, none, its, none, vs, .unk, ys, rfl, rfl, rfl, rfl, .base (.skip j want gr hg hj hb rfl (fun d e => by rw [hd] at e; cases e) rfl) rfl rfl, ?_⟩, by simp only [pdlF, vops, updL, upd_none]; exact h2, ?_, h4.trans e2, h5.trans e3⟩
            · rw [e1, upd_none, ← e0, ← e2]; exact h1
            · simp only [updL]; rw [e1, ← e0]; exact h3
          | some d =>
            rw [hd] at hk
            simp only [putC] at hk
            obtain ⟨g1, hk⟩ := bif_some hk
            obtain ⟨xs, its, vs, ys, s', h1, h2, h3, h4, h5⟩ := ih (s0.set d .undef) g pdl k hq.2 hk
            refine ⟨.undef :: xs, none :: its, none :: vs, .unk :: ys, s', ⟨_, xs, none, its, none, vs, .unk, ys, rfl, rfl, rfl, rfl, .base (.skip j want gr hg hj hb rfl (fun e he => by rw [hd] at he; cases he; exact bltN g1) rfl) rfl rfl, ?_⟩, by simp only [pdlF, vops, updL, upd_none]; exact h2, ?_, h4.trans e2, h5.trans e3⟩
            · rw [hd, upd_none, ← e0, ← get_set_upd]
              have : (s0.set d .undef).heap = s.heap := e2
              rw [← this]; exact h1
            · simp only [updL]; rw [hd, ← e0, ← get_set_upd]; exact h3
        rcases guardC_some hk with ⟨b, hb, hk⟩ | ⟨hb, hk⟩
        case inr => exact skip s rfl rfl rfl (.inr hb) hk
        cases hw : (bif want then b else !b) with
        | true =>
          rw [hw] at hk
          have e : b = want := by cases want <;> cases b <;> simp_all
          subst e
          exact step (s.set gr ⟨.bool, b⟩) (set_same hb) rfl rfl (.inr ⟨j, b, gr, hg, hj, hb⟩) hk
        | false =>
          rw [hw] at hk
          simp only [cond_false] at hk
          have e : b = !want := by cases want <;> cases b <;> simp_all
          subst e
          exact skip (s.set gr ⟨.bool, !want⟩) (set_same hb) rfl rfl (.inl hb) hk
      · cases hk

theorem lex_len : ∀ (l : List Oper) (f : Nat → TV) (xs : List TV) (its : List (Option TV)) (g : Nat → TV) (vs : List (Option Nat)) (ys : List TV) (pd : List Nat), LexP E h all H l f xs its g vs ys pd → l.length = xs.length ∧ l.length = its.length ∧ (vops l vs).length = l.length ∧ l.length = ys.length := by
  intro l
  induction l with
  | nil => intro f xs its g vs ys pd hx; obtain ⟨rfl, rfl, rfl, rfl⟩ := hx; exact ⟨rfl, rfl, rfl, rfl⟩
  | cons o l ih => intro f xs its g vs ys pd hx; obtain ⟨x, xs', it, its', v, vs', y, ys', rfl, rfl, rfl, rfl, _, h2⟩ := hx; obtain ⟨g1, g2, g3, g4⟩ := ih _ _ _ _ _ _ _ h2; simp only [List.length_cons, vops]; omega

theorem lex_at : ∀ (l : List Oper) (f : Nat → TV) (xs : List TV) (its : List (Option TV)) (g : Nat → TV) (vs : List (Option Nat)) (ys : List TV) (pd : List Nat) (j : Nat) (o : Oper), LexP E h all H l f xs its g vs ys pd → l[j]? = some o →
    ∃ x it v y pd', xs[j]? = some x ∧ its[j]? = some it ∧ (vops l vs)[j]? = some { o with dst := v } ∧ ys[j]? = some y ∧ StepQ E h all H o (updL (l.take j) f (xs.take j)) x it (updL ((vops l vs).take j) g (ys.take j)) v y pd' ∧ (∀ d, d ∈ pd' → d ∈ pd ∨ ∃ j0 o0 x0, j0 < j ∧ l[j0]? = some o0 ∧ o0.dst = some d ∧ its[j0]? = some (some x0)) := by
  intro l
  induction l with
  | nil => intro f xs its g vs ys pd j o _ hj; simp at hj
  | cons o l ih =>
    intro f xs its g vs ys pd j o' hx hj
    obtain ⟨x, xs', it, its', v, vs', y, ys', rfl, rfl, rfl, rfl, h1, h2⟩ := hx
    cases j with
    | zero => obtain rfl : o = o' := by simpa using hj
              exact ⟨x, it, v, y, pd, rfl, rfl, rfl, rfl, h1, fun d hd => .inl hd⟩
    | succ j =>
      obtain ⟨x2, it2, v2, y2, pd2, q1, q2, q3, q4, q5, q6⟩ := ih _ _ _ _ _ _ _ j o' h2 (by simpa using hj)
      refine ⟨x2, it2, v2, y2, pd2, q1, q2, q3, q4, q5, fun d hd => ?_⟩
      rcases q6 d hd with e | ⟨j0, o0, x0, p1, p2, p3, p4⟩
      · cases it with
        | none => exact .inl e
        | some z =>
          rcases List.mem_cons.1 e with e | e
          · have hdst : ∃ d0, o.dst = some d0 := by
              cases h1 with
              | base hs hi => cases hi
              | made hs => cases hs with
                | run _ _ _ _ _ _ _ e => cases e
                | skip _ _ _ _ _ _ _ _ e => cases e
                | made _ d0 hd0 => exact ⟨d0, hd0⟩
              | put _ _ hi => cases hi
            obtain ⟨d0, hd0⟩ := hdst
            rw [hd0] at e
            exact .inr ⟨0, o, z, by omega, rfl, by rw [hd0, e]; rfl, rfl⟩
          · exact .inl e
      · exact .inr ⟨j0 + 1, o0, x0, by omega, by simpa using p2, p3, by simpa using p4⟩
end

theorem quiet_not {E : Env} {h : Hint} {o : Oper} (hq : quietB E h o = true) : madeB h o = false ∧ putB o = false := by
  unfold quietB at hq
  unfold madeB putB
  cases hop : o.op <;> rw [hop] at hq <;> simp_all

/-! What the check says: of a region, or of all its operations but the last. -/
structure DrawOK (E : Env) (h : Hint) (all pre : List Oper) : Prop where
  quiet : pre.all (fun o => quietB E h o || madeB h o || putB o) = true
  below : ∀ i o, pre[i]? = some o → ∀ e ∈ o.after, Region.binds .any e = true → e.on < i
  one : ∀ (i j : Nat) (oi oj : Oper) (t : Nat), pre[i]? = some oi → pre[j]? = some oj → oi.dst = some t → oj.dst = some t → i = j
  order : ∀ (i j : Nat) (oi oj : Oper) (t : Nat), pre[i]? = some oi → pre[j]? = some oj → i ≠ j → oj.dst = some t → t ∈ readsOf all oi → edgeTo oi j = true ∨ edgeTo oj i = true
  puts : ∀ (i j : Nat) (oi oj : Oper), pre[i]? = some oi → pre[j]? = some oj → i ≠ j → putB oi = true → putB oj = true → (putAt oi).1 = (putAt oj).1 → edgeTo oi j = true ∨ edgeTo oj i = true

theorem memN_of : ∀ {l : List Nat} {i : Nat}, i ∈ l → memN l i = true := memN_mem

theorem drawChk_spec {all : List Oper} {i : Nat} {oi : Oper} : ∀ (l : List Oper) (m : Nat), drawChk all i oi m l = true → ∀ j oj, l[j]? = some oj → m + j ≠ i → pairOK all i oi (m + j) oj = true ∧ putPair i oi (m + j) oj = true := by
  intro l
  induction l with
  | nil => intro m _ j oj hj; simp at hj
  | cons o l ih =>
    intro m hc j oj hj hne
    simp only [drawChk, Bool.and_eq_true] at hc
    cases j with
    | zero =>
      obtain rfl : o = oj := by simpa using hj
      have : Nat.beq m i = false := by
        cases hb : Nat.beq m i with
        | true => exact absurd (beqN hb) (by simpa using hne)
        | false => rfl
      rw [this] at hc
      exact (by simpa using hc.1 : pairOK all i oi m o = true ∧ putPair i oi m o = true)
    | succ j =>
      have := ih (m + 1) hc.2 j oj (by simpa using hj) (by omega)
      rwa [Nat.add_assoc, Nat.add_comm 1 j] at this

theorem drawAll_spec {E : Env} {h : Hint} {all : List Oper} : ∀ (l : List Oper) (m : Nat), drawAll E h all m l = true → ∀ i o, l[i]? = some o → (quietB E h o || madeB h o || putB o) = true ∧ edgesBelow o (m + i) = true ∧ drawChk all (m + i) o 0 all = true := by
  intro l
  induction l with
  | nil => intro m _ i o hi; simp at hi
  | cons o l ih =>
    intro m hc i o' hi
    simp only [drawAll, Bool.and_eq_true] at hc
    cases i with
    | zero => obtain rfl : o = o' := by simpa using hi
              exact ⟨hc.1.1.1, hc.1.1.2, hc.1.2⟩
    | succ i =>
      have := ih (m + 1) hc.2 i o' (by simpa using hi)
      rwa [Nat.add_assoc, Nat.add_comm 1 i] at this

theorem isDst_iff {d : Nat} {x : Option Nat} : isDst d x = true ↔ x = some d := by
  cases x with
  | none => simp [isDst]
  | some e =>
    simp only [isDst, Option.some.injEq]
    exact ⟨beqN, fun e => by subst e; exact Nat.beq_refl _⟩

theorem drawAll_ok {E : Env} {h : Hint} {all pre rest : List Oper} (hp0 : all = pre ++ rest) (hc : drawAll E h all 0 pre = true) : DrawOK E h all pre := by
  have hs := drawAll_spec pre 0 hc
  have up : ∀ {i : Nat} {o : Oper}, pre[i]? = some o → all[i]? = some o := by
    intro i o hi
    rw [hp0, List.getElem?_append_left (List.getElem?_eq_some_iff.1 hi).1]; exact hi
  simp only [Nat.zero_add] at hs
  have hp2 : ∀ i j oi oj, pre[i]? = some oi → pre[j]? = some oj → i ≠ j → pairOK all i oi j oj = true ∧ putPair i oi j oj = true := by
    intro i j oi oj hi hj hne
    have := drawChk_spec all 0 (hs i oi hi).2.2 j oj (up hj) (by simpa using Ne.symm hne)
    simpa using this
  have hp : ∀ i j oi oj, pre[i]? = some oi → pre[j]? = some oj → i ≠ j → pairOK all i oi j oj = true := fun i j oi oj hi hj hne => (hp2 i j oi oj hi hj hne).1
  refine ⟨?_, ?_, ?_, ?_, ?_⟩
  · rw [List.all_eq_true]
    intro o ho
    obtain ⟨i, hi⟩ := List.mem_iff_getElem?.1 ho
    exact (hs i o hi).1
  · intro i o hi e he hb
    have h1 := (hs i o hi).2.1
    unfold edgesBelow at h1
    have h2 := List.all_eq_true.1 h1 e (Array.mem_toList_iff.2 he)
    rw [hb] at h2
    exact bltN (by simpa using h2)
  · intro i j oi oj t hi hj h1 h2
    refine Classical.byContradiction fun hne => ?_
    have h3 := hp i j oi oj hi hj hne
    unfold pairOK at h3
    rw [h2] at h3
    simp only [Bool.and_eq_true] at h3
    have h4 : isDst t oi.dst = true := isDst_iff.2 h1
    rw [h4] at h3
    simp at h3
  · intro i j oi oj t hi hj hne h1 h2
    have h3 := hp i j oi oj hi hj hne
    unfold pairOK at h3
    rw [h1] at h3
    simp only [Bool.and_eq_true] at h3
    have h4 := h3.2
    rw [memN_of h2] at h4
    simpa using h4
  · intro i j oi oj hi hj hne h1 h2 h3
    have h4 := (hp2 i j oi oj hi hj hne).2
    unfold putPair at h4
    rw [h1, h2, h3, Nat.beq_refl] at h4
    simpa using h4

theorem edgeTo_spec {o : Oper} {j : Nat} (h : edgeTo o j = true) : ∃ e ∈ o.after, Region.binds .any e = true ∧ e.on = j := by
  unfold edgeTo at h
  obtain ⟨e, he, h1⟩ := List.any_eq_true.1 h
  obtain ⟨h1, h2⟩ := and2 h1
  exact ⟨e, Array.mem_toList_iff.1 he, h1, beqN h2⟩

theorem memN_in' : ∀ {l : List Nat} {i : Nat}, memN l i = true → i ∈ l := by
  intro l
  induction l with
  | nil => intro i h; cases h
  | cons j l ih =>
    intro i h
    simp only [memN] at h
    cases hb : Nat.beq j i with
    | true => rw [beqN hb]; exact List.mem_cons_self
    | false => rw [hb] at h; exact List.mem_cons_of_mem _ (ih h)
theorem anc_listed {all : List Oper} {L : Nat → Prop} (hcl : ∀ j, L j → ∀ m ∈ edgesAt all j, L m) : ∀ (n : Nat) (S : List Nat), (∀ j ∈ S, L j) → ∀ j ∈ ancL all n S, L j := by
  intro n
  induction n with
  | zero => intro S h; exact h
  | succ i ih =>
    intro S h
    simp only [ancL]
    refine ih _ ?_
    cases hm : memN S i with
    | false => exact h
    | true =>
      intro j hj
      rcases List.mem_append.1 hj with hj | hj
      · exact hcl i (h i (memN_in' hm)) j hj
      · exact h j hj
theorem allIn_spec {S : List Nat} : ∀ (n : Nat), allIn S n = true → ∀ j, j < n → j ∈ S := by
  intro n
  induction n with
  | zero => intro _ j hj; omega
  | succ i ih =>
    intro h j hj
    simp only [allIn] at h
    obtain ⟨h1, h2⟩ := and2 h
    by_cases e : j = i
    · subst e; exact memN_in' h1
    · exact ih h2 j (by omega)
theorem bindsL_spec {o : Oper} {m : Nat} : m ∈ bindsL o ↔ ∃ e ∈ o.after, Region.binds .any e = true ∧ e.on = m := by
  unfold bindsL
  simp only [List.mem_map, List.mem_filter, Array.mem_toList_iff]
  constructor
  · rintro ⟨e, ⟨h1, h2⟩, h3⟩; exact ⟨e, h1, h2, h3⟩
  · rintro ⟨e, h1, h2, h3⟩; exact ⟨e, ⟨h1, h2⟩, h3⟩

/-! What is forgotten where ways meet. -/
theorem hget_take {m : Nat} : ∀ {H : Heap} {id : Nat}, id < m → hget (H.take m) id = hget H id := by
  intro H
  induction H generalizing m with
  | nil => intro id _; simp
  | cons x l ih =>
    intro id h
    cases m with
    | zero => omega
    | succ m =>
      cases id with
      | zero => rfl
      | succ id => simp only [List.take_succ_cons, hget]; exact ih (by omega)

section
variable {w w' : World} {U U' : Nat → Prop} {β β' : Nat → Blk} {H H' : Heap} {m : Nat}

theorem LocAt.take {id : Nat} {ix : Bool} {post : List Nat} {i b off : Nat} (hm : id < m) (h : LocAt β H id ix post i b off) : LocAt β (H.take m) id ix post i b off := by
  obtain ⟨h0, h1, h2⟩ := h
  refine ⟨by simp; omega, h1, ?_⟩
  cases ix with
  | true => simp only at h2 ⊢; rw [hget_take hm]; exact h2
  | false => simp only at h2 ⊢; rw [hget_take hm]; exact h2

theorem EncM.take : ∀ (t : Ty) (md : Bool) (x : t.den) (l : List Value), refsBelow m t = true → EncM w U β H md t x l → EncM w U β (H.take m) md t x l := by
  intro t
  induction t with
  | list e ih =>
    intro md x l ha h
    cases md <;> simp only [EncM] at h ⊢
    obtain ⟨A, c, rfl, h0, h1⟩ := h
    refine ⟨A, c, rfl, h0, fun hp => ?_⟩
    obtain ⟨b, off, rfl, hU, h2⟩ := h1 hp
    refine ⟨b, off, rfl, hU, fun i hi => ?_⟩
    obtain ⟨cs, h3, h4⟩ := h2 i hi
    exact ⟨cs, ih false _ _ ha h3, h4⟩
  | xls e ih =>
    intro md x l ha h
    cases md <;> simp only [EncM] at h ⊢
    obtain ⟨A, c, rfl, h0, h1⟩ := h
    refine ⟨A, c, rfl, h0, fun hp => ?_⟩
    obtain ⟨b, off, rfl, hU, h2⟩ := h1 hp
    refine ⟨b, off, rfl, hU, fun i hi => ?_⟩
    obtain ⟨cs, h3, h4⟩ := h2 i hi
    exact ⟨cs, ih false _ _ ha h3, h4⟩
  | hl r ih =>
    intro md x l ha h
    cases md <;> simp only [EncM] at h ⊢
    obtain ⟨b, off, c, vs, rfl, h0, hU, h1, h2, h3⟩ := h
    exact ⟨b, off, c, vs, rfl, h0, hU, ih true _ _ ha h1, h2, h3⟩
  | arr n e ih =>
    intro md x l ha h
    cases md <;> simp only [EncM] at h ⊢
    exact ⟨h.1, h.2.1, h.2.2.1, fun i hi => ih false _ _ ha (h.2.2.2 i hi)⟩
  | scons a r iha ihr =>
    intro md x l ha h
    simp only [refsBelow, Bool.and_eq_true] at ha
    cases md <;> simp only [EncM] at h ⊢
    · obtain ⟨l1, l2, rfl, h1, h2⟩ := h
      exact ⟨l1, l2, rfl, iha false _ _ ha.1 h1, ihr false _ _ ha.2 h2⟩
    · obtain ⟨v, l2, rfl, h1, h2⟩ := h
      exact ⟨v, l2, rfl, h1.imp id fun h => ⟨h.1, iha false _ _ ha.1 h.2⟩, ihr true _ _ ha.2 h2⟩
  | tup r ih =>
    intro md x l ha h
    cases md <;> simp only [EncM] at h ⊢
    obtain ⟨vs, rfl, h⟩ := h
    exact ⟨vs, rfl, ih true _ _ ha h⟩
  | ref t ih =>
    intro md x l ha h
    cases md <;> simp only [EncM] at h ⊢
    obtain ⟨b, off, cs, rfl, hU, h1, h2⟩ := h
    exact ⟨b, off, cs, rfl, hU, ih false _ _ ha h1, h2⟩
  | fn f c ih =>
    intro md x l ha h
    cases md <;> simp only [EncM] at h ⊢
    obtain ⟨vs, rfl, h⟩ := h
    exact ⟨vs, rfl, ih true _ _ ha h⟩
  | iface t v ih =>
    intro md x l ha h
    cases md <;> simp only [EncM] at h ⊢
    obtain ⟨y, rfl, h1, h2⟩ := h
    exact ⟨y, rfl, h1, ih false _ _ ha h2⟩
  | loc id ix post =>
    intro md x l ha h
    cases md <;> simp only [EncM] at h ⊢
    obtain ⟨b, off, rfl, h⟩ := h
    exact ⟨b, off, rfl, h.take (bltN ha)⟩
  | selfp id T =>
    intro md x l ha h
    have hi := bltN ha
    cases md <;> simp only [EncM] at h ⊢
    obtain ⟨h0, h1, h2, h3⟩ := h
    exact ⟨by simp; omega, by rw [hget_take hi]; exact h1, h2, h3⟩
  | bm f c ih =>
    intro md x l ha h
    cases md <;> simp only [EncM] at h ⊢
    obtain ⟨vs, rfl, h⟩ := h
    exact ⟨vs, rfl, ih true _ _ ha h⟩
  | mapp id =>
    intro md x l ha h
    have hi := bltN ha
    cases md <;> simp only [EncM] at h ⊢
    obtain ⟨h0, h1, h2⟩ := h
    exact ⟨by simp; omega, by rw [hget_take hi]; exact h1, h2⟩
  | slw id =>
    intro md x l ha h
    have hi := bltN ha
    cases md <;> simp only [EncM] at h ⊢
    obtain ⟨e, xs, h0, h1, rfl⟩ := h
    exact ⟨e, xs, by simp; omega, by rw [hget_take hi]; exact h1, rfl⟩
  | slv id =>
    intro md x l ha h
    have hi := bltN ha
    cases md <;> simp only [EncM] at h ⊢
    obtain ⟨e, xs, A, c, h0, h1, h2⟩ := h
    exact ⟨e, xs, A, c, by simp; omega, by rw [hget_take hi]; exact h1, h2⟩
  | _ => intro md x l ha h; cases md <;> simp only [EncM] at h ⊢ <;> exact h

theorem EncV.take {x : TV} {v : Value} (ha : refsBelow m x.t = true) (h : EncV w U β H x v) : EncV w U β (H.take m) x v :=
  h.imp id fun h => ⟨h.1, h.2.take _ _ _ _ ha⟩

theorem hget_mem : ∀ {H : Heap} {id : Nat}, id < H.length → hget H id ∈ H := by
  intro H
  induction H with
  | nil => intro id h; simp at h
  | cons x l ih =>
    intro id h
    cases id with
    | zero => exact List.mem_cons_self
    | succ id => exact List.mem_cons_of_mem _ (ih (by simpa using h))

theorem gcOK_mem {l : List TV} {x : TV} (h : gcOK m l = true) (hx : x ∈ l) : refsBelow m x.t = true := List.all_eq_true.1 h x hx

theorem ObjAt.take {B id : Nat} (hi : id < m) (hr : refsBelow m (hget H id).t = true) (h : ObjAt w U β H B id) : ObjAt w U β (H.take m) B id := by
  unfold ObjAt at h ⊢
  rw [hget_take hi]
  generalize hget H id = z at *
  obtain ⟨t, v⟩ := z
  cases t with
  | row e =>
    obtain ⟨hp, h⟩ := h
    refine ⟨hp, ?_⟩
    rcases h with h | ⟨b, arr, el, fr, h1, h2, h3, h4, h5, h6, h7, h8⟩
    · exact .inl h
    · refine .inr ⟨b, arr, el, fr, h1, h2, h3, h4, h5, h6, h7, fun i hi => ?_⟩
      obtain ⟨cs, h9, h10⟩ := h8 i hi
      exact ⟨cs, h9.take _ _ _ _ hr, h10⟩
  | iter => exact h
  | mobj K V =>
    obtain ⟨hk, hv, b, es, clock, h1, h2, h3, h4, h5, h6⟩ := h
    refine ⟨hk, hv, b, es, clock, h1, h2, h3, h4, h5, fun i hi => ?_⟩
    obtain ⟨en, e1, e2, e3⟩ := h6 i hi
    exact ⟨en, e1, .inr (e2.resolve_left (by cases K <;> simp_all [Ty.isUnk, Ty.elem, Ty.pure]) |>.imp_right fun h => h.pure_any _ _ _ _ (elem_pure hk)), .inr (e3.resolve_left (by cases V <;> simp_all [Ty.isUnk, Ty.elem, Ty.pure]) |>.imp_right fun h => h.pure_any _ _ _ _ (elem_pure hv))⟩
  | _ =>
    obtain ⟨b, cs, el, fr, h1, h2, h3, h4, h5, h6, h7⟩ := h
    exact ⟨b, cs, el, fr, h1, h2, h3, h4, h5, h6.take _ _ _ _ hr, h7⟩

theorem WRel.take {S : Base} (h : WRel S U β H w) (hg : gcOK m (H.take m) = true) : WRel S U β (H.take m) w := by
  have hl : ∀ {id}, id < (H.take m).length → id < m ∧ id < H.length := fun {id} h => by simp at h; omega
  refine ⟨⟨fun id hi => ?_, fun id id' b hi hi' => h.heap.inj id id' b (hl hi).2 (hl hi').2⟩, h.below, h.uin, h.uold, fun g x hx => ?_⟩
  · have := gcOK_mem hg (hget_mem hi)
    rw [hget_take (hl hi).1] at this
    exact (h.heap.obj id (hl hi).2).take (hl hi).1 this
  · rcases h.globs g x hx with e | ⟨e1, e2, e3⟩
    · exact .inl e
    · exact .inr ⟨e1, e2, ⟨e3.enc.pure_any _ _ _ _ e1, e3.whole⟩⟩

theorem Adv.take {H0 : Heap} {w0 : World} {U0 : Nat → Prop} {β0 : Nat → Blk} {app A : List Nat} (hA : Adv w0 U0 β0 H0 w U β H app) (hm : H0.length ≤ m) (hs : ∀ id, id < H0.length → id ∈ app → id ∈ A) : Adv w0 U0 β0 H0 w U β (H.take m) A where
  use := hA.use
  same := hA.same
  len := by have := hA.len; simp; omega
  row id e xs hl he := by
    obtain ⟨xs', h1, h2⟩ := hA.row id e xs hl he
    exact ⟨xs', by rw [hget_take (by omega)]; exact h1, fun hn => h2 fun hi => hn (hs id hl hi)⟩
  box id hl hn := by rw [hget_take (by omega)]; exact hA.box id hl hn
  keep b hb hu hn := ⟨(hA.keep b hb hu hn).1, (hA.keep b hb hu hn).2.1, fun id hi => (hA.keep b hb hu hn).2.2 id (by simp at hi; omega)⟩

end
end Go.Dp
