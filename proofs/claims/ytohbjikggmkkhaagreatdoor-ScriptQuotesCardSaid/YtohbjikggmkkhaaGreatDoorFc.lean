/-
  A part of the proof's own groundwork: a small machine beside the model, and that what it computes the model computes. No condition.
-/
import Derived.Test.YtohbjikggmkkhaaGreatDoorFb
import Derived.Scope
import Derived.Lib.Bytealg
import Derived.Lib.AsciiSet
import Derived.Lib.Join
import Derived.Lib.ItoaNum
import Derived.Lib.ItoaMem
import Derived.Lib.Repeat
import Derived.Lib.LaidTab
import Derived.ChangeSlices
import Derived.ChangeArms
import Derived.Carry
import Derived.OpenShut
import GoSem.ClaimJoined
import GoSem.ClaimGoes
/- Every operation. -/
set_option autoImplicit false
set_option linter.unusedVariables false
set_option linter.unusedSimpArgs false
namespace Go.Dp
open Go.RowKit

section
variable {S : Base} {n : Nat} {U : Nat → Prop} {β : Nat → Blk} {s : St} {a : Act} {w w' : World} {α : Type} {k : St → Option α} {r : α} {h : Hint} {Q : Exit → Act → World → Prop} {o : Oper} {call : CallT α}

theorem noObj {H : Heap} {X : TV} {v : Value} (hx : EncV w U β H X v) : X.t.isObj = false := by
  rcases hx with hx | ⟨_, hx⟩
  · obtain ⟨t, x⟩ := X
    cases t <;> simp_all [Ty.isUnk, Ty.isObj]
  · obtain ⟨t, x⟩ := X
    cases t <;> first | rfl | simp [EncM] at hx

theorem blt0 {m : Nat} (h : Nat.blt 0 m = true) : m ≠ 0 := by have := bltN h; omega

theorem pick_ok (hn : h.n = n) (hR : FRel S n U β s a w) {c x y : Operand} (hop : o.op = .pick c x y)
    (hk : asB (ev S.E s 0 c) (pickC h s o.dst (ev S.E s o.type x) (ev S.E s o.type y) k) = some r) : o.wp S.P a w (Handed S n U β s w k r) Q := by
  have hc := hR.ev 0 c
  have hx := hR.ev o.type x
  have hy := hR.ev o.type y
  generalize ev S.E s 0 c = C at hc hk
  obtain ⟨C, b⟩ := C
  cases C <;> first | (simp [asB] at hk; done) | skip
  change Bool at b
  have hc := hc.bool
  simp only [asB, pickC] at hk
  have hrun : (execOp a.eval o).run S.P w = .ok (.value (if b then a.eval x else a.eval y)) w := by
    simp [execOp, hop, hc, asBool]
  split at hk
  · rename_i x' y' e1 e2
    rw [e1] at hx
    rw [e2] at hy
    refine value_ok hn hR hrun (x := ⟨.bool, bif b then x' else y'⟩) ?_ hk
    cases b
    · simpa using hy
    · simpa using hx
  · cases b
    · exact value_ok hn hR hrun (by simpa using hy) (by simpa using hk)
    · exact value_ok hn hR hrun (by simpa using hx) (by simpa using hk)

theorem nilCheck_ok (hn : h.n = n) (hR : FRel S n U β s a w) {x : Operand} (hop : o.op = .nilCheck x)
    (hk : nilC h s o.dst (ev S.E s o.type x) k = some r) : o.wp S.P a w (Handed S n U β s w k r) Q := by
  have hx := hR.ev o.type x
  generalize ev S.E s o.type x = X at hx hk
  obtain ⟨t, v⟩ := X
  cases t <;> first | (simp [nilC] at hk; done) | skip
  · have hm := hx.one rfl rfl
    simp only [EncM] at hm
    obtain ⟨b, off, cs, e, _⟩ := hm
    have e := (List.cons.inj e).1
    exact value_ok hn hR (by simp [execOp, hop, e]) (e ▸ hx) hk
  · have hm := hx.one rfl rfl
    simp only [EncM] at hm
    obtain ⟨vs, e, _⟩ := hm
    have e := (List.cons.inj e).1
    exact value_ok hn hR (by simp [execOp, hop, e]) (e ▸ hx) hk
  · have hm := hx.one rfl rfl
    simp only [EncM] at hm
    obtain ⟨vs, e, _⟩ := hm
    have e := (List.cons.inj e).1
    exact value_ok hn hR (by simp [execOp, hop, e]) (e ▸ hx) hk
  · have hm := hx.one rfl rfl
    simp only [EncM] at hm
    obtain ⟨f, _, e⟩ := hm
    have e := (List.cons.inj e).1
    exact value_ok hn hR (by simp [execOp, hop, e]) (e ▸ hx) hk
  · have hm := hx.one rfl rfl
    simp only [EncM] at hm
    obtain ⟨b, off, e, _⟩ := hm
    have e := (List.cons.inj e).1
    exact value_ok hn hR (by simp [execOp, hop, e]) (e ▸ hx) hk

theorem chGet_ok {H : Heap} : ∀ (R : Ty) (x : R.den) (vs : List Value) (i : Nat), EncM w U β H true R x vs → i < chLen R → ∃ v, vs[i]? = some v ∧ EncV w U β H (chGet R x i) v := by
  intro R
  induction R with
  | scons a b iha ihb =>
    intro x vs i h hi
    simp only [EncM] at h
    obtain ⟨v, l2, rfl, h1, h2⟩ := h
    cases i with
    | zero => exact ⟨v, rfl, h1⟩
    | succ i => exact ihb x.2 l2 i h2 (by simpa [chLen] using hi)
  | _ => intro x vs i h hi; simp [chLen] at hi

theorem extract_ok (hn : h.n = n) (hR : FRel S n U β s a w) {x : Operand} {i : Nat} (hop : o.op = .extract x i)
    (hk : extractC h s o.dst (ev S.E s 0 x) i k = some r) : o.wp S.P a w (Handed S n U β s w k r) Q := by
  have hx := hR.ev 0 x
  generalize ev S.E s 0 x = X at hx hk
  obtain ⟨t, v⟩ := X
  cases t <;> first | (simp [extractC] at hk; done) | skip
  simp only [extractC] at hk
  obtain ⟨h1, hk⟩ := bif_some hk
  have hm := hx.one rfl rfl
  simp only [EncM] at hm
  obtain ⟨vs, e, hc⟩ := hm
  have e := (List.cons.inj e).1
  obtain ⟨u, hu, he⟩ := chGet_ok _ _ _ i hc (bltN h1)
  exact value_ok hn hR (v := u) (by
    have hu : vs[i]? = some u := by simpa using hu
    simp [execOp, hop, e, Instr.extract, hu]) he hk

theorem chMk_true {H : Heap} : ∀ (l : List TV) (vs : List Value), l.length = vs.length → (∀ i (h : i < l.length) (h' : i < vs.length), EncV w U β H l[i] vs[i]) → EncM w U β H true (chMk l).t (chMk l).v vs :=
  fun l vs h1 h2 => chMk_chain _ vs h1 h2

theorem makeFunc_ok (hn : h.n = n) (hR : FRel S n U β s a w) {f : FuncId} {first caps : Array Operand} (hop : o.op = .makeFunc (.func f) first caps)
    (hk : (bif first.isEmpty then putC h s o.dst ⟨.fn f (chMk (evL0 S.E s caps.toList)).t, (chMk (evL0 S.E s caps.toList)).v⟩ k else bif caps.isEmpty then putC h s o.dst ⟨.bm f (chMk (evL0 S.E s first.toList)).t, (chMk (evL0 S.E s first.toList)).v⟩ k else none) = some r) : o.wp S.P a w (Handed S n U β s w k r) Q := by
  cases h1 : first.isEmpty with
  | false =>
    rw [h1, cond_false] at hk
    obtain ⟨h4, hk⟩ := bif_some hk
    obtain ⟨h2, h3⟩ := evL0_ok hR first.toList
    have hf : caps = #[] := by simpa using h4
    refine value_ok hn hR (v := .func (.func f) (first.map a.eval) #[]) (by simp [execOp, hop, Instr.makeFunc, hf]) (.inr ⟨rfl, ?_⟩) hk
    simp only [EncM, Value.cells]
    exact ⟨_, rfl, chMk_true _ _ (by simp [h2]) (by simpa using h3)⟩
  | true =>
  rw [h1, cond_true] at hk
  obtain ⟨h2, h3⟩ := evL0_ok hR caps.toList
  have hf : first = #[] := by simpa using h1
  refine value_ok hn hR (v := .func (.func f) #[] (caps.map a.eval)) (by simp [execOp, hop, Instr.makeFunc, hf]) (.inr ⟨rfl, ?_⟩) hk
  simp only [EncM, Value.cells]
  exact ⟨_, rfl, chMk_true _ _ (by simp [h2]) (by simpa using h3)⟩

/-- An empty row of one's own. -/
theorem emptyRow (hR : FRel S n U β s a w) {e : Ty} (he : e.elem = true) :
    FRel S n U (setB β s.heap.length ⟨none, 0⟩) ⟨s.regs, s.heap ++ [⟨.row e, []⟩], s.app⟩ a w ∧ Adv w U β s.heap w U (setB β s.heap.length ⟨none, 0⟩) (s.heap ++ [⟨.row e, []⟩]) s.app := by
  have hb : Below w.heap.size w w := Below.refl _ _
  refine ⟨hR.push hb (fun b e => by cases e) ?_, Adv.push hR.wrel.uin hb _ _ (fun b e => by cases e)⟩
  unfold ObjAt
  rw [hget_append_at]
  exact ⟨he, .inl ⟨by simp [setB], by simp [setB], rfl⟩⟩

theorem slw_empty (hR : FRel S n U β s a w) {e : Ty} : EncV w U (setB β s.heap.length ⟨none, 0⟩) (s.heap ++ [⟨.row e, []⟩]) ⟨.slw s.heap.length, ()⟩ (.slice none 0 0) := by
  refine .inr ⟨rfl, ?_⟩
  simp only [EncM, Value.cells]
  exact ⟨e, [], by simp, hget_append_at, by simp [setB]⟩

theorem assign_ok (hn : h.n = n) (hR : FRel S n U β s a w) {x : Operand} (hop : o.op = .assign x)
    (hk : (bif h.isOwn o.dst && isNilS x then
      (match (tiOf S.E o.type).ty with
       | .list e => bif !e.elem then none else putC h ⟨s.regs, s.heap ++ [⟨.row e, []⟩], s.app⟩ o.dst ⟨.slw s.heap.length, ()⟩ k
       | _ => none)
    else putC h s o.dst (ev S.E s o.type x) k) = some r) : o.wp S.P a w (Handed S n U β s w k r) Q := by
  cases hb : h.isOwn o.dst && isNilS x with
  | false =>
    rw [hb] at hk
    exact value_ok hn hR (by simp [execOp, hop]) (hR.ev o.type x) hk
  | true =>
    rw [hb] at hk
    simp only [cond_true] at hk
    split at hk
    · rename_i e he
      obtain ⟨h1, hk⟩ := bif_none hk
      have hx : x = .const (.slice none 0 0) := by
        have := (and2 hb).2
        unfold isNilS at this
        split at this
        · rfl
        · cases this
      subst hx
      obtain ⟨h2, h3⟩ := emptyRow hR (e := e) (by simpa using h1)
      unfold Oper.wp
      have hrun : (execOp a.eval o).run S.P w = .ok (.value (.slice none 0 0)) w := by simp [execOp, hop, Act.eval]
      rw [hrun]
      exact putC_ok hn h2 (slw_empty hR) h3 (fun _ _ h => h) hk
    · cases hk

theorem allocAny_ok (hT : TIok S.P S.E) (hn : h.n = n) (hR : FRel S n U β s a w) {e : TypeId} (hop : o.op = .alloc e)
    (hk : (bif (h.isOwn o.dst) then
        (match (tiOf S.E e).ty with
         | .list a => bif !(a.elem && Nat.beq (tiOf S.E e).size 1 && !(tiOf S.E e).ty.isAgg) then none else
           putC h ⟨s.regs, (s.heap ++ [⟨.row a, []⟩]) ++ [⟨.slw s.heap.length, ()⟩], s.app⟩ o.dst ⟨.loc (s.heap.length + 1) false [], (0 : Nat)⟩ k
         | _ => none)
      else bif Nat.beq (tiOf S.E e).ty.csize (tiOf S.E e).size && (tiOf S.E e).ty.zOK then putC h ⟨s.regs, s.heap ++ [⟨(tiOf S.E e).ty, (tiOf S.E e).ty.dflt⟩], s.app⟩ o.dst ⟨.loc s.heap.length false [], (0 : Nat)⟩ k else none) = some r) :
    o.wp S.P a w (Handed S n U β s w k r) Q := by
  cases hb : h.isOwn o.dst with
  | false =>
    rw [hb] at hk
    simp only [cond_false] at hk
    obtain ⟨h1, hk⟩ := bif_some hk
    obtain ⟨h1, h2⟩ := and2 h1
    exact alloc_ok hT hn hR hop (beqN h1) h2 ((hT.known e).resolve_right fun e => by rw [e] at h2; cases h2) hk
  | true =>
    rw [hb] at hk
    simp only [cond_true] at hk
    split at hk
    · rename_i T hT'
      obtain ⟨h1, hk⟩ := bif_none hk
      have h1 : (T.elem && Nat.beq (tiOf S.E e).size 1 && !(tiOf S.E e).ty.isAgg) = true := by simpa using h1
      obtain ⟨h1, h2, _⟩ := and3 h1
      obtain ⟨info, d, hK⟩ := hT.known_size (t := e) (by rw [beqN h2]; simp)
      obtain ⟨h3, h4⟩ := emptyRow hR (e := T) h1
      have hz : (tiOf S.E e).ty.zOK = true := by rw [hT']; exact elem_pure h1
      have hlen : s.heap.length + 1 = (s.heap ++ [(⟨.row T, []⟩ : TV)]).length := by simp
      rw [hlen] at hk
      have hrun : (execOp a.eval o).run S.P w = .ok (.value (.pointer (some ⟨w.heap.size, 0, none⟩))) (w.alloc (.cells (Value.slice none 0 0).cells e)) := by
        have hzv : zval (tiOf S.E e).ty = .slice none 0 0 := by rw [hT']; rfl
        simp only [execOp, hop, Instr.alloc, zeroValue, Sem.run_bind, hK.runT, Result.andThen_ok, hK.zero hz, hzv, Sem.run_pure, run_newVar]
      have hs := new_ok (s := ⟨s.regs, s.heap ++ [⟨.row T, []⟩], s.app⟩) (Q := Q) (o := o) hn h3 (slw_empty hR) rfl rfl hrun hk
      exact Oper.wp_mono (fun a' w' hh => Handed.after (s1 := ⟨s.regs, s.heap ++ [⟨.row T, []⟩], s.app⟩) h4 (fun _ _ h => h) hh) hs
    · cases hk

theorem boxAny_ok (hn : h.n = n) (hR : FRel S n U β s a w) {e : TypeId} {x : Operand} (hop : o.op = .box e x)
    (hk : (bif (h.isImm o.dst) then
        (bif (ev S.E s e x).t.pure && !(ev S.E s e x).t.isUnk then putC h s o.dst ⟨.ref (ev S.E s e x).t, (ev S.E s e x).v⟩ k else none)
      else bif (ev S.E s e x).t.isUnk then none else putC h ⟨s.regs, s.heap ++ [ev S.E s e x], s.app⟩ o.dst ⟨.loc s.heap.length false [], (0 : Nat)⟩ k) = some r) :
    o.wp S.P a w (Handed S n U β s w k r) Q := by
  cases hb : h.isImm o.dst with
  | true =>
    rw [hb] at hk
    obtain ⟨h1, hk⟩ := bif_some hk
    obtain ⟨h1, h2⟩ := and2 h1
    exact boxImm_ok hn hR hop (by simpa using h2) h1 hk
  | false =>
    rw [hb] at hk
    obtain ⟨h1, hk⟩ := bif_none hk
    exact box_ok hn hR hop h1 (noObj (hR.ev e x)) hk

theorem range_any_ok (hT : TIok S.P S.E) (hn : h.n = n) (hR : FRel S n U β s a w) {t : TypeId} {x : Operand} (hop : o.op = .range t x)
    (hk : (match (tiOf S.E t).td, ev S.E s t x with
    | .str, ⟨.str, b⟩ => putC h ⟨s.regs, s.heap ++ [⟨.iter, (b, 0)⟩], s.app⟩ o.dst ⟨.loc s.heap.length false [], (0 : Nat)⟩ k
    | _, _ => none) = some r) : o.wp S.P a w (Handed S n U β s w k r) Q := by
  split at hk
  · rename_i b h1 h2
    exact range_ok hT hn hR hop h1 h2 hk
  · cases hk

/-- An operation that only computes, by what it runs. -/
theorem val_ok {M : Sem Value} (hn : h.n = n) (hR : FRel S n U β s a w) (hrun : (execOp a.eval o).run S.P w = (M.run S.P w).andThen fun v w => .ok (.value v) w)
    (h : ∃ z v, putC h s o.dst z k = some r ∧ EncV w U β s.heap z v ∧ M.run S.P w = .ok v w) : o.wp S.P a w (Handed S n U β s w k r) Q := by
  obtain ⟨z, v, h1, h2, h3⟩ := h
  exact value_ok hn hR (by rw [hrun, h3]; rfl) h2 h1

theorem optEv (hR : FRel S n U β s a w) (x : Option Operand) : OptV w U β s.heap (x.map (ev S.E s 0)) (x.map a.eval) := by
  cases x with
  | none => exact ⟨fun x h => (by cases h), fun _ => rfl⟩
  | some x => exact ⟨fun y h => (by cases h; exact ⟨_, rfl, hR.ev 0 x⟩), fun h => (by cases h)⟩

theorem run_v {P : Program} {w : World} (M : Sem Value) : (do pure (Next.value (← M)) : Sem Next).run P w = (M.run P w).andThen fun v w => .ok (.value v) w := by
  simp only [Sem.run_bind, Sem.run_pure]

theorem buildOwn_ok (hT : TIok S.P S.E) (hn : h.n = n) (hR : FRel S n U β s a w) {t : TypeId} {ps : Array (Nat × Operand)} (hop : o.op = .build t ps) (hk : buildOwnC S.E h s o.dst t ps.toList k = some r) : o.wp S.P a w (Handed S n U β s w k r) Q := by
  unfold buildOwnC at hk
  split at hk
  · rename_i e he
    obtain ⟨h1, hk⟩ := bif_none hk
    have h1' : e.elem = true ∧ Nat.blt (ownF ps.toList 0 (tiOf S.E t).ty) (chLen (tiOf S.E t).ty) = true := by simpa using h1
    obtain ⟨h2, h3⟩ := emptyRow hR h1'.1
    have hs := (slw_empty hR (e := e)).resolve_left (by simp [Ty.isUnk])
    obtain ⟨z, v, g1, g2, g3⟩ := buildC_ok hT h2 hk (fun q1 q2 => ⟨chSet_agg _ _ _ _ (bltN h1'.2), own_init hs.2 _ _ q2 (bltN h1'.2) he⟩)
    have eq1 : (ps.toList.map fun (i, x) => (i, a.eval x)).toArray = ps.map fun (i, x) => (i, a.eval x) := by apply Array.ext'; simp
    rw [eq1] at g3
    unfold Oper.wp
    have hrun : (execOp a.eval o).run S.P w = .ok (.value v) w := by simp only [execOp, hop, run_v, Sem.run_bind, g3, Result.andThen_ok, Sem.run_pure]
    rw [hrun]
    exact putC_ok (s1 := ⟨s.regs, s.heap ++ [⟨.row e, []⟩], s.app⟩) hn h2 g2 h3 (fun _ _ h => h) g1
  · cases hk

theorem call_len_ok (hT : TIok S.P S.E) (hn : h.n = n) (hR : FRel S n U β s a w) {x : Operand} {t : TypeId} (hop : o.op = .call { callee := .builtin .len, args := #[x], argTypes := #[t] })
    (hk : lenC (tiOf S.E t).td s (ev S.E s t x) (fun v => putC h s o.dst v k) = some r) : o.wp S.P a w (Handed S n U β s w k r) Q := by
  obtain ⟨z, v, h1, h2, h3⟩ := lenC_ok (P := S.P) hT (hR.ev t x) hk
  refine value_ok hn hR (v := v) ?_ h2 h1
  simp [execOp, hop, resolve, invoke, builtin, h3]

theorem call_minmax_ok (hn : h.n = n) (hR : FRel S n U β s a w) (mx : Bool) {c : Call} (hop : o.op = .call c) (hc : c.callee = .builtin (bif mx then .max else .min)) {x : TV} {l : List TV}
    (hl : c.args.toList.length = c.argTypes.toList.length) (he : evL S.E s c.args.toList c.argTypes.toList = x :: l)
    (hk : minMaxC mx x l (fun v => putC h s o.dst v k) = some r) : o.wp S.P a w (Handed S n U β s w k r) Q := by
  obtain ⟨h1, h2⟩ := evL_ok hR c.args.toList c.argTypes.toList hl
  rw [he] at h1
  cases hargs : c.args.toList with
  | nil => rw [hargs] at h1; simp at h1
  | cons y ys =>
    rw [hargs] at h1
    have h3 : ∀ i (h : i < (x :: l).length) (h' : i < ((y :: ys).map a.eval).length), EncV w U β s.heap (x :: l)[i] ((y :: ys).map a.eval)[i] := by rw [← he, ← hargs]; exact h2
    obtain ⟨z, v, g1, g2, g3⟩ := minMaxC_ok (P := S.P) (s := s) mx l (ys.map a.eval) x (a.eval y) (by simpa using h1)
      (fun i hi hi' => by
        have := h3 (i + 1) (by simpa using hi) (by simpa using hi')
        simpa using this)
      (by have := h3 0 (by simp) (by simp); simpa using this) hk
    refine value_ok hn hR (v := v) ?_ g2 g1
    have hm : (c.args.map a.eval).toList = a.eval y :: ys.map a.eval := by simp [hargs]
    cases mx
    · simp only [execOp, hop, resolve, hc, cond_false, invoke, builtin, Builtin.min_, hm, Sem.run_bind, Sem.run_pure, Result.andThen_ok]
      simp only [cond_false] at g3
      rw [g3]; rfl
    · simp only [execOp, hop, resolve, hc, cond_true, invoke, builtin, Builtin.max_, hm, Sem.run_bind, Sem.run_pure, Result.andThen_ok]
      simp only [cond_true] at g3
      rw [g3]; rfl

theorem op_sound (hT : TIok S.P S.E) (hS : SpecsOK S.P S.E) (hC : CallSound S call) (hn : h.n = n) (hR : FRel S n U β s a w) (hk : opC S.E h call o s k = some r) : o.wp S.P a w (Handed S n U β s w k r) Q := by
  have hH := hR.wrel.heap
  unfold opC at hk
  cases hop : o.op with
  | move x => rw [hop] at hk; exact value_ok hn hR (by simp [execOp, hop]) (hR.ev o.type x) hk
  | assign x => rw [hop] at hk; exact assign_ok hn hR hop hk
  | pick c x y => rw [hop] at hk; exact pick_ok hn hR hop hk
  | alloc e => rw [hop] at hk; exact allocAny_ok hT hn hR hop hk
  | box e x => rw [hop] at hk; exact boxAny_ok hn hR hop hk
  | build t ps =>
    rw [hop] at hk
    cases ho : h.isOwn o.dst with
    | true => rw [ho] at hk; exact buildOwn_ok hT hn hR hop hk
    | false =>
    rw [ho] at hk
    simp only [cond_false] at hk
    refine val_ok hn hR (by simp only [execOp, hop, run_v]) (M := Instr.build t (ps.map fun (i, x) => (i, a.eval x))) ?_
    obtain ⟨z, v, h1, h2, h3⟩ := buildC_ok hT hR hk (fun h1 h2 => ⟨h1, zcells_ok _ h2⟩)
    have e : (ps.toList.map fun (i, x) => (i, a.eval x)).toArray = ps.map fun (i, x) => (i, a.eval x) := by apply Array.ext'; simp
    rw [e] at h3
    exact ⟨z, v, h1, h2, h3⟩
  | buildSlice t len ps => rw [hop] at hk; exact buildSliceC_ok hT hn hR hop hk
  | makeSlice t x y => rw [hop] at hk; exact makeSliceC_ok hT hn hR hop hk
  | load t x => rw [hop] at hk; exact val_ok hn hR (by simp only [execOp, hop, run_v]) (loadC_ok hT hH (hR.ev 0 x) hk)
  | store t x y => rw [hop] at hk; exact storeC_ok hT hn hR hop hk
  | nilCheck x => rw [hop] at hk; exact nilCheck_ok hn hR hop hk
  | binOp op xt x y yt =>
    rw [hop] at hk
    obtain ⟨h1, hk⟩ := bif_some hk
    obtain ⟨info, d, hK⟩ := hT.known_size (blt0 h1)
    cases g2 : (ev S.E s xt x).t.isAgg with
    | true =>
      rw [g2, cond_true] at hk
      obtain ⟨z, v, h2, h3, h4⟩ := eqC_ok hT g2 (hR.ev xt x) (hR.ev yt y) hk
      refine value_ok hn hR (v := v) ?_ h3 h2
      simp only [execOp, hop, run_v, h4 x y]
      rfl
    | false =>
    rw [g2, cond_false] at hk
    obtain ⟨z, v, h2, h3, h4⟩ := binC_ok (P := S.P) (hR.ev xt x) (hR.ev yt y) hk
    refine value_ok hn hR (v := v) ?_ h3 h2
    simp only [execOp, hop, run_v, h4 xt x y d hK.und hK.td]
    rfl
  | unOp op t x => rw [hop] at hk; exact val_ok hn hR (by simp only [execOp, hop, run_v]) (unC_ok (hR.ev t x) hk)
  | convert src dst x => rw [hop] at hk; exact convC_ok hT hn hR hop hk
  | makeFunc f first caps =>
    rw [hop] at hk
    cases f with
    | func f => exact makeFunc_ok hn hR hop hk
    | _ => cases hk
  | slice t x lo hi mx =>
    rw [hop] at hk
    cases mx with
    | some m => cases hk
    | none =>
      simp only at hk
      split at hk
      · rename_i htd
        split at hk
        · rename_i b hb
          have hx := hR.ev t x
          rw [hb] at hx
          obtain ⟨l, u, v, h1, h2, h3⟩ := sliceStr_ok (P := S.P) hT htd hx (optEv hR lo) (optEv hR hi) hk
          exact val_ok hn hR (by simp only [execOp, hop, run_v, Option.map_none]) ⟨_, v, h1, h2, h3⟩
        · cases hk
      · rename_i e htd
        obtain ⟨h1, hk⟩ := bif_some hk
        exact val_ok hn hR (by simp only [execOp, hop, run_v, Option.map_none]) (sliceC_ok hT hH htd (hT.known_size (blt0 h1)) (hR.ev t x) (optEv hR lo) (optEv hR hi) hk)
      · cases hk
  | fieldAddr t x f => rw [hop] at hk; exact val_ok hn hR (by simp only [execOp, hop, run_v]) (fieldAddrC_ok hT (hR.ev 0 x) hk)
  | field t x f => rw [hop] at hk; exact val_ok hn hR (by simp only [execOp, hop, run_v]) (fieldC_ok hT (hR.ev t x) hk)
  | indexAddr t x i =>
    rw [hop] at hk
    simp only at hk
    split at hk
    · rename_i e htd
      obtain ⟨h1, hk⟩ := bif_some hk
      exact val_ok hn hR (by simp only [execOp, hop, run_v]) (indexAddrC_ok hT hH htd (hR.ev t x) (hR.ev 0 i) hk (hT.known_size (blt0 h1)))
    · rename_i m e htd
      obtain ⟨h1, hk⟩ := bif_some hk
      exact val_ok hn hR (by simp only [execOp, hop, run_v]) (elemAddrC_ok hT htd (hR.ev t x) (hR.ev 0 i) hk (hT.known_size (blt0 h1)))
    · cases hk
  | index t x i =>
    rw [hop] at hk
    refine val_ok hn hR (by simp only [execOp, hop, run_v]) (indexC_ok hT (e := match (tiOf S.E t).td with | .arr _ e => e | _ => 0) (fun m e' h => by rw [h]) (hR.ev t x) (hR.ev 0 i) hk)
  | extract x i => rw [hop] at hk; exact extract_ok hn hR hop hk
  | range t x => rw [hop] at hk; exact range_any_ok hT hn hR hop hk
  | makeMap t m =>
    rw [hop] at hk
    cases m with
    | none => exact makeMapC_ok hn hR hop hk
    | some m => cases hk
  | lookup t x i ok => rw [hop] at hk; exact lookupC_ok hT hn hR hop hk
  | mapUpdate t x i y => rw [hop] at hk; exact mapUpdateC_ok hT hn hR hop hk
  | next it b =>
    rw [hop] at hk
    cases b with
    | true => exact next_ok hn hR hop hk
    | false => cases hk
  | call c =>
    rw [hop] at hk
    obtain ⟨callee, args, argTypes⟩ := c
    simp only at hk
    cases callee with
    | invoke x m => cases hk
    | value f =>
      obtain ⟨h1, hk⟩ := bif_some hk
      exact callC_ok hS hC hn hR hop rfl (beqN h1) hk
    | builtin b =>
      cases b with
      | len =>
        simp only at hk
        split at hk
        · rename_i x t e1 e2
          have e1 : args = #[x] := by apply Array.ext'; simpa using e1
          have e2 : argTypes = #[t] := by apply Array.ext'; simpa using e2
          subst e1; subst e2
          exact call_len_ok hT hn hR hop hk
        · cases hk
      | append =>
        simp only at hk
        split at hk
        · rename_i x y t u e1 e2
          have e1 : args = #[x, y] := by apply Array.ext'; simpa using e1
          have e2 : argTypes = #[t, u] := by apply Array.ext'; simpa using e2
          subst e1; subst e2
          exact appendC_ok hT hn hR hop hk
        · cases hk
      | min =>
        obtain ⟨h1, hk⟩ := bif_some hk
        split at hk
        · rename_i x l e
          exact call_minmax_ok hn hR false hop rfl (beqN h1) e hk
        · cases hk
      | max =>
        obtain ⟨h1, hk⟩ := bif_some hk
        split at hk
        · rename_i x l e
          exact call_minmax_ok hn hR true hop rfl (beqN h1) e hk
        · cases hk
      | _ => cases hk
  | _ => rw [hop] at hk; cases hk
end
end Go.Dp
/- Regions in the order of the text. -/
set_option autoImplicit false
set_option linter.unusedVariables false
set_option linter.unusedSimpArgs false
namespace Go.Dp
open Go.RowKit

section
variable {S : Base} {n : Nat} {U : Nat → Prop} {β : Nat → Blk} {s : St} {a : Act} {w w' : World} {α : Type} {r : α} {h : Hint} {Q : Exit → Act → World → Prop} {o : Oper} {call : CallT α}

theorem asB_some {x : TV} {k : Bool → Option α} (h : asB x k = some r) : ∃ b, x = ⟨.bool, b⟩ ∧ k b = some r := by
  obtain ⟨t, v⟩ := x
  cases t <;> first | (simp [asB] at h; done) | exact ⟨v, rfl, h⟩

theorem get_set (s : St) (g : Nat) (x : TV) (i : Nat) : (s.set g x).get i = bif Nat.beq g i then x else s.get i := rfl

theorem guardC_some {x : TV} {kb : Bool → Option α} {ku : Option α} (h : guardC x kb ku = some r) : (∃ b, x = ⟨.bool, b⟩ ∧ kb b = some r) ∨ (x = .undef ∧ ku = some r) := by
  unfold guardC at h
  split at h
  · exact .inl ⟨_, rfl, h⟩
  · exact .inr ⟨rfl, h⟩
  · cases h

theorem EncV.und {w : World} {U : Nat → Prop} {β : Nat → Blk} {H : Heap} : EncV w U β H .undef undef := .inr ⟨rfl, by simp [EncM, Value.cells, undef]⟩

theorem EncV.of_und {w : World} {U : Nat → Prop} {β : Nat → Blk} {H : Heap} {v : Value} (h : EncV w U β H .undef v) : v = .tuple #[] := by
  have hm := h.one rfl rfl
  simp only [EncM] at hm
  obtain ⟨vs, e, hc⟩ := hm
  rw [(List.cons.inj e).1]
  congr 1
  exact Array.ext' hc

theorem FRel.refine (hR : FRel S n U β s a w) {g : Nat} {x : TV} (hg : s.get g = x) : FRel S n U β (s.set g x) a w :=
  ⟨hR.defers, hR.size, fun i => by
    rw [get_set]
    cases hb : Nat.beq g i with
    | true => obtain rfl := beqN hb; subst hg; exact hR.regs g
    | false => exact hR.regs i, hR.wrel⟩

theorem getD_bool {xs : Array Value} {g : Nat} {b : Bool} (h : xs.getD g undef = .bool b) : xs[g]? = some (.bool b) := by
  rw [Array.getD_eq_getD_getElem?] at h
  cases hx : xs[g]? with
  | none => rw [hx] at h; cases h
  | some v => rw [hx] at h; simpa using h

theorem yields_ok (hR : FRel S n U β s a w) {all : List Oper} {j g : Nat} {b : Bool} (hd : dstOf all j = some g) (hb : s.get g = ⟨.bool, b⟩) : yielded all.toArray a.tmps j = some b := by
  have h1 := hR.regs g
  rw [hb] at h1
  have h2 := getD_bool h1.bool
  unfold yielded
  have h3 : ((all.toArray[j]?).bind (·.dst)) = some g := by simpa [dstOf] using hd
  rw [h3]
  simp [h2]

theorem yields_none (hR : FRel S n U β s a w) {all : List Oper} {j g : Nat} (hd : dstOf all j = some g) (hb : s.get g = .undef) : yielded all.toArray a.tmps j = none := by
  have h1 := hR.regs g
  rw [hb] at h1
  have h2 := h1.of_und
  unfold yielded
  have h3 : ((all.toArray[j]?).bind (·.dst)) = some g := by simpa [dstOf] using hd
  rw [h3]
  rw [Array.getD_eq_getD_getElem?] at h2
  cases hx : a.tmps[g]? with
  | none => simp [hx]
  | some v => rw [hx] at h2; simp only [Option.getD_some] at h2; subst h2; simp [hx]

theorem wanted_undef {o : Oper} {y : Nat → Option Bool} {j : Nat} {want : Bool} (h : o.guard = some (j, want)) (hy : y j = none) : Region.wanted o y = false := by
  simp only [Region.wanted, h, hy]
  rfl

theorem wanted_none {o : Oper} {y : Nat → Option Bool} (h : o.guard = none) : Region.wanted o y = true := by simp [Region.wanted, h]
theorem wanted_some {o : Oper} {y : Nat → Option Bool} {j : Nat} {want b : Bool} (h : o.guard = some (j, want)) (hy : y j = some b) : Region.wanted o y = bif want then b else !b := by
  simp only [Region.wanted, h, hy]
  cases b <;> cases want <;> rfl

/-- Forgetting what was handed on of a refined state. -/
theorem Handed.refined {g : Nat} {x : TV} {k : St → Option α} (h : Handed S n U β (s.set g x) w k r a w') : Handed S n U β s w k r a w' := ⟨h.out⟩

theorem ops_sound (hT : TIok S.P S.E) (hS : SpecsOK S.P S.E) (hC : CallSound S call) (hn : h.n = n) {all : List Oper} {k : St → Option α} : ∀ (l : List Oper) (U : Nat → Prop) (β : Nat → Blk) (s : St) (a : Act) (w : World), FRel S n U β s a w → opsC S.E h call all l s k = some r →
    (∀ a' w', Handed S n U β s w k r a' w' → Q .normal a' w') → wpList S.P all.toArray Q l a w := by
  intro l
  induction l with
  | nil => intro U β s a w hR hk hq; exact hq _ _ ⟨s, U, β, hk, hR, Adv.refl _ _ _ _ _, fun _ _ h => h⟩
  | cons o l ih =>
    intro U β s a w hR hk hq
    -- what follows, from what is handed on
    have next : ∀ {K : Act → World → Prop}, (∀ a w, wpList S.P all.toArray Q l a w → K a w) → ∀ a' w', Handed S n U β s w (fun s => opsC S.E h call all l s k) r a' w' → K a' w' := by
      intro K hK a' w' hh
      obtain ⟨s', U', β', h1, h2, h3, h4⟩ := hh.out
      exact hK _ _ (ih U' β' s' a' w' h2 h1 fun a'' w'' hh' => hq _ _ (hh'.after h3 h4))
    refine wpList_step fun K hK => ?_
    unfold opsC at hk
    split at hk
    · rename_i hg
      rw [if_pos (wanted_none hg)]
      exact Oper.wp_mono (next hK) (op_sound hT hS hC hn hR hk)
    · rename_i j want hg
      split at hk
      · rename_i g hd
        rcases guardC_some hk with ⟨b, hb, hk⟩ | ⟨hb, hk⟩
        case inr =>
          rw [wanted_undef hg (yields_none hR hd hb), if_neg (by simp)]
          exact next hK _ _ (putC_ok hn hR EncV.und (Adv.refl _ _ _ _ _) (fun _ _ h => h) hk)
        rw [wanted_some hg (yields_ok hR hd hb)]
        cases hw : (bif want then b else !b) with
        | true =>
          rw [hw] at hk
          rw [if_pos rfl]
          have e : b = want := by cases want <;> cases b <;> simp_all
          subst e
          exact Oper.wp_mono (fun a' w' hh => next hK a' w' hh.refined) (op_sound hT hS hC hn (hR.refine hb) hk)
        | false =>
          rw [hw] at hk
          rw [if_neg (by simp)]
          have e : b = !want := by cases want <;> cases b <;> simp_all
          subst e
          exact next hK _ _ (Handed.refined (putC_ok hn (hR.refine hb) EncV.und (Adv.refl _ _ _ _ _) (fun _ _ h => h) hk))
      · cases hk
end
end Go.Dp
/- What an operation comes to does not hang on what follows. -/
set_option autoImplicit false
set_option linter.unusedVariables false
set_option linter.unusedSimpArgs false
namespace Go.Dp
open Go.RowKit

section
variable {E : Env} {s : St} {α γ : Type} {r : α} {h : Hint} {k : TV → Option α}

theorem unC_det {op : UnOp} {x : TV} (H : unC op x k = some r) : ∃ z, k z = some r ∧ ∀ k' : TV → Option γ, unC op x k' = k' z := by
  unfold unC at H ⊢
  split at H <;> (first | (cases H; done) | (refine ⟨_, H, fun k' => ?_⟩ <;> first | rfl | (simp only [*]; done) | (simp [*]; done)) | (obtain ⟨g1, H⟩ := bif_some H; refine ⟨_, H, fun k' => ?_⟩ <;> first | (simp only [*, cond_true, cond_false]; done) | (simp [*]; done)) | (obtain ⟨g1, H⟩ := bif_none H; refine ⟨_, H, fun k' => ?_⟩ <;> first | (simp only [*, cond_true, cond_false]; done) | (simp [*]; done)) | (obtain ⟨g1, H⟩ := bif_some H; obtain ⟨g2, H⟩ := bif_some H; refine ⟨_, H, fun k' => ?_⟩ <;> first | (simp only [*, cond_true, cond_false]; done) | (simp [*]; done)))

theorem indexC_det {td : TD} {sz : Nat} {agg : Bool} {x i : TV} (H : indexC td sz agg x i k = some r) : ∃ z, k z = some r ∧ ∀ k' : TV → Option γ, indexC td sz agg x i k' = k' z := by
  unfold indexC at H ⊢
  split at H <;> (try split at H) <;> (first | (cases H; done) | (refine ⟨_, H, fun k' => ?_⟩ <;> first | rfl | (simp only [*]; done) | (simp [*]; done)) | (obtain ⟨g1, H⟩ := bif_some H; refine ⟨_, H, fun k' => ?_⟩ <;> first | (simp only [*, cond_true, cond_false]; done) | (simp [*]; done)) | (obtain ⟨g1, H⟩ := bif_none H; refine ⟨_, H, fun k' => ?_⟩ <;> first | (simp only [*, cond_true, cond_false]; done) | (simp [*]; done)) | (obtain ⟨g1, H⟩ := bif_some H; obtain ⟨g2, H⟩ := bif_some H; refine ⟨_, H, fun k' => ?_⟩ <;> first | (simp only [*, cond_true, cond_false]; done) | (simp [*]; done)))

theorem indexAddrC_det {sz : Nat} {x i : TV} (H : indexAddrC s sz x i k = some r) : ∃ z, k z = some r ∧ ∀ k' : TV → Option γ, indexAddrC s sz x i k' = k' z := by
  unfold indexAddrC at H ⊢
  split at H
  · (first | (cases H; done) | (refine ⟨_, H, fun k' => ?_⟩ <;> first | rfl | (simp only [*]; done) | (simp [*]; done)) | (obtain ⟨g1, H⟩ := bif_some H; refine ⟨_, H, fun k' => ?_⟩ <;> first | (simp only [*, cond_true, cond_false]; done) | (simp [*]; done)) | (obtain ⟨g1, H⟩ := bif_none H; refine ⟨_, H, fun k' => ?_⟩ <;> first | (simp only [*, cond_true, cond_false]; done) | (simp [*]; done)) | (obtain ⟨g1, H⟩ := bif_some H; obtain ⟨g2, H⟩ := bif_some H; refine ⟨_, H, fun k' => ?_⟩ <;> first | (simp only [*, cond_true, cond_false]; done) | (simp [*]; done)))
  · obtain ⟨g1, H⟩ := bif_some H
    obtain ⟨g2, H⟩ := bif_some H
    obtain ⟨g3, H⟩ := bif_none H
    exact ⟨_, H, fun k' => by simp only [g1, g2, g3, cond_true, cond_false]⟩
  · split at H <;> (first | (cases H; done) | (refine ⟨_, H, fun k' => ?_⟩ <;> first | rfl | (simp only [*]; done) | (simp [*]; done)) | (obtain ⟨g1, H⟩ := bif_some H; refine ⟨_, H, fun k' => ?_⟩ <;> first | (simp only [*, cond_true, cond_false]; done) | (simp [*]; done)) | (obtain ⟨g1, H⟩ := bif_none H; refine ⟨_, H, fun k' => ?_⟩ <;> first | (simp only [*, cond_true, cond_false]; done) | (simp [*]; done)) | (obtain ⟨g1, H⟩ := bif_some H; obtain ⟨g2, H⟩ := bif_some H; refine ⟨_, H, fun k' => ?_⟩ <;> first | (simp only [*, cond_true, cond_false]; done) | (simp [*]; done)))
  · split at H <;> (first | (cases H; done) | (refine ⟨_, H, fun k' => ?_⟩ <;> first | rfl | (simp only [*]; done) | (simp [*]; done)) | (obtain ⟨g1, H⟩ := bif_some H; refine ⟨_, H, fun k' => ?_⟩ <;> first | (simp only [*, cond_true, cond_false]; done) | (simp [*]; done)) | (obtain ⟨g1, H⟩ := bif_none H; refine ⟨_, H, fun k' => ?_⟩ <;> first | (simp only [*, cond_true, cond_false]; done) | (simp [*]; done)) | (obtain ⟨g1, H⟩ := bif_some H; obtain ⟨g2, H⟩ := bif_some H; refine ⟨_, H, fun k' => ?_⟩ <;> first | (simp only [*, cond_true, cond_false]; done) | (simp [*]; done)))
  · (first | (cases H; done) | (refine ⟨_, H, fun k' => ?_⟩ <;> first | rfl | (simp only [*]; done) | (simp [*]; done)) | (obtain ⟨g1, H⟩ := bif_some H; refine ⟨_, H, fun k' => ?_⟩ <;> first | (simp only [*, cond_true, cond_false]; done) | (simp [*]; done)) | (obtain ⟨g1, H⟩ := bif_none H; refine ⟨_, H, fun k' => ?_⟩ <;> first | (simp only [*, cond_true, cond_false]; done) | (simp [*]; done)) | (obtain ⟨g1, H⟩ := bif_some H; obtain ⟨g2, H⟩ := bif_some H; refine ⟨_, H, fun k' => ?_⟩ <;> first | (simp only [*, cond_true, cond_false]; done) | (simp [*]; done)))

theorem indexArrC_det {n sz : Nat} {x i : TV} (H : indexArrC n sz x i k = some r) : ∃ z, k z = some r ∧ ∀ k' : TV → Option γ, indexArrC n sz x i k' = k' z := by
  unfold indexArrC at H ⊢
  split at H <;> (first | (cases H; done) | (refine ⟨_, H, fun k' => ?_⟩ <;> first | rfl | (simp only [*]; done) | (simp [*]; done)) | (obtain ⟨g1, H⟩ := bif_some H; refine ⟨_, H, fun k' => ?_⟩ <;> first | (simp only [*, cond_true, cond_false]; done) | (simp [*]; done)) | (obtain ⟨g1, H⟩ := bif_none H; refine ⟨_, H, fun k' => ?_⟩ <;> first | (simp only [*, cond_true, cond_false]; done) | (simp [*]; done)) | (obtain ⟨g1, H⟩ := bif_some H; obtain ⟨g2, H⟩ := bif_some H; refine ⟨_, H, fun k' => ?_⟩ <;> first | (simp only [*, cond_true, cond_false]; done) | (simp [*]; done)))

theorem boundsC_det {n : Nat} {lo hi : Option TV} {k : Nat → Nat → Option α} (H : boundsC n lo hi k = some r) : ∃ l u, k l u = some r ∧ ∀ k' : Nat → Nat → Option γ, boundsC n lo hi k' = k' l u := by
  unfold boundsC at H ⊢
  split at H
  · exact ⟨_, _, H, fun k' => rfl⟩
  · obtain ⟨g1, H⟩ := bif_some H
    exact ⟨_, _, H, fun k' => by simp only [g1, cond_true]⟩
  · obtain ⟨g1, H⟩ := bif_some H
    exact ⟨_, _, H, fun k' => by simp only [g1, cond_true]⟩
  · obtain ⟨g1, H⟩ := bif_some H
    obtain ⟨g2, H⟩ := bif_some H
    exact ⟨_, _, H, fun k' => by simp only [g1, g2, cond_true]⟩
  · cases H

theorem sliceC_det {sz : Nat} {x : TV} {lo hi : Option TV} (H : sliceC s sz x lo hi k = some r) : ∃ z, k z = some r ∧ ∀ k' : TV → Option γ, sliceC s sz x lo hi k' = k' z := by
  unfold sliceC at H ⊢
  split at H
  · obtain ⟨g1, H⟩ := bif_some H
    obtain ⟨l, u, H, g⟩ := boundsC_det (γ := γ) H
    exact ⟨_, H, fun k' => by simp only [g1, cond_true, g]⟩
  · split at H
    · obtain ⟨g1, H⟩ := bif_some H
      obtain ⟨l, u, H, g⟩ := boundsC_det (γ := γ) H
      exact ⟨_, H, fun k' => by simp only [*, cond_true, g]⟩
    · cases H
  · split at H
    · obtain ⟨g1, H⟩ := bif_some H
      obtain ⟨l, u, H, g⟩ := boundsC_det (γ := γ) H
      exact ⟨_, H, fun k' => by simp only [*, cond_true, g]⟩
    · cases H
  · cases H

theorem loadC_det {t : Nat} {x : TV} (H : loadC E s t x k = some r) : ∃ z, k z = some r ∧ ∀ k' : TV → Option γ, loadC E s t x k' = k' z := by
  unfold loadC at H ⊢
  split at H <;> (try split at H) <;> (first | (cases H; done) | (refine ⟨_, H, fun k' => ?_⟩ <;> first | rfl | (simp only [*]; done) | (simp [*]; done)) | (obtain ⟨g1, H⟩ := bif_some H; refine ⟨_, H, fun k' => ?_⟩ <;> first | (simp only [*, cond_true, cond_false]; done) | (simp [*]; done)) | (obtain ⟨g1, H⟩ := bif_none H; refine ⟨_, H, fun k' => ?_⟩ <;> first | (simp only [*, cond_true, cond_false]; done) | (simp [*]; done)) | (obtain ⟨g1, H⟩ := bif_some H; obtain ⟨g2, H⟩ := bif_some H; refine ⟨_, H, fun k' => ?_⟩ <;> first | (simp only [*, cond_true, cond_false]; done) | (simp [*]; done)))

theorem fieldAddrC_det {t f : Nat} {x : TV} (H : fieldAddrC E s t x f k = some r) : ∃ z, k z = some r ∧ ∀ k' : TV → Option γ, fieldAddrC E s t x f k' = k' z := by
  unfold fieldAddrC at H ⊢
  split at H
  · split at H
    · split at H <;> (first | (cases H; done) | (refine ⟨_, H, fun k' => ?_⟩ <;> first | rfl | (simp only [*]; done) | (simp [*]; done)) | (obtain ⟨g1, H⟩ := bif_some H; refine ⟨_, H, fun k' => ?_⟩ <;> first | (simp only [*, cond_true, cond_false]; done) | (simp [*]; done)) | (obtain ⟨g1, H⟩ := bif_none H; refine ⟨_, H, fun k' => ?_⟩ <;> first | (simp only [*, cond_true, cond_false]; done) | (simp [*]; done)) | (obtain ⟨g1, H⟩ := bif_some H; obtain ⟨g2, H⟩ := bif_some H; refine ⟨_, H, fun k' => ?_⟩ <;> first | (simp only [*, cond_true, cond_false]; done) | (simp [*]; done)))
    · cases H
  · cases H

theorem fieldC_det {t f : Nat} {x : TV} (H : fieldC E t x f k = some r) : ∃ z, k z = some r ∧ ∀ k' : TV → Option γ, fieldC E t x f k' = k' z := by
  unfold fieldC at H ⊢
  split at H
  · split at H <;> (first | (cases H; done) | (refine ⟨_, H, fun k' => ?_⟩ <;> first | rfl | (simp only [*]; done) | (simp [*]; done)) | (obtain ⟨g1, H⟩ := bif_some H; refine ⟨_, H, fun k' => ?_⟩ <;> first | (simp only [*, cond_true, cond_false]; done) | (simp [*]; done)) | (obtain ⟨g1, H⟩ := bif_none H; refine ⟨_, H, fun k' => ?_⟩ <;> first | (simp only [*, cond_true, cond_false]; done) | (simp [*]; done)) | (obtain ⟨g1, H⟩ := bif_some H; obtain ⟨g2, H⟩ := bif_some H; refine ⟨_, H, fun k' => ?_⟩ <;> first | (simp only [*, cond_true, cond_false]; done) | (simp [*]; done)))
  · cases H

theorem lenC_det {td : TD} {x : TV} (H : lenC td s x k = some r) : ∃ z, k z = some r ∧ ∀ k' : TV → Option γ, lenC td s x k' = k' z := by
  unfold lenC at H ⊢
  split at H
  · split at H <;> (first | (cases H; done) | (refine ⟨_, H, fun k' => ?_⟩ <;> first | rfl | (simp only [*]; done) | (simp [*]; done)) | (obtain ⟨g1, H⟩ := bif_some H; refine ⟨_, H, fun k' => ?_⟩ <;> first | (simp only [*, cond_true, cond_false]; done) | (simp [*]; done)) | (obtain ⟨g1, H⟩ := bif_none H; refine ⟨_, H, fun k' => ?_⟩ <;> first | (simp only [*, cond_true, cond_false]; done) | (simp [*]; done)) | (obtain ⟨g1, H⟩ := bif_some H; obtain ⟨g2, H⟩ := bif_some H; refine ⟨_, H, fun k' => ?_⟩ <;> first | (simp only [*, cond_true, cond_false]; done) | (simp [*]; done)))
  · unfold lenC.lenSl at H ⊢
    split at H <;> (try split at H) <;> (first | (cases H; done) | (refine ⟨_, H, fun k' => ?_⟩ <;> first | rfl | (simp only [*]; done) | (simp [*]; done)) | (obtain ⟨g1, H⟩ := bif_some H; refine ⟨_, H, fun k' => ?_⟩ <;> first | (simp only [*, cond_true, cond_false]; done) | (simp [*]; done)) | (obtain ⟨g1, H⟩ := bif_none H; refine ⟨_, H, fun k' => ?_⟩ <;> first | (simp only [*, cond_true, cond_false]; done) | (simp [*]; done)) | (obtain ⟨g1, H⟩ := bif_some H; obtain ⟨g2, H⟩ := bif_some H; refine ⟨_, H, fun k' => ?_⟩ <;> first | (simp only [*, cond_true, cond_false]; done) | (simp [*]; done)))
  · (first | (cases H; done) | (refine ⟨_, H, fun k' => ?_⟩ <;> first | rfl | (simp only [*]; done) | (simp [*]; done)) | (obtain ⟨g1, H⟩ := bif_some H; refine ⟨_, H, fun k' => ?_⟩ <;> first | (simp only [*, cond_true, cond_false]; done) | (simp [*]; done)) | (obtain ⟨g1, H⟩ := bif_none H; refine ⟨_, H, fun k' => ?_⟩ <;> first | (simp only [*, cond_true, cond_false]; done) | (simp [*]; done)) | (obtain ⟨g1, H⟩ := bif_some H; obtain ⟨g2, H⟩ := bif_some H; refine ⟨_, H, fun k' => ?_⟩ <;> first | (simp only [*, cond_true, cond_false]; done) | (simp [*]; done)))
  · cases H

theorem minMaxC_det {mx : Bool} : ∀ (l : List TV) (x : TV), minMaxC mx x l k = some r → ∃ z, k z = some r ∧ ∀ k' : TV → Option γ, minMaxC mx x l k' = k' z := by
  intro l
  induction l with
  | nil => intro x H; unfold minMaxC at H; exact ⟨x, H, fun k' => by unfold minMaxC; rfl⟩
  | cons y l ih =>
    intro x H
    obtain ⟨T, x⟩ := x
    obtain ⟨V, y⟩ := y
    cases T <;> first | (simp [minMaxC] at H; done) | skip
    cases V <;> first | (simp [minMaxC] at H; done) | skip
    simp only [minMaxC] at H ⊢
    obtain ⟨g1, H⟩ := bif_some H
    obtain ⟨z, H, g⟩ := ih _ H
    exact ⟨z, H, fun k' => by simp only [g1, cond_true, g]⟩

theorem build_go_det {fs : List (Nat × Nat)} : ∀ (parts : List (Nat × Operand)) (T : Ty) (v : T.den), buildC.go E s k fs T v parts = some r → ∃ z, k z = some r ∧ ∀ k' : TV → Option γ, buildC.go E s k' fs T v parts = k' z := by
  intro parts
  induction parts with
  | nil => intro T v H; unfold buildC.go at H; exact ⟨_, H, fun k' => by unfold buildC.go; rfl⟩
  | cons p ps ih =>
    intro T v H
    obtain ⟨f, x⟩ := p
    unfold buildC.go at H
    split at H
    · rename_i ft off hf
      obtain ⟨g1, H⟩ := bif_some H
      obtain ⟨z, H, g⟩ := ih _ _ H
      exact ⟨z, H, fun k' => by unfold buildC.go; simp only [hf, g1, cond_true, g]⟩
    · cases H

theorem buildC_det {t : Nat} {init : TV} {parts : List (Nat × Operand)} (H : buildC E s t init parts k = some r) : ∃ z, k z = some r ∧ ∀ k' : TV → Option γ, buildC E s t init parts k' = k' z := by
  unfold buildC at H ⊢
  split at H
  · rename_i fs htd
    obtain ⟨g1, H⟩ := bif_some H
    obtain ⟨z, H, g⟩ := build_go_det (γ := γ) _ _ _ H
    exact ⟨z, H, fun k' => by simp only [g1, cond_true, g]⟩
  · rename_i m e htd
    obtain ⟨g1, H⟩ := bif_some H
    obtain ⟨z, H, g⟩ := build_go_det (γ := γ) _ _ _ H
    exact ⟨z, H, fun k' => by simp only [g1, cond_true, g]⟩
  · cases H

theorem elemAddrC_det {n sz : Nat} {x i : TV} (H : elemAddrC s n sz x i k = some r) : ∃ z, k z = some r ∧ ∀ k' : TV → Option γ, elemAddrC s n sz x i k' = k' z := by
  unfold elemAddrC at H ⊢
  split at H
  · obtain ⟨g1, H⟩ := bif_some H
    exact ⟨_, H, fun k' => by simp only [g1, cond_true]⟩
  · exact indexArrC_det H

theorem elemsC_det {e : Ty} {x : TV} {k : List e.den → Option α} (H : elemsC s e x k = some r) : ∃ z, k z = some r ∧ ∀ k' : List e.den → Option γ, elemsC s e x k' = k' z := by
  unfold elemsC at H ⊢
  repeat' split at H
  all_goals (first | (cases H; done) | (refine ⟨_, H, fun k' => ?_⟩ <;> first | rfl | (simp only [*]; done) | (simp [*]; done)) | (obtain ⟨g1, H⟩ := bif_some H; refine ⟨_, H, fun k' => ?_⟩ <;> first | (simp only [*, cond_true, cond_false]; done) | (simp [*]; done)) | (obtain ⟨g1, H⟩ := bif_none H; refine ⟨_, H, fun k' => ?_⟩ <;> first | (simp only [*, cond_true, cond_false]; done) | (simp [*]; done)) | (obtain ⟨g1, H⟩ := bif_some H; obtain ⟨g2, H⟩ := bif_some H; refine ⟨_, H, fun k' => ?_⟩ <;> first | (simp only [*, cond_true, cond_false]; done) | (simp [*]; done)))

theorem eqC_det {E : Env} {op : BinOp} {xt : Nat} {x y : TV} (H : eqC E op xt x y k = some r) : ∃ z, k z = some r ∧ ∀ k' : TV → Option γ, eqC E op xt x y k' = k' z := by
  unfold eqC at H ⊢
  obtain ⟨g1, H⟩ := bif_some H
  split at H
  · rename_i y' hc
    split at H
    · exact ⟨_, H, fun k' => by simp only [g1, cond_true, hc]⟩
    · exact ⟨_, H, fun k' => by simp only [g1, cond_true, hc]⟩
    · cases H
  · cases H

theorem binC_det {td : TD} {op : BinOp} {x y : TV} (H : binC td op x y k = some r) : ∃ z, k z = some r ∧ ∀ k' : TV → Option γ, binC td op x y k' = k' z := by
  unfold binC at H ⊢
  split at H
  · split at H
    · (first | (cases H; done) | (refine ⟨_, H, fun k' => ?_⟩ <;> first | rfl | (simp only [*]; done) | (simp [*]; done)) | (obtain ⟨g1, H⟩ := bif_some H; refine ⟨_, H, fun k' => ?_⟩ <;> first | (simp only [*, cond_true, cond_false]; done) | (simp [*]; done)) | (obtain ⟨g1, H⟩ := bif_none H; refine ⟨_, H, fun k' => ?_⟩ <;> first | (simp only [*, cond_true, cond_false]; done) | (simp [*]; done)) | (obtain ⟨g1, H⟩ := bif_some H; obtain ⟨g2, H⟩ := bif_some H; refine ⟨_, H, fun k' => ?_⟩ <;> first | (simp only [*, cond_true, cond_false]; done) | (simp [*]; done)))
    · (first | (cases H; done) | (refine ⟨_, H, fun k' => ?_⟩ <;> first | rfl | (simp only [*]; done) | (simp [*]; done)) | (obtain ⟨g1, H⟩ := bif_some H; refine ⟨_, H, fun k' => ?_⟩ <;> first | (simp only [*, cond_true, cond_false]; done) | (simp [*]; done)) | (obtain ⟨g1, H⟩ := bif_none H; refine ⟨_, H, fun k' => ?_⟩ <;> first | (simp only [*, cond_true, cond_false]; done) | (simp [*]; done)) | (obtain ⟨g1, H⟩ := bif_some H; obtain ⟨g2, H⟩ := bif_some H; refine ⟨_, H, fun k' => ?_⟩ <;> first | (simp only [*, cond_true, cond_false]; done) | (simp [*]; done)))
    · obtain ⟨g1, H⟩ := bif_some H
      split at H <;> first | (simp only [g1, cond_true]; (first | (cases H; done) | (refine ⟨_, H, fun k' => ?_⟩ <;> first | rfl | (simp only [*]; done) | (simp [*]; done)) | (obtain ⟨g1, H⟩ := bif_some H; refine ⟨_, H, fun k' => ?_⟩ <;> first | (simp only [*, cond_true, cond_false]; done) | (simp [*]; done)) | (obtain ⟨g1, H⟩ := bif_none H; refine ⟨_, H, fun k' => ?_⟩ <;> first | (simp only [*, cond_true, cond_false]; done) | (simp [*]; done)) | (obtain ⟨g1, H⟩ := bif_some H; obtain ⟨g2, H⟩ := bif_some H; refine ⟨_, H, fun k' => ?_⟩ <;> first | (simp only [*, cond_true, cond_false]; done) | (simp [*]; done)))) | cases H
  · split at H <;> (first | (cases H; done) | (refine ⟨_, H, fun k' => ?_⟩ <;> first | rfl | (simp only [*]; done) | (simp [*]; done)) | (obtain ⟨g1, H⟩ := bif_some H; refine ⟨_, H, fun k' => ?_⟩ <;> first | (simp only [*, cond_true, cond_false]; done) | (simp [*]; done)) | (obtain ⟨g1, H⟩ := bif_none H; refine ⟨_, H, fun k' => ?_⟩ <;> first | (simp only [*, cond_true, cond_false]; done) | (simp [*]; done)) | (obtain ⟨g1, H⟩ := bif_some H; obtain ⟨g2, H⟩ := bif_some H; refine ⟨_, H, fun k' => ?_⟩ <;> first | (simp only [*, cond_true, cond_false]; done) | (simp [*]; done)))
  · split at H
    · split at H <;> (first | (cases H; done) | (refine ⟨_, H, fun k' => ?_⟩ <;> first | rfl | (simp only [*]; done) | (simp [*]; done)) | (obtain ⟨g1, H⟩ := bif_some H; refine ⟨_, H, fun k' => ?_⟩ <;> first | (simp only [*, cond_true, cond_false]; done) | (simp [*]; done)) | (obtain ⟨g1, H⟩ := bif_none H; refine ⟨_, H, fun k' => ?_⟩ <;> first | (simp only [*, cond_true, cond_false]; done) | (simp [*]; done)) | (obtain ⟨g1, H⟩ := bif_some H; obtain ⟨g2, H⟩ := bif_some H; refine ⟨_, H, fun k' => ?_⟩ <;> first | (simp only [*, cond_true, cond_false]; done) | (simp [*]; done)))
    · cases H
  · cases H
end
end Go.Dp
/- Operations that only give a value. -/
set_option autoImplicit false
set_option linter.unusedVariables false
set_option linter.unusedSimpArgs false
namespace Go.Dp
open Go.RowKit

section
variable {E : Env} {s : St} {α γ : Type} {r : α} {h : Hint} {k : St → Option α} {o : Oper} {call : CallT α}

/-- What is known of such an operation, `f` being what it does with what follows. -/
def Det (h : Hint) (d : Option Nat) (s : St) (k : St → Option α) (r : α) (f : (St → Option γ) → Option γ) : Prop :=
  ∃ s1, k s1 = some r ∧ s1.heap = s.heap ∧ s1.app = s.app ∧ (∀ e, d = some e → e < h.n) ∧ ∀ k', f k' = k' s1

theorem putC_det {d : Option Nat} {z : TV} (H : putC h s d z k = some r) : Det (γ := γ) h d s k r (putC h s d z) := by
  cases d with
  | none => exact ⟨s, H, rfl, rfl, fun e he => (by cases he), fun k' => rfl⟩
  | some d =>
    simp only [putC] at H
    obtain ⟨g, H⟩ := bif_some H
    exact ⟨_, H, rfl, rfl, fun e he => (by cases he; exact bltN g), fun k' => by simp only [putC, g, cond_true]⟩

/-- A value that is then put away. -/
theorem via_det {f' : (TV → Option γ) → Option γ} {d : Option Nat} (H : ∃ z, putC h s d z k = some r ∧ ∀ k' : TV → Option γ, f' k' = k' z) :
    Det (γ := γ) h d s k r (fun k' => f' fun v => putC h s d v k') := by
  obtain ⟨z, H, g⟩ := H
  obtain ⟨s1, g1, g2, g3, g4, g5⟩ := putC_det (γ := γ) H
  exact ⟨s1, g1, g2, g3, g4, fun k' => by show f' (fun v => putC h s d v k') = _; rw [g, g5]⟩

theorem Det.congr {d : Option Nat} {f f' : (St → Option γ) → Option γ} (H : Det h d s k r f') (e : ∀ k', f k' = f' k') : Det h d s k r f := by
  obtain ⟨s1, g1, g2, g3, g4, g5⟩ := H
  exact ⟨s1, g1, g2, g3, g4, fun k' => by rw [e, g5]⟩

theorem convC_det {src dst : Nat} {x : TV} {d : Option Nat} (hd : h.isOwn d = false) (H : convC E h s d src dst x k = some r) : Det (γ := γ) h d s k r (convC E h s d src dst x) := by
  obtain ⟨T, y⟩ := x
  unfold convC at H
  split at H
  · rename_i e; cases e; split at H
    · exact (putC_det H).congr fun k' => by unfold convC; simp only [*]
    · cases H
  · rename_i e; cases e; split at H
    · exact (putC_det H).congr fun k' => by unfold convC; simp only [*]
    · cases H
  · rename_i e; cases e; split at H
    · rw [hd] at H
      exact (putC_det H).congr fun k' => by unfold convC; simp only [*, cond_false]
    · cases H
  · rename_i x' htd hx
    split at H
    · rename_i e he
      split at H
      · rename_i hu
        obtain ⟨z, H, g⟩ := elemsC_det (γ := γ) H
        refine (putC_det H).congr fun k' => ?_
        cases T with
        | str => exact absurd rfl (hx y)
        | _ => unfold convC; simp only [htd, he, hu, g]
      · cases H
    · cases H
  · cases H

theorem buildSliceC_det {t len : Nat} {parts : List (Nat × Operand)} {d : Option Nat} (hd : h.isOwn d = false) (H : buildSliceC E h s d t len parts k = some r) : Det (γ := γ) h d s k r (buildSliceC E h s d t len parts) := by
  unfold buildSliceC at H
  split at H
  · rename_i et htd
    obtain ⟨g1, H⟩ := bif_some H
    simp only at H
    split at H
    · rename_i ys hy
      obtain ⟨g2, H⟩ := bif_none H
      rw [hd] at H
      cases hfz : h.isFrz d with
      | true => rw [hfz] at H; exact (putC_det H).congr fun k' => by unfold buildSliceC; simp only [htd, g1, cond_true, hy, g2, hd, hfz, cond_false]
      | false => rw [hfz] at H; exact (putC_det H).congr fun k' => by unfold buildSliceC; simp only [htd, g1, cond_true, hy, g2, hd, hfz, cond_false]
    · rename_i hy
      split at H
      · rename_i T ys hU
        obtain ⟨g2, H⟩ := bif_some H
        exact (putC_det H).congr fun k' => by unfold buildSliceC; simp only [htd, g1, cond_true, hy, hU, g2]
      · rename_i hU
        obtain ⟨g2, H⟩ := bif_some H
        exact (putC_det H).congr fun k' => by unfold buildSliceC; simp only [htd, g1, cond_true, hy, hU, g2]
  · cases H

theorem callFn_det {d : Option Nat} {f : Nat} {args : List TV} (H : callFnC E h noCall s d f args k = some r) : Det (γ := γ) h d s k r (callFnC E h noCall s d f args) := by
  unfold callFnC at H
  split at H
  · rename_i Sp hs
    obtain ⟨g1, H⟩ := bif_some H
    split at H
    · rename_i x hx
      rw [Option.bind_eq_some_iff] at H
      obtain ⟨y, hy, H⟩ := H
      exact (putC_det H).congr fun k' => by unfold callFnC; simp only [hs, g1, cond_true, hx, hy, Option.bind_some]
    · cases H
  · cases H

theorem nilC_det {x : TV} {d : Option Nat} (H : nilC h s d x k = some r) : Det (γ := γ) h d s k r (nilC h s d x) := by
  obtain ⟨t, v⟩ := x
  cases t <;> first | (simp [nilC] at H; done) | exact (putC_det H).congr fun k' => rfl

theorem pickC_det {c x y : TV} {d : Option Nat} (H : asB c (pickC h s d x y k) = some r) : Det (γ := γ) h d s k r (fun k' => asB c (pickC h s d x y k')) := by
  obtain ⟨b, rfl, G⟩ := asB_some H
  obtain ⟨t, x⟩ := x
  obtain ⟨u, y⟩ := y
  by_cases hb : t = .bool ∧ u = .bool
  · obtain ⟨rfl, rfl⟩ := hb
    exact (putC_det G).congr fun k' => rfl
  · have key : ∀ {δ : Type} (q : St → Option δ), pickC h s d ⟨t, x⟩ ⟨u, y⟩ q b = bif b then putC h s d ⟨t, x⟩ q else putC h s d ⟨u, y⟩ q := by
      intro δ q
      unfold pickC
      split
      · rename_i x' y' e1 e2
        cases e1; cases e2
        exact absurd ⟨rfl, rfl⟩ hb
      · rfl
    rw [key] at G
    cases b
    · exact (putC_det G).congr fun k' => (by simp only [asB]; rw [key]; rfl)
    · exact (putC_det G).congr fun k' => (by simp only [asB]; rw [key]; rfl)

theorem extractC_det {x : TV} {i : Nat} {d : Option Nat} (H : extractC h s d x i k = some r) : Det (γ := γ) h d s k r (extractC h s d x i) := by
  obtain ⟨t, v⟩ := x
  cases t <;> first | (simp [extractC] at H; done) | skip
  simp only [extractC] at H
  obtain ⟨g1, H⟩ := bif_some H
  exact (putC_det H).congr fun k' => by simp only [extractC, g1, cond_true]

theorem lookupC_det {t : Nat} {x : TV} {key : Nat → TV} {ok : Bool} {k : TV → Option α} (H : lookupC E s t x key ok k = some r) : ∃ z, k z = some r ∧ ∀ k' : TV → Option γ, lookupC E s t x key ok k' = k' z := by
  unfold lookupC at H ⊢
  split at H
  · rename_i kt et id x' e1
    split at H
    · rename_i K V xs e2
      obtain ⟨g1, H⟩ := bif_some H
      split at H
      · rename_i y e3
        cases ok with
        | true => exact ⟨_, H, fun k' => by simp only [e1, e2, g1, e3, cond_true]⟩
        | false => exact ⟨_, H, fun k' => by simp only [e1, e2, g1, e3, cond_true, cond_false]⟩
      · cases H
    · cases H
  · cases H
theorem fnuC_det {δ : Type} {k : Nat → Option δ} {r : δ} : ∀ {fs : List Nat} {i0 n : Nat}, fnuC fs i0 n k = some r → ∃ f, (∀ k' : Nat → Option γ, fnuC fs i0 n k' = k' f) ∧ k f = some r := by
  intro fs
  induction fs with
  | nil => intro i0 n h; cases h
  | cons g fs ih =>
    intro i0 n h
    simp only [fnuC] at h ⊢
    cases hb : Nat.beq n i0 with
    | true => rw [hb] at h; exact ⟨g, fun k' => rfl, h⟩
    | false => rw [hb] at h; exact ih h

theorem op_det (hq : quietB E h o = true) (H : opC E h noCall o s k = some r) : Det (γ := γ) h o.dst s k r (opC E h noCall o s) := by
  unfold quietB at hq
  unfold opC at H
  cases hop : o.op with
  | move x => rw [hop] at H; exact (putC_det H).congr fun k' => by unfold opC; rw [hop]
  | assign x =>
    rw [hop] at H hq
    have hq : h.isOwn o.dst = false := by simpa using hq
    simp only [hq, Bool.false_and, cond_false] at H
    exact (putC_det H).congr fun k' => by unfold opC; rw [hop]; simp only [hq, Bool.false_and, cond_false]
  | pick c x y => rw [hop] at H; exact (pickC_det H).congr fun k' => by unfold opC; rw [hop]
  | box e x =>
    rw [hop] at H hq
    have hq : h.isImm o.dst = true := hq
    simp only [hq, cond_true] at H
    obtain ⟨g1, H⟩ := bif_some H
    exact (putC_det H).congr fun k' => by unfold opC; rw [hop]; simp only [hq, cond_true, g1]
  | build t ps =>
    rw [hop] at H hq
    have hq : h.isOwn o.dst = false := by simpa using hq
    simp only [hq, cond_false] at H
    exact (via_det (buildC_det H)).congr fun k' => by unfold opC; rw [hop]; simp only [hq, cond_false]
  | buildSlice t len ps =>
    rw [hop] at H hq
    have hq : h.isOwn o.dst = false := by simpa using hq
    exact (buildSliceC_det hq H).congr fun k' => by unfold opC; rw [hop]
  | load t x => rw [hop] at H; exact (via_det (loadC_det H)).congr fun k' => by unfold opC; rw [hop]
  | nilCheck x => rw [hop] at H; exact (nilC_det H).congr fun k' => by unfold opC; rw [hop]
  | binOp op xt x y yt =>
    rw [hop] at H
    obtain ⟨g1, H⟩ := bif_some H
    cases g2 : (ev E s xt x).t.isAgg with
    | true =>
      rw [g2, cond_true] at H
      exact (via_det (eqC_det H)).congr fun k' => by unfold opC; rw [hop]; simp only [g1, g2, cond_true]
    | false =>
      rw [g2, cond_false] at H
      exact (via_det (binC_det H)).congr fun k' => by unfold opC; rw [hop]; simp only [g1, g2, cond_true, cond_false]
  | unOp op t x => rw [hop] at H; exact (via_det (unC_det H)).congr fun k' => by unfold opC; rw [hop]
  | convert src dst x =>
    rw [hop] at H hq
    have hq : h.isOwn o.dst = false := by simpa using hq
    exact (convC_det hq H).congr fun k' => by unfold opC; rw [hop]
  | makeFunc f first caps =>
    rw [hop] at H
    cases f with
    | func f =>
      simp only at H
      cases g0 : first.isEmpty with
      | true => rw [g0, cond_true] at H; exact (putC_det H).congr fun k' => by unfold opC; rw [hop]; simp only [g0, cond_true]
      | false =>
        rw [g0, cond_false] at H
        obtain ⟨g1, H⟩ := bif_some H
        exact (putC_det H).congr fun k' => by unfold opC; rw [hop]; simp only [g0, g1, cond_true, cond_false]
    | _ => cases H
  | slice t x lo hi mx =>
    rw [hop] at H
    cases mx with
    | some m => cases H
    | none =>
      simp only at H
      split at H
      · rename_i htd
        split at H
        · rename_i b hb
          obtain ⟨l, u, H, g⟩ := boundsC_det (γ := γ) H
          exact (putC_det H).congr fun k' => by unfold opC; rw [hop]; simp only [htd, hb, g]
        · cases H
      · rename_i e htd
        obtain ⟨g1, H⟩ := bif_some H
        exact (via_det (sliceC_det H)).congr fun k' => by unfold opC; rw [hop]; simp only [htd, g1, cond_true]
      · cases H
  | fieldAddr t x f => rw [hop] at H; exact (via_det (fieldAddrC_det H)).congr fun k' => by unfold opC; rw [hop]
  | field t x f => rw [hop] at H; exact (via_det (fieldC_det H)).congr fun k' => by unfold opC; rw [hop]
  | indexAddr t x i =>
    rw [hop] at H
    simp only at H
    split at H
    · rename_i e htd
      obtain ⟨g1, H⟩ := bif_some H
      exact (via_det (indexAddrC_det H)).congr fun k' => by unfold opC; rw [hop]; simp only [htd, g1, cond_true]
    · rename_i m e htd
      obtain ⟨g1, H⟩ := bif_some H
      exact (via_det (elemAddrC_det H)).congr fun k' => by unfold opC; rw [hop]; simp only [htd, g1, cond_true]
    · cases H
  | index t x i => rw [hop] at H; exact (via_det (indexC_det H)).congr fun k' => by unfold opC; rw [hop]
  | lookup t x i ok => rw [hop] at H; exact (via_det (lookupC_det H)).congr fun k' => by unfold opC; rw [hop]
  | extract x i => rw [hop] at H; exact (extractC_det H).congr fun k' => by unfold opC; rw [hop]
  | call c =>
    rw [hop] at H hq
    obtain ⟨callee, args, argTypes⟩ := c
    simp only at H hq
    cases callee with
    | invoke x m => cases H
    | value f =>
      obtain ⟨g1, H⟩ := bif_some H
      unfold callC at H
      obtain ⟨hq0, hqo⟩ := and2 hq
      have hq0 : h.isFrz o.dst = false := by simpa using hq0
      have hqo : h.isOwn o.dst = false := by simpa using hqo
      split at H
      · rename_i fid fst cv hX
        rw [hq0, cond_false] at H
        exact (callFn_det H).congr fun k' => by unfold opC; rw [hop]; simp only [g1, cond_true]; unfold callC; rw [hX]; simp only [hq0, cond_false]
      · rename_i fs cv hX
        rw [hq0, cond_false] at H
        obtain ⟨fid, g3, H⟩ := fnuC_det (γ := γ) H
        exact (callFn_det H).congr fun k' => by unfold opC; rw [hop]; simp only [g1, cond_true]; unfold callC; rw [hX]; simp only [hq0, cond_false]; rw [g3]
      · rename_i fid caps cv hX
        rw [hq0, cond_false] at H
        unfold callO at H
        rw [hqo, cond_false] at H
        exact (callFn_det H).congr fun k' => by unfold opC; rw [hop]; simp only [g1, cond_true]; unfold callC; rw [hX]; simp only [hq0, cond_false]; unfold callO; rw [hqo, cond_false]
      · cases H
    | builtin b =>
      cases b with
      | len =>
        simp only at H
        split at H
        · rename_i x t e1 e2
          exact (via_det (lenC_det H)).congr fun k' => by unfold opC; rw [hop]; simp only [e1, e2]
        · cases H
      | min =>
        obtain ⟨g1, H⟩ := bif_some H
        split at H
        · rename_i x l e
          exact (via_det (minMaxC_det _ _ H)).congr fun k' => by unfold opC; rw [hop]; simp only [g1, cond_true, e]
        · cases H
      | max =>
        obtain ⟨g1, H⟩ := bif_some H
        split at H
        · rename_i x l e
          exact (via_det (minMaxC_det _ _ H)).congr fun k' => by unfold opC; rw [hop]; simp only [g1, cond_true, e]
        · cases H
      | _ => cases hq
  | _ => rw [hop] at hq; cases hq
end
end Go.Dp
/- Regions whose order is drawn: one run in the order of the text serves every order. -/
set_option autoImplicit false
set_option linter.unusedVariables false
set_option linter.unusedSimpArgs false
namespace Go.Dp
open Go.RowKit

/-! Registers after some of a region's operations. -/
def upd (f : Nat → TV) (d : Option Nat) (x : TV) (t : Nat) : TV := if d = some t then x else f t

def updL : List Oper → (Nat → TV) → List TV → (Nat → TV)
  | o :: l, f, x :: xs => updL l (upd f o.dst x) xs
  | _, f, _ => f

def after (L : Nat → Bool) : Nat → List Oper → List TV → (Nat → TV) → (Nat → TV)
  | i, o :: l, x :: xs, f => after L (i + 1) l xs (if L i then upd f o.dst x else f)
  | _, _, _, f => f

theorem after_agree {L L' : Nat → Bool} {t : Nat} : ∀ (l : List Oper) (i : Nat) (xs : List TV) (f f' : Nat → TV), f t = f' t → (∀ j o, l[j]? = some o → o.dst = some t → L (i + j) = L' (i + j)) → after L i l xs f t = after L' i l xs f' t := by
  intro l
  induction l with
  | nil => intro i xs f f' hf _; exact hf
  | cons o l ih =>
    intro i xs f f' hf h
    cases xs with
    | nil => exact hf
    | cons x xs =>
      simp only [after]
      refine ih (i + 1) xs _ _ ?_ fun j o' hj hd => by have := h (j + 1) o' (by simpa using hj) hd; rwa [Nat.add_assoc, Nat.add_comm 1 j]
      by_cases hd : o.dst = some t
      · have := h 0 o rfl hd
        simp only [Nat.add_zero] at this
        rw [this]
        cases L' i <;> simp [upd, hd, hf]
      · cases L i <;> cases L' i <;> simp [upd, hd, hf]

theorem after_skip {L : Nat → Bool} {t : Nat} : ∀ (l : List Oper) (i : Nat) (xs : List TV) (f : Nat → TV), (∀ j o, l[j]? = some o → L (i + j) = true → o.dst ≠ some t) → after L i l xs f t = f t := by
  intro l
  induction l with
  | nil => intro i xs f _; rfl
  | cons o l ih =>
    intro i xs f h
    cases xs with
    | nil => rfl
    | cons x xs =>
      simp only [after]
      rw [ih (i + 1) xs _ fun j o' hj hL => h (j + 1) o' (by simpa using hj) (by rwa [Nat.add_assoc, Nat.add_comm 1 j] at hL)]
      cases hL : L i with
      | false => rfl
      | true => simp [upd, h 0 o rfl (by simpa using hL)]

theorem after_hit {L : Nat → Bool} {t : Nat} : ∀ (l : List Oper) (i : Nat) (xs : List TV) (f : Nat → TV) (j : Nat) (o : Oper) (x : TV), l[j]? = some o → xs[j]? = some x → o.dst = some t → L (i + j) = true →
    (∀ j' o', l[j']? = some o' → j' ≠ j → o'.dst ≠ some t) → after L i l xs f t = x := by
  intro l
  induction l with
  | nil => intro i xs f j o x h; simp at h
  | cons o l ih =>
    intro i xs f j o' x' h hx hd hL hu
    cases xs with
    | nil => simp at hx
    | cons x xs =>
      simp only [after]
      cases j with
      | zero =>
        simp only [List.getElem?_cons_zero, Option.some.injEq] at h hx
        subst h; subst hx
        rw [after_skip l (i + 1) xs _ fun j o' hj _ => hu (j + 1) o' (by simpa using hj) (by omega)]
        simp only [Nat.add_zero] at hL
        simp [hL, upd, hd]
      | succ j =>
        exact ih (i + 1) xs _ j o' x' (by simpa using h) (by simpa using hx) hd (by rwa [Nat.add_assoc, Nat.add_comm 1 j]) fun j' o'' hj hne => hu (j' + 1) o'' (by simpa using hj) (by omega)

theorem after_last {L : Nat → Bool} {t : Nat} : ∀ (l : List Oper) (i : Nat) (xs : List TV) (f : Nat → TV) (j : Nat) (o : Oper) (x : TV), l[j]? = some o → xs[j]? = some x → o.dst = some t → L (i + j) = true →
    (∀ j' o', l[j']? = some o' → j < j' → L (i + j') = true → o'.dst ≠ some t) → after L i l xs f t = x := by
  intro l
  induction l with
  | nil => intro i xs f j o x h; simp at h
  | cons o l ih =>
    intro i xs f j o' x' h hx hd hL hu
    cases xs with
    | nil => simp at hx
    | cons x xs =>
      simp only [after]
      cases j with
      | zero =>
        simp only [List.getElem?_cons_zero, Option.some.injEq] at h hx
        subst h; subst hx
        rw [after_skip l (i + 1) xs _ fun j o' hj hLj => hu (j + 1) o' (by simpa using hj) (by omega) (by rwa [Nat.add_assoc, Nat.add_comm 1 j] at hLj)]
        simp only [Nat.add_zero] at hL
        simp [hL, upd, hd]
      | succ j =>
        exact ih (i + 1) xs _ j o' x' (by simpa using h) (by simpa using hx) hd (by rwa [Nat.add_assoc, Nat.add_comm 1 j]) fun j' o'' hj hlt hLj => hu (j' + 1) o'' (by simpa using hj) (by omega) (by rwa [Nat.add_assoc, Nat.add_comm 1 j'] at hLj)

theorem after_none (L : Nat → Bool) : ∀ (l : List Oper) (i : Nat) (xs : List TV) (f : Nat → TV), (∀ j, L (i + j) = false) → after L i l xs f = f := by
  intro l i xs f h
  funext t
  exact after_skip l i xs f fun j o _ hL => by rw [h j] at hL; cases hL

theorem updL_take : ∀ (l : List Oper) (i j : Nat) (xs : List TV) (f : Nat → TV), l.length = xs.length → updL (l.take j) f (xs.take j) = after (fun m => decide (m < i + j)) i l xs f := by
  intro l
  induction l with
  | nil => intro i j xs f _; simp [updL, after]
  | cons o l ih =>
    intro i j xs f hl
    cases xs with
    | nil => simp at hl
    | cons x xs =>
      cases j with
      | zero => rw [after_none]; · rfl
                intro j; simp
      | succ j =>
        simp only [List.take_succ_cons, updL, after]
        rw [ih (i + 1) j xs _ (by simpa using hl)]
        have : i + 1 + j = i + (j + 1) := by omega
        rw [this]
        simp

theorem updL_all (l : List Oper) (xs : List TV) (f : Nat → TV) (hl : l.length = xs.length) : updL l f xs = after (fun m => decide (m < l.length)) 0 l xs f := by
  have := updL_take l 0 l.length xs f hl
  simpa [hl, List.take_of_length_le] using this

/-! One operation of the region. -/
section
variable {E : Env} {h : Hint} {all : List Oper} {H : Heap}

inductive StepP (E : Env) (h : Hint) (all : List Oper) (H : Heap) (o : Oper) (f : Nat → TV) (x : TV) (it : Option TV) : Prop where
  | run (hq : quietB E h o = true) (hg : o.guard = none ∨ ∃ j want g, o.guard = some (j, want) ∧ dstOf all j = some g ∧ f g = ⟨.bool, want⟩) (s1 : St)
      (hr : opC E h noCall o ⟨maskF (opLooks o.op) f, H, []⟩ some = some s1) (hh : s1.heap = H) (ha : s1.app = []) (hd : ∀ d, o.dst = some d → d < h.n ∧ s1.get d = x) (hi : it = none)
  | skip (j : Nat) (want : Bool) (g : Nat) (hg : o.guard = some (j, want)) (hj : dstOf all j = some g) (hf : f g = ⟨.bool, !want⟩ ∨ f g = .undef) (hx : x = .undef) (hd : ∀ d, o.dst = some d → d < h.n) (hi : it = none)
  | made (hg : o.guard = none) (d : Nat) (hd : o.dst = some d) (hn : d < h.n) (hc : gcOK H.length H = true) (y : TV) (hy : objP y.t = true) (s1 : St)
      (hr : opC E h noCall o ⟨maskF (opLooks o.op) f, H, []⟩ some = some s1) (hh : s1.heap = H ++ [y]) (ha : s1.app = []) (hb : s1.get d = yOf (bOf y) H.length) (hx : x = .unk) (hi : it = some y) (hm : madeB h o = true)

def moreP (o : Oper) (it : Option TV) (pd : List Nat) : List Nat :=
  match it with
  | some _ => o.dst.getD 0 :: pd
  | none => pd
/-- With what the objects that are not counted yet hold. -/
inductive StepQ (E : Env) (h : Hint) (all : List Oper) (H : Heap) (o : Oper) (f : Nat → TV) (x : TV) (it : Option TV) (g : Nat → TV) (v : Option Nat) (y : TV) (pd : List Nat) : Prop where
  | base (hs : StepP E h all H o f x it) (hi : it = none) (hv : v = none)
  | made (hs : StepP E h all H o f x it) (hi : it = some y) (hv : v = o.dst)
  | put (hp : putB o = true) (hx : x = .unk) (hi : it = none) (hv : v = some (putAt o).1) (h1 : (f (putAt o).2).t.pure = true) (h2 : (f (putAt o).2).t.isUnk = false) (h3 : bOf (g (putAt o).1) = false) (h4 : (putAt o).2 ≠ (putAt o).1) (hpd : (putAt o).1 ∈ pd) (s1 : St)
      (hr : opC E h noCall o ⟨[((putAt o).1, yOf false 0), ((putAt o).2, f (putAt o).2)], [g (putAt o).1], []⟩ some = some s1) (hh : s1.heap = [y]) (ha : s1.app = []) (hy : objP y.t = true) (hb : bOf y = false)

def LexP (E : Env) (h : Hint) (all : List Oper) (H : Heap) : List Oper → (Nat → TV) → List TV → List (Option TV) → (Nat → TV) → List (Option Nat) → List TV → List Nat → Prop
  | [], _, xs, its, _, vs, ys, _ => xs = [] ∧ its = [] ∧ vs = [] ∧ ys = []
  | o :: l, f, xs, its, g, vs, ys, pd => ∃ x xs' it its' v vs' y ys', xs = x :: xs' ∧ its = it :: its' ∧ vs = v :: vs' ∧ ys = y :: ys' ∧ StepQ E h all H o f x it g v y pd ∧ LexP E h all H l (upd f o.dst x) xs' its' (upd g v y) vs' ys' (moreP o it pd)

def vops : List Oper → List (Option Nat) → List Oper
  | o :: l, v :: vs => { o with dst := v } :: vops l vs
  | _, _ => []

theorem set_same {s : St} {g : Nat} {x : TV} (hg : s.get g = x) : (s.set g x).get = s.get := by
  funext i
  rw [get_set]
  cases hb : Nat.beq g i with
  | true => obtain rfl := beqN hb; exact hg.symm
  | false => rfl

theorem get_set_upd (s : St) (d : Nat) (x : TV) : (s.set d x).get = upd s.get (some d) x := by
  funext i
  rw [get_set]
  unfold upd
  cases hb : Nat.beq d i with
  | true => obtain rfl := beqN hb; simp
  | false =>
    have : d ≠ i := fun e => by subst e; rw [Nat.beq_refl] at hb; cases hb
    simp [this]

variable {α : Type} {k : St → Option α} {r : α}

/-- The registers of the objects that are counted when the operations before the chain are done. -/
def pdlF : List Oper → List (Option TV) → List Nat → List Nat
  | o :: l, some _ :: its, pdl => pdlF l its (o.dst.getD 0 :: pdl)
  | _ :: l, none :: its, pdl => pdlF l its pdl
  | _, _, pdl => pdl
def withG (g : Nat → TV) (pdl : List Nat) : List (Nat × TV) := pdl.map fun d => (d, g d)
theorem findM_some {g : Nat → TV} {d : Nat} {x : TV} : ∀ {pdl : List Nat}, findM (withG g pdl) d = some x → x = g d := by
  intro pdl
  induction pdl with
  | nil => intro h; cases h
  | cons e r ih =>
    intro h
    simp only [withG, List.map_cons, findM] at h
    cases hb : Nat.beq e d with
    | true => rw [hb] at h; rw [← beqN hb]; exact (Option.some.inj h).symm
    | false => rw [hb] at h; exact ih h
theorem findM_mem {g : Nat → TV} {d : Nat} {x : TV} : ∀ {pdl : List Nat}, findM (withG g pdl) d = some x → d ∈ pdl := by
  intro pdl
  induction pdl with
  | nil => intro h; cases h
  | cons e r ih =>
    intro h
    simp only [withG, List.map_cons, findM] at h
    cases hb : Nat.beq e d with
    | true => rw [beqN hb]; exact List.mem_cons_self
    | false => rw [hb] at h; exact List.mem_cons_of_mem _ (ih h)
theorem findM_none {g : Nat → TV} {d : Nat} : ∀ {pdl : List Nat}, (findM (withG g pdl) d).isNone = true → d ∉ pdl := by
  intro pdl
  induction pdl with
  | nil => intro _ h; cases h
  | cons e r ih =>
    intro h hm
    simp only [withG, List.map_cons, findM] at h
    cases hb : Nat.beq e d with
    | true => rw [hb] at h; cases h
    | false =>
      rw [hb] at h
      rcases List.mem_cons.1 hm with hm | hm
      · subst hm; rw [Nat.beq_refl] at hb; cases hb
      · exact ih h hm
theorem withG_upd {g : Nat → TV} {d : Nat} {x : TV} {pdl : List Nat} (h : d ∉ pdl) : withG (upd g (some d) x) pdl = withG g pdl := by
  unfold withG
  apply List.map_congr_left
  intro e he
  have : d ≠ e := fun e' => h (e' ▸ he)
  simp [upd, this]
theorem setM_withG {g : Nat → TV} {d : Nat} {y : TV} : ∀ pdl : List Nat, setM d y (withG g pdl) = withG (upd g (some d) y) pdl := by
  intro pdl
  induction pdl with
  | nil => rfl
  | cons e r ih =>
    simp only [withG, List.map_cons, setM] at ih ⊢
    rw [ih]
    congr 2
    cases hb : Nat.beq e d with
    | true => have := beqN hb; subst this; simp [upd]
    | false =>
      have : d ≠ e := fun e' => by subst e'; rw [Nat.beq_refl] at hb; cases hb
      simp [upd, this]
theorem upd_none (g : Nat → TV) (y : TV) : upd g none y = g := by funext t; simp [upd]

theorem made_det {o : Oper} {s : St} (hm : madeB h o = true) (H : opC E h noCall o s k = some r) :
    ∃ s1, k s1 = some r ∧ ((∃ y, s1.heap = s.heap ++ [y]) ∨ s1.heap = s.heap) ∧ s1.app = s.app ∧ opC E h noCall o s some = some s1 := by
  unfold madeB at hm
  simp only [Bool.and_eq_true] at hm
  obtain ⟨hg, hm⟩ := hm
  unfold opC at H
  cases hop : o.op with
  | alloc e =>
    rw [hop] at H hm
    have hq : h.isOwn o.dst = false := by simpa using hm
    simp only [hq, cond_false] at H
    obtain ⟨g1, H⟩ := bif_some H
    obtain ⟨s1, h1, h2, h3, h4, h5⟩ := putC_det (γ := St) H
    exact ⟨s1, h1, .inl ⟨_, h2⟩, h3, by unfold opC; rw [hop]; simp only [hq, cond_false, g1, cond_true]; exact h5 some⟩
  | buildSlice t len ps =>
    rw [hop] at H hm
    have hq : h.isOwn o.dst = true := hm
    simp only at H
    unfold buildSliceC at H
    split at H
    · rename_i et htd
      obtain ⟨g1, H⟩ := bif_some H
      simp only at H
      split at H
      · rename_i ys hy
        obtain ⟨g2, H⟩ := bif_none H
        rw [hq] at H
        obtain ⟨s1, h1, h2, h3, h4, h5⟩ := putC_det (γ := St) H
        exact ⟨s1, h1, .inl ⟨_, h2⟩, h3, by unfold opC; rw [hop]; simp only []; unfold buildSliceC; simp only [htd, g1, cond_true, hy, g2, hq, cond_false]; exact h5 some⟩
      · rename_i hy
        split at H
        · rename_i T ys hU
          obtain ⟨g2, H⟩ := bif_some H
          rw [hq] at g2
          simp at g2
        · rename_i hU
          obtain ⟨g2, H⟩ := bif_some H
          obtain ⟨s1, h1, h2, h3, h4, h5⟩ := putC_det (γ := St) H
          exact ⟨s1, h1, .inr h2, h3, by unfold opC; rw [hop]; simp only []; unfold buildSliceC; simp only [htd, g1, cond_true, hy, hU, g2]; exact h5 some⟩
    · cases H
  | _ => rw [hop] at hm; cases hm

theorem madeK_some {α : Type} {r : α} {n : Nat} {s1 : St} {d : Nat} {k : TV → Option α} {H : Heap} {y : TV} (hn : n = H.length) (hh : s1.heap = H ++ [y]) (hk : madeK n s1 d k = some r) : objP y.t = true ∧ s1.get d = yOf (bOf y) n ∧ k y = some r := by
  unfold madeK at hk
  rw [hh, hn, List.drop_left] at hk
  simp only at hk
  obtain ⟨g1, hk⟩ := bif_some hk
  generalize hz : s1.get d = z at hk
  split at hk
  · obtain ⟨g2, hk2⟩ := bif_some hk
    simp only [Bool.and_eq_true] at g2
    have := beqN g2.1
    subst this
    exact ⟨g1, by rw [g2.2, hn]; rfl, hk2⟩
  · obtain ⟨g2, hk2⟩ := bif_some hk
    simp only [Bool.and_eq_true, Bool.not_eq_true'] at g2
    have e1 := beqN g2.1.1
    have e2 := beqN g2.1.2
    subst e1; subst e2
    exact ⟨g1, by rw [g2.2, hn]; rfl, hk2⟩
  · cases hk
theorem putK_some {α : Type} {r : α} {s1 : St} {k : TV → Option α} (hk : putK s1 k = some r) : ∃ y, s1.heap = [y] ∧ s1.app = [] ∧ objP y.t = true ∧ bOf y = false ∧ k y = some r := by
  unfold putK at hk
  split at hk
  · rename_i y h1 h2
    obtain ⟨g, hk⟩ := bif_some hk
    simp only [Bool.and_eq_true, Bool.not_eq_true'] at g
    exact ⟨y, h1, h2, g.1, g.2, hk⟩
  · cases hk
theorem store_det {t : Nat} {x y : TV} {s : St} (H : storeC E s t x y k = some r) : ∃ s1, k s1 = some r ∧ storeC E s t x y some = some s1 := by
  unfold storeC at H ⊢
  obtain ⟨g1, H⟩ := bif_some H
  simp only [g1, cond_true]
  split at H
  · obtain ⟨g2, H⟩ := bif_some H
    exact ⟨_, H, by simp only [g2, cond_true]⟩
  · rename_i id post i
    split at H
    · rename_i e xs he
      split at H
      · rename_i z hz
        exact ⟨_, H, by simp only [he, hz]⟩
      · cases H
    · cases H
  · cases H
/-- A store gives one state. -/
theorem put_det {o : Oper} {s : St} (hp : putB o = true) (H : opC E h noCall o s k = some r) : ∃ s1, k s1 = some r ∧ opC E h noCall o s some = some s1 := by
  unfold putB at hp
  simp only [Bool.and_eq_true] at hp
  obtain ⟨⟨_, hd⟩, hp⟩ := hp
  have hd : o.dst = none := Option.isNone_iff_eq_none.1 hd
  unfold opC at H ⊢
  cases hop : o.op with
  | store t a x =>
    rw [hop] at H
    simp only [hd, putC] at H ⊢
    exact store_det H
  | _ => rw [hop] at hp; cases hp

theorem lex_of : ∀ (l : List Oper) (s : St) (g : Nat → TV) (pdl : List Nat) (k : St → Option α), l.all (fun o => quietB E h o || madeB h o || putB o) = true → opsD E h all l s (withG g pdl) k = some r →
    ∃ xs its vs ys s', LexP E h all s.heap l s.get xs its g vs ys pdl ∧ k (pushPD (withG (updL (vops l vs) g ys) (pdlF l its pdl)) s') = some r ∧ s'.get = updL l s.get xs ∧ s'.heap = s.heap ∧ s'.app = s.app := by
  intro l
  induction l with
  | nil => intro s g pdl k _ hk; exact ⟨[], [], [], [], s, ⟨rfl, rfl, rfl, rfl⟩, hk, rfl, rfl, rfl⟩
  | cons o l ih =>
    intro s g pdl k hq hk
    simp only [List.all_cons, Bool.and_eq_true] at hq
    unfold opsD at hk
    cases hm : madeB h o with
    | true =>
      rw [hm] at hk
      simp only [cond_true] at hk
      split at hk
      · rename_i d hd
        obtain ⟨g1, hk⟩ := bif_some hk
        simp only [Bool.and_eq_true] at g1
        obtain ⟨s1, hk, h1, h2, h3⟩ := made_det hm hk
        obtain ⟨y, h1⟩ : ∃ y, s1.heap = s.heap ++ [y] := by
          rcases h1 with h1 | h1
          · exact h1
          · unfold madeK at hk
            rw [h1] at hk
            simp at hk
        obtain ⟨h4, h5, hk⟩ := madeK_some rfl h1 hk
        have hnm := findM_none g1.2
        have hpd : (d, y) :: withG g pdl = withG (upd g (some d) y) (d :: pdl) := by
          show _ = (d, upd g (some d) y d) :: withG (upd g (some d) y) pdl
          rw [withG_upd hnm]
          simp [upd]
        rw [hpd] at hk
        obtain ⟨xs, its, vs, ys, s', e1, e2, e3, e4, e5⟩ := ih (s.set d .unk) (upd g (some d) y) (d :: pdl) _ hq.2 hk
        have hg : o.guard = none := by
          have hm2 := hm
          unfold madeB at hm2
          simp only [Bool.and_eq_true] at hm2
          exact Option.isNone_iff_eq_none.1 hm2.1
        refine ⟨.unk :: xs, some y :: its, some d :: vs, y :: ys, s', ⟨.unk, xs, _, its, _, vs, y, ys, rfl, rfl, rfl, rfl, .made (.made hg d hd (bltN g1.1.1) g1.1.2 y h4 s1 h3 h1 h2 h5 rfl rfl hm) rfl hd.symm, ?_⟩, ?_, ?_, e4, e5⟩
        · rw [hd, ← get_set_upd]; simp only [moreP, hd, Option.getD_some]; exact e1
        · simp only [pdlF, vops, updL]; rw [hd]; exact e2
        · simp only [updL]; rw [hd, ← get_set_upd]; exact e3
      · cases hk
    | false =>
    rw [hm] at hk hq
    simp only [Bool.or_false] at hq
    simp only [cond_false] at hk
    cases hpb : putB o with
    | true =>
      rw [hpb] at hk
      simp only [cond_true] at hk
      split at hk
      · rename_i x hfx
        obtain ⟨g1, hk⟩ := bif_some hk
        simp only [Bool.and_eq_true, Bool.not_eq_true'] at g1
        have hx := findM_some hfx
        have hmem := findM_mem hfx
        subst hx
        obtain ⟨s1, hk, h3⟩ := put_det hpb hk
        obtain ⟨y, h1, h2, h4, h5, hk⟩ := putK_some hk
        rw [setM_withG] at hk
        obtain ⟨xs, its, vs, ys, s', e1, e2, e3, e4, e5⟩ := ih s (upd g (some (putAt o).1) y) pdl _ hq.2 hk
        have hd : o.dst = none := by
          have hp2 := hpb
          unfold putB at hp2
          simp only [Bool.and_eq_true] at hp2
          exact Option.isNone_iff_eq_none.1 hp2.1.2
        refine ⟨.unk :: xs, none :: its, some (putAt o).1 :: vs, y :: ys, s', ⟨.unk, xs, _, its, _, vs, y, ys, rfl, rfl, rfl, rfl, .put hpb rfl rfl rfl g1.1.1.1 g1.1.1.2 g1.1.2 (fun e => by rw [e, Nat.beq_refl] at g1; exact absurd g1.2 (by simp)) hmem s1 h3 h1 h2 h4 h5, ?_⟩, ?_, ?_, e4, e5⟩
        · rw [hd, upd_none]; exact e1
        · simp only [pdlF, vops, updL]; exact e2
        · simp only [updL]; rw [hd, upd_none]; exact e3
      · cases hk
    | false =>
    rw [hpb] at hk hq
    simp only [Bool.or_false] at hq
    simp only [cond_false] at hk
    -- the step, from a state with the same registers
    have step : ∀ s0 : St, s0.get = s.get → s0.heap = s.heap → s0.app = s.app → (o.guard = none ∨ ∃ j want gr, o.guard = some (j, want) ∧ dstOf all j = some gr ∧ s.get gr = ⟨.bool, want⟩) →
        opC E h noCall o ⟨maskF (opLooks o.op) s.get, s.heap, []⟩ (fun s1 => opsD E h all l (graft o.dst s1 s0) (withG g pdl) k) = some r →
        ∃ xs its vs ys s', LexP E h all s.heap (o :: l) s.get xs its g vs ys pdl ∧ k (pushPD (withG (updL (vops (o :: l) vs) g ys) (pdlF (o :: l) its pdl)) s') = some r ∧ s'.get = updL (o :: l) s.get xs ∧ s'.heap = s.heap ∧ s'.app = s.app := by
      intro s0 e1 e2 e3 hg hk
      obtain ⟨s1, g1, g2, g3, g4, g5⟩ := op_det (γ := St) hq.1 hk
      simp only at g2 g3
      have hr := g5 some
      cases hd : o.dst with
      | none =>
        rw [hd] at g1
        simp only [graft] at g1
        obtain ⟨xs, its, vs, ys, s', h1, h2, h3, h4, h5⟩ := ih s0 g pdl k hq.2 g1
        refine ⟨.unk :: xs, none :: its, none :: vs, .unk :: ys, s', ⟨.unk, xs, none, its, none, vs, .unk, ys, rfl, rfl, rfl, rfl, .base (.run hq.1 hg s1 hr g2 g3 (fun d e => by rw [hd] at e; cases e) rfl) rfl rfl, ?_⟩, by simp only [pdlF, vops, updL, upd_none]; exact h2, ?_, h4.trans e2, h5.trans e3⟩
        · have : upd s.get o.dst TV.unk = s.get := by funext t; simp [upd, hd]
          rw [this, upd_none, ← e1, ← e2]; exact h1
        · have : upd s.get o.dst TV.unk = s.get := by funext t; simp [upd, hd]
          simp only [updL]
          rw [this, ← e1]; exact h3
      | some d =>
        rw [hd] at g1
        simp only [graft] at g1
        obtain ⟨xs, its, vs, ys, s', h1, h2, h3, h4, h5⟩ := ih (s0.set d (s1.get d)) g pdl k hq.2 g1
        refine ⟨s1.get d :: xs, none :: its, none :: vs, .unk :: ys, s', ⟨_, xs, none, its, none, vs, .unk, ys, rfl, rfl, rfl, rfl, .base (.run hq.1 hg s1 hr g2 g3 (fun e he => ?_) rfl) rfl rfl, ?_⟩, by simp only [pdlF, vops, updL, upd_none]; exact h2, ?_, h4.trans e2, h5.trans e3⟩
        · rw [hd] at he; cases he; exact ⟨g4 d hd, rfl⟩
        · rw [hd, upd_none, ← e1, ← get_set_upd]
          have : (s0.set d (s1.get d)).heap = s.heap := e2
          rw [← this]; exact h1
        · simp only [updL]
          rw [hd, ← e1, ← get_set_upd]; exact h3
    split at hk
    · rename_i hg
      exact step s rfl rfl rfl (.inl hg) hk
    · rename_i j want hg
      split at hk
      · rename_i gr hj
        -- what is passed over
        have skip : ∀ s0 : St, s0.get = s.get → s0.heap = s.heap → s0.app = s.app → (s.get gr = ⟨.bool, !want⟩ ∨ s.get gr = .undef) → putC h s0 o.dst .undef (fun s => opsD E h all l s (withG g pdl) k) = some r →
            ∃ xs its vs ys s', LexP E h all s.heap (o :: l) s.get xs its g vs ys pdl ∧ k (pushPD (withG (updL (vops (o :: l) vs) g ys) (pdlF (o :: l) its pdl)) s') = some r ∧ s'.get = updL (o :: l) s.get xs ∧ s'.heap = s.heap ∧ s'.app = s.app := by
          intro s0 e0 e2 e3 hb hk
          cases hd : o.dst with
          | none =>
            rw [hd] at hk
            simp only [putC] at hk
            obtain ⟨xs, its, vs, ys, s', h1, h2, h3, h4, h5⟩ := ih s0 g pdl k hq.2 hk
            have e1 : upd s.get o.dst TV.undef = s.get := by funext t; simp [upd, hd]
            refine ⟨.undef :: xs, none :: its, none :: vs, .unk :: ys, s', ⟨_, xs, none, its, none, vs, .unk, ys, rfl, rfl, rfl, rfl, .base (.skip j want gr hg hj hb rfl (fun d e => by rw [hd] at e; cases e) rfl) rfl rfl, ?_⟩, by simp only [pdlF, vops, updL, upd_none]; exact h2, ?_, h4.trans e2, h5.trans e3⟩
            · rw [e1, upd_none, ← e0, ← e2]; exact h1
            · simp only [updL]; rw [e1, ← e0]; exact h3
          | some d =>
            rw [hd] at hk
            simp only [putC] at hk
            obtain ⟨g1, hk⟩ := bif_some hk
            obtain ⟨xs, its, vs, ys, s', h1, h2, h3, h4, h5⟩ := ih (s0.set d .undef) g pdl k hq.2 hk
            refine ⟨.undef :: xs, none :: its, none :: vs, .unk :: ys, s', ⟨_, xs, none, its, none, vs, .unk, ys, rfl, rfl, rfl, rfl, .base (.skip j want gr hg hj hb rfl (fun e he => by rw [hd] at he; cases he; exact bltN g1) rfl) rfl rfl, ?_⟩, by simp only [pdlF, vops, updL, upd_none]; exact h2, ?_, h4.trans e2, h5.trans e3⟩
            · rw [hd, upd_none, ← e0, ← get_set_upd]
              have : (s0.set d .undef).heap = s.heap := e2
              rw [← this]; exact h1
            · simp only [updL]; rw [hd, ← e0, ← get_set_upd]; exact h3
        rcases guardC_some hk with ⟨b, hb, hk⟩ | ⟨hb, hk⟩
        case inr => exact skip s rfl rfl rfl (.inr hb) hk
        cases hw : (bif want then b else !b) with
        | true =>
          rw [hw] at hk
          have e : b = want := by cases want <;> cases b <;> simp_all
          subst e
          exact step (s.set gr ⟨.bool, b⟩) (set_same hb) rfl rfl (.inr ⟨j, b, gr, hg, hj, hb⟩) hk
        | false =>
          rw [hw] at hk
          simp only [cond_false] at hk
          have e : b = !want := by cases want <;> cases b <;> simp_all
          subst e
          exact skip (s.set gr ⟨.bool, !want⟩) (set_same hb) rfl rfl (.inl hb) hk
      · cases hk

theorem lex_len : ∀ (l : List Oper) (f : Nat → TV) (xs : List TV) (its : List (Option TV)) (g : Nat → TV) (vs : List (Option Nat)) (ys : List TV) (pd : List Nat), LexP E h all H l f xs its g vs ys pd → l.length = xs.length ∧ l.length = its.length ∧ (vops l vs).length = l.length ∧ l.length = ys.length := by
  intro l
  induction l with
  | nil => intro f xs its g vs ys pd hx; obtain ⟨rfl, rfl, rfl, rfl⟩ := hx; exact ⟨rfl, rfl, rfl, rfl⟩
  | cons o l ih => intro f xs its g vs ys pd hx; obtain ⟨x, xs', it, its', v, vs', y, ys', rfl, rfl, rfl, rfl, _, h2⟩ := hx; obtain ⟨g1, g2, g3, g4⟩ := ih _ _ _ _ _ _ _ h2; simp only [List.length_cons, vops]; omega

theorem lex_at : ∀ (l : List Oper) (f : Nat → TV) (xs : List TV) (its : List (Option TV)) (g : Nat → TV) (vs : List (Option Nat)) (ys : List TV) (pd : List Nat) (j : Nat) (o : Oper), LexP E h all H l f xs its g vs ys pd → l[j]? = some o →
    ∃ x it v y pd', xs[j]? = some x ∧ its[j]? = some it ∧ (vops l vs)[j]? = some { o with dst := v } ∧ ys[j]? = some y ∧ StepQ E h all H o (updL (l.take j) f (xs.take j)) x it (updL ((vops l vs).take j) g (ys.take j)) v y pd' ∧ (∀ d, d ∈ pd' → d ∈ pd ∨ ∃ j0 o0 x0, j0 < j ∧ l[j0]? = some o0 ∧ o0.dst = some d ∧ its[j0]? = some (some x0)) := by
  intro l
  induction l with
  | nil => intro f xs its g vs ys pd j o _ hj; simp at hj
  | cons o l ih =>
    intro f xs its g vs ys pd j o' hx hj
    obtain ⟨x, xs', it, its', v, vs', y, ys', rfl, rfl, rfl, rfl, h1, h2⟩ := hx
    cases j with
    | zero => obtain rfl : o = o' := by simpa using hj
              exact ⟨x, it, v, y, pd, rfl, rfl, rfl, rfl, h1, fun d hd => .inl hd⟩
    | succ j =>
      obtain ⟨x2, it2, v2, y2, pd2, q1, q2, q3, q4, q5, q6⟩ := ih _ _ _ _ _ _ _ j o' h2 (by simpa using hj)
      refine ⟨x2, it2, v2, y2, pd2, q1, q2, q3, q4, q5, fun d hd => ?_⟩
      rcases q6 d hd with e | ⟨j0, o0, x0, p1, p2, p3, p4⟩
      · cases it with
        | none => exact .inl e
        | some z =>
          rcases List.mem_cons.1 e with e | e
          · have hdst : ∃ d0, o.dst = some d0 := by
              cases h1 with
              | base hs hi => cases hi
              | made hs => cases hs with
                | run _ _ _ _ _ _ _ e => cases e
                | skip _ _ _ _ _ _ _ _ e => cases e
                | made _ d0 hd0 => exact ⟨d0, hd0⟩
              | put _ _ hi => cases hi
            obtain ⟨d0, hd0⟩ := hdst
            rw [hd0] at e
            exact .inr ⟨0, o, z, by omega, rfl, by rw [hd0, e]; rfl, rfl⟩
          · exact .inl e
      · exact .inr ⟨j0 + 1, o0, x0, by omega, by simpa using p2, p3, by simpa using p4⟩
end

theorem quiet_not {E : Env} {h : Hint} {o : Oper} (hq : quietB E h o = true) : madeB h o = false ∧ putB o = false := by
  unfold quietB at hq
  unfold madeB putB
  cases hop : o.op <;> rw [hop] at hq <;> simp_all

/-! What the check says: of a region, or of all its operations but the last. -/
structure DrawOK (E : Env) (h : Hint) (all pre : List Oper) : Prop where
  quiet : pre.all (fun o => quietB E h o || madeB h o || putB o) = true
  below : ∀ i o, pre[i]? = some o → ∀ e ∈ o.after, Region.binds .any e = true → e.on < i
  one : ∀ (i j : Nat) (oi oj : Oper) (t : Nat), pre[i]? = some oi → pre[j]? = some oj → oi.dst = some t → oj.dst = some t → i = j
  order : ∀ (i j : Nat) (oi oj : Oper) (t : Nat), pre[i]? = some oi → pre[j]? = some oj → i ≠ j → oj.dst = some t → t ∈ readsOf all oi → edgeTo oi j = true ∨ edgeTo oj i = true
  puts : ∀ (i j : Nat) (oi oj : Oper), pre[i]? = some oi → pre[j]? = some oj → i ≠ j → putB oi = true → putB oj = true → (putAt oi).1 = (putAt oj).1 → edgeTo oi j = true ∨ edgeTo oj i = true

theorem memN_of : ∀ {l : List Nat} {i : Nat}, i ∈ l → memN l i = true := memN_mem

theorem drawChk_spec {all : List Oper} {i : Nat} {oi : Oper} : ∀ (l : List Oper) (m : Nat), drawChk all i oi m l = true → ∀ j oj, l[j]? = some oj → m + j ≠ i → pairOK all i oi (m + j) oj = true ∧ putPair i oi (m + j) oj = true := by
  intro l
  induction l with
  | nil => intro m _ j oj hj; simp at hj
  | cons o l ih =>
    intro m hc j oj hj hne
    simp only [drawChk, Bool.and_eq_true] at hc
    cases j with
    | zero =>
      obtain rfl : o = oj := by simpa using hj
      have : Nat.beq m i = false := by
        cases hb : Nat.beq m i with
        | true => exact absurd (beqN hb) (by simpa using hne)
        | false => rfl
      rw [this] at hc
      exact (by simpa using hc.1 : pairOK all i oi m o = true ∧ putPair i oi m o = true)
    | succ j =>
      have := ih (m + 1) hc.2 j oj (by simpa using hj) (by omega)
      rwa [Nat.add_assoc, Nat.add_comm 1 j] at this

theorem drawAll_spec {E : Env} {h : Hint} {all : List Oper} : ∀ (l : List Oper) (m : Nat), drawAll E h all m l = true → ∀ i o, l[i]? = some o → (quietB E h o || madeB h o || putB o) = true ∧ edgesBelow o (m + i) = true ∧ drawChk all (m + i) o 0 all = true := by
  intro l
  induction l with
  | nil => intro m _ i o hi; simp at hi
  | cons o l ih =>
    intro m hc i o' hi
    simp only [drawAll, Bool.and_eq_true] at hc
    cases i with
    | zero => obtain rfl : o = o' := by simpa using hi
              exact ⟨hc.1.1.1, hc.1.1.2, hc.1.2⟩
    | succ i =>
      have := ih (m + 1) hc.2 i o' (by simpa using hi)
      rwa [Nat.add_assoc, Nat.add_comm 1 i] at this

theorem isDst_iff {d : Nat} {x : Option Nat} : isDst d x = true ↔ x = some d := by
  cases x with
  | none => simp [isDst]
  | some e =>
    simp only [isDst, Option.some.injEq]
    exact ⟨beqN, fun e => by subst e; exact Nat.beq_refl _⟩

theorem drawAll_ok {E : Env} {h : Hint} {all pre rest : List Oper} (hp0 : all = pre ++ rest) (hc : drawAll E h all 0 pre = true) : DrawOK E h all pre := by
  have hs := drawAll_spec pre 0 hc
  have up : ∀ {i : Nat} {o : Oper}, pre[i]? = some o → all[i]? = some o := by
    intro i o hi
    rw [hp0, List.getElem?_append_left (List.getElem?_eq_some_iff.1 hi).1]; exact hi
  simp only [Nat.zero_add] at hs
  have hp2 : ∀ i j oi oj, pre[i]? = some oi → pre[j]? = some oj → i ≠ j → pairOK all i oi j oj = true ∧ putPair i oi j oj = true := by
    intro i j oi oj hi hj hne
    have := drawChk_spec all 0 (hs i oi hi).2.2 j oj (up hj) (by simpa using Ne.symm hne)
    simpa using this
  have hp : ∀ i j oi oj, pre[i]? = some oi → pre[j]? = some oj → i ≠ j → pairOK all i oi j oj = true := fun i j oi oj hi hj hne => (hp2 i j oi oj hi hj hne).1
  refine ⟨?_, ?_, ?_, ?_, ?_⟩
  · rw [List.all_eq_true]
    intro o ho
    obtain ⟨i, hi⟩ := List.mem_iff_getElem?.1 ho
    exact (hs i o hi).1
  · intro i o hi e he hb
    have h1 := (hs i o hi).2.1
    unfold edgesBelow at h1
    have h2 := List.all_eq_true.1 h1 e (Array.mem_toList_iff.2 he)
    rw [hb] at h2
    exact bltN (by simpa using h2)
  · intro i j oi oj t hi hj h1 h2
    refine Classical.byContradiction fun hne => ?_
    have h3 := hp i j oi oj hi hj hne
    unfold pairOK at h3
    rw [h2] at h3
    simp only [Bool.and_eq_true] at h3
    have h4 : isDst t oi.dst = true := isDst_iff.2 h1
    rw [h4] at h3
    simp at h3
  · intro i j oi oj t hi hj hne h1 h2
    have h3 := hp i j oi oj hi hj hne
    unfold pairOK at h3
    rw [h1] at h3
    simp only [Bool.and_eq_true] at h3
    have h4 := h3.2
    rw [memN_of h2] at h4
    simpa using h4
  · intro i j oi oj hi hj hne h1 h2 h3
    have h4 := (hp2 i j oi oj hi hj hne).2
    unfold putPair at h4
    rw [h1, h2, h3, Nat.beq_refl] at h4
    simpa using h4

theorem edgeTo_spec {o : Oper} {j : Nat} (h : edgeTo o j = true) : ∃ e ∈ o.after, Region.binds .any e = true ∧ e.on = j := by
  unfold edgeTo at h
  obtain ⟨e, he, h1⟩ := List.any_eq_true.1 h
  obtain ⟨h1, h2⟩ := and2 h1
  exact ⟨e, Array.mem_toList_iff.1 he, h1, beqN h2⟩

theorem memN_in' : ∀ {l : List Nat} {i : Nat}, memN l i = true → i ∈ l := by
  intro l
  induction l with
  | nil => intro i h; cases h
  | cons j l ih =>
    intro i h
    simp only [memN] at h
    cases hb : Nat.beq j i with
    | true => rw [beqN hb]; exact List.mem_cons_self
    | false => rw [hb] at h; exact List.mem_cons_of_mem _ (ih h)
theorem anc_listed {all : List Oper} {L : Nat → Prop} (hcl : ∀ j, L j → ∀ m ∈ edgesAt all j, L m) : ∀ (n : Nat) (S : List Nat), (∀ j ∈ S, L j) → ∀ j ∈ ancL all n S, L j := by
  intro n
  induction n with
  | zero => intro S h; exact h
  | succ i ih =>
    intro S h
    simp only [ancL]
    refine ih _ ?_
    cases hm : memN S i with
    | false => exact h
    | true =>
      intro j hj
      rcases List.mem_append.1 hj with hj | hj
      · exact hcl i (h i (memN_in' hm)) j hj
      · exact h j hj
theorem allIn_spec {S : List Nat} : ∀ (n : Nat), allIn S n = true → ∀ j, j < n → j ∈ S := by
  intro n
  induction n with
  | zero => intro _ j hj; omega
  | succ i ih =>
    intro h j hj
    simp only [allIn] at h
    obtain ⟨h1, h2⟩ := and2 h
    by_cases e : j = i
    · subst e; exact memN_in' h1
    · exact ih h2 j (by omega)
theorem bindsL_spec {o : Oper} {m : Nat} : m ∈ bindsL o ↔ ∃ e ∈ o.after, Region.binds .any e = true ∧ e.on = m := by
  unfold bindsL
  simp only [List.mem_map, List.mem_filter, Array.mem_toList_iff]
  constructor
  · rintro ⟨e, ⟨h1, h2⟩, h3⟩; exact ⟨e, h1, h2, h3⟩
  · rintro ⟨e, h1, h2, h3⟩; exact ⟨e, ⟨h1, h2⟩, h3⟩

/-! What is forgotten where ways meet. -/
theorem hget_take {m : Nat} : ∀ {H : Heap} {id : Nat}, id < m → hget (H.take m) id = hget H id := by
  intro H
  induction H generalizing m with
  | nil => intro id _; simp
  | cons x l ih =>
    intro id h
    cases m with
    | zero => omega
    | succ m =>
      cases id with
      | zero => rfl
      | succ id => simp only [List.take_succ_cons, hget]; exact ih (by omega)

section
variable {w w' : World} {U U' : Nat → Prop} {β β' : Nat → Blk} {H H' : Heap} {m : Nat}

theorem LocAt.take {id : Nat} {ix : Bool} {post : List Nat} {i b off : Nat} (hm : id < m) (h : LocAt β H id ix post i b off) : LocAt β (H.take m) id ix post i b off := by
  obtain ⟨h0, h1, h2⟩ := h
  refine ⟨by simp; omega, h1, ?_⟩
  cases ix with
  | true => simp only at h2 ⊢; rw [hget_take hm]; exact h2
  | false => simp only at h2 ⊢; rw [hget_take hm]; exact h2

theorem EncM.take : ∀ (t : Ty) (md : Bool) (x : t.den) (l : List Value), refsBelow m t = true → EncM w U β H md t x l → EncM w U β (H.take m) md t x l := by
  intro t
  induction t with
  | list e ih =>
    intro md x l ha h
    cases md <;> simp only [EncM] at h ⊢
    obtain ⟨A, c, rfl, h0, h1⟩ := h
    refine ⟨A, c, rfl, h0, fun hp => ?_⟩
    obtain ⟨b, off, rfl, hU, h2⟩ := h1 hp
    refine ⟨b, off, rfl, hU, fun i hi => ?_⟩
    obtain ⟨cs, h3, h4⟩ := h2 i hi
    exact ⟨cs, ih false _ _ ha h3, h4⟩
  | xls e ih =>
    intro md x l ha h
    cases md <;> simp only [EncM] at h ⊢
    obtain ⟨A, c, rfl, h0, h1⟩ := h
    refine ⟨A, c, rfl, h0, fun hp => ?_⟩
    obtain ⟨b, off, rfl, hU, h2⟩ := h1 hp
    refine ⟨b, off, rfl, hU, fun i hi => ?_⟩
    obtain ⟨cs, h3, h4⟩ := h2 i hi
    exact ⟨cs, ih false _ _ ha h3, h4⟩
  | hl r ih =>
    intro md x l ha h
    cases md <;> simp only [EncM] at h ⊢
    obtain ⟨b, off, c, vs, rfl, h0, hU, h1, h2, h3⟩ := h
    exact ⟨b, off, c, vs, rfl, h0, hU, ih true _ _ ha h1, h2, h3⟩
  | arr n e ih =>
    intro md x l ha h
    cases md <;> simp only [EncM] at h ⊢
    exact ⟨h.1, h.2.1, h.2.2.1, fun i hi => ih false _ _ ha (h.2.2.2 i hi)⟩
  | scons a r iha ihr =>
    intro md x l ha h
    simp only [refsBelow, Bool.and_eq_true] at ha
    cases md <;> simp only [EncM] at h ⊢
    · obtain ⟨l1, l2, rfl, h1, h2⟩ := h
      exact ⟨l1, l2, rfl, iha false _ _ ha.1 h1, ihr false _ _ ha.2 h2⟩
    · obtain ⟨v, l2, rfl, h1, h2⟩ := h
      exact ⟨v, l2, rfl, h1.imp id fun h => ⟨h.1, iha false _ _ ha.1 h.2⟩, ihr true _ _ ha.2 h2⟩
  | tup r ih =>
    intro md x l ha h
    cases md <;> simp only [EncM] at h ⊢
    obtain ⟨vs, rfl, h⟩ := h
    exact ⟨vs, rfl, ih true _ _ ha h⟩
  | ref t ih =>
    intro md x l ha h
    cases md <;> simp only [EncM] at h ⊢
    obtain ⟨b, off, cs, rfl, hU, h1, h2⟩ := h
    exact ⟨b, off, cs, rfl, hU, ih false _ _ ha h1, h2⟩
  | fn f c ih =>
    intro md x l ha h
    cases md <;> simp only [EncM] at h ⊢
    obtain ⟨vs, rfl, h⟩ := h
    exact ⟨vs, rfl, ih true _ _ ha h⟩
  | iface t v ih =>
    intro md x l ha h
    cases md <;> simp only [EncM] at h ⊢
    obtain ⟨y, rfl, h1, h2⟩ := h
    exact ⟨y, rfl, h1, ih false _ _ ha h2⟩
  | loc id ix post =>
    intro md x l ha h
    cases md <;> simp only [EncM] at h ⊢
    obtain ⟨b, off, rfl, h⟩ := h
    exact ⟨b, off, rfl, h.take (bltN ha)⟩
  | selfp id T =>
    intro md x l ha h
    have hi := bltN ha
    cases md <;> simp only [EncM] at h ⊢
    obtain ⟨h0, h1, h2, h3⟩ := h
    exact ⟨by simp; omega, by rw [hget_take hi]; exact h1, h2, h3⟩
  | bm f c ih =>
    intro md x l ha h
    cases md <;> simp only [EncM] at h ⊢
    obtain ⟨vs, rfl, h⟩ := h
    exact ⟨vs, rfl, ih true _ _ ha h⟩
  | mapp id =>
    intro md x l ha h
    have hi := bltN ha
    cases md <;> simp only [EncM] at h ⊢
    obtain ⟨h0, h1, h2⟩ := h
    exact ⟨by simp; omega, by rw [hget_take hi]; exact h1, h2⟩
  | slw id =>
    intro md x l ha h
    have hi := bltN ha
    cases md <;> simp only [EncM] at h ⊢
    obtain ⟨e, xs, h0, h1, rfl⟩ := h
    exact ⟨e, xs, by simp; omega, by rw [hget_take hi]; exact h1, rfl⟩
  | slv id =>
    intro md x l ha h
    have hi := bltN ha
    cases md <;> simp only [EncM] at h ⊢
    obtain ⟨e, xs, A, c, h0, h1, h2⟩ := h
    exact ⟨e, xs, A, c, by simp; omega, by rw [hget_take hi]; exact h1, h2⟩
  | _ => intro md x l ha h; cases md <;> simp only [EncM] at h ⊢ <;> exact h

theorem EncV.take {x : TV} {v : Value} (ha : refsBelow m x.t = true) (h : EncV w U β H x v) : EncV w U β (H.take m) x v :=
  h.imp id fun h => ⟨h.1, h.2.take _ _ _ _ ha⟩

theorem hget_mem : ∀ {H : Heap} {id : Nat}, id < H.length → hget H id ∈ H := by
  intro H
  induction H with
  | nil => intro id h; simp at h
  | cons x l ih =>
    intro id h
    cases id with
    | zero => exact List.mem_cons_self
    | succ id => exact List.mem_cons_of_mem _ (ih (by simpa using h))

theorem gcOK_mem {l : List TV} {x : TV} (h : gcOK m l = true) (hx : x ∈ l) : refsBelow m x.t = true := List.all_eq_true.1 h x hx

theorem ObjAt.take {B id : Nat} (hi : id < m) (hr : refsBelow m (hget H id).t = true) (h : ObjAt w U β H B id) : ObjAt w U β (H.take m) B id := by
  unfold ObjAt at h ⊢
  rw [hget_take hi]
  generalize hget H id = z at *
  obtain ⟨t, v⟩ := z
  cases t with
  | row e =>
    obtain ⟨hp, h⟩ := h
    refine ⟨hp, ?_⟩
    rcases h with h | ⟨b, arr, el, fr, h1, h2, h3, h4, h5, h6, h7, h8⟩
    · exact .inl h
    · refine .inr ⟨b, arr, el, fr, h1, h2, h3, h4, h5, h6, h7, fun i hi => ?_⟩
      obtain ⟨cs, h9, h10⟩ := h8 i hi
      exact ⟨cs, h9.take _ _ _ _ hr, h10⟩
  | iter => exact h
  | mobj K V =>
    obtain ⟨hk, hv, b, es, clock, h1, h2, h3, h4, h5, h6⟩ := h
    refine ⟨hk, hv, b, es, clock, h1, h2, h3, h4, h5, fun i hi => ?_⟩
    obtain ⟨en, e1, e2, e3⟩ := h6 i hi
    exact ⟨en, e1, .inr (e2.resolve_left (by cases K <;> simp_all [Ty.isUnk, Ty.elem, Ty.pure]) |>.imp_right fun h => h.pure_any _ _ _ _ (elem_pure hk)), .inr (e3.resolve_left (by cases V <;> simp_all [Ty.isUnk, Ty.elem, Ty.pure]) |>.imp_right fun h => h.pure_any _ _ _ _ (elem_pure hv))⟩
  | _ =>
    obtain ⟨b, cs, el, fr, h1, h2, h3, h4, h5, h6, h7⟩ := h
    exact ⟨b, cs, el, fr, h1, h2, h3, h4, h5, h6.take _ _ _ _ hr, h7⟩

theorem WRel.take {S : Base} (h : WRel S U β H w) (hg : gcOK m (H.take m) = true) : WRel S U β (H.take m) w := by
  have hl : ∀ {id}, id < (H.take m).length → id < m ∧ id < H.length := fun {id} h => by simp at h; omega
  refine ⟨⟨fun id hi => ?_, fun id id' b hi hi' => h.heap.inj id id' b (hl hi).2 (hl hi').2⟩, h.below, h.uin, h.uold, fun g x hx => ?_⟩
  · have := gcOK_mem hg (hget_mem hi)
    rw [hget_take (hl hi).1] at this
    exact (h.heap.obj id (hl hi).2).take (hl hi).1 this
  · rcases h.globs g x hx with e | ⟨e1, e2, e3⟩
    · exact .inl e
    · exact .inr ⟨e1, e2, ⟨e3.enc.pure_any _ _ _ _ e1, e3.whole⟩⟩

theorem Adv.take {H0 : Heap} {w0 : World} {U0 : Nat → Prop} {β0 : Nat → Blk} {app A : List Nat} (hA : Adv w0 U0 β0 H0 w U β H app) (hm : H0.length ≤ m) (hs : ∀ id, id < H0.length → id ∈ app → id ∈ A) : Adv w0 U0 β0 H0 w U β (H.take m) A where
  use := hA.use
  same := hA.same
  len := by have := hA.len; simp; omega
  row id e xs hl he := by
    obtain ⟨xs', h1, h2⟩ := hA.row id e xs hl he
    exact ⟨xs', by rw [hget_take (by omega)]; exact h1, fun hn => h2 fun hi => hn (hs id hl hi)⟩
  box id hl hn := by rw [hget_take (by omega)]; exact hA.box id hl hn
  keep b hb hu hn := ⟨(hA.keep b hb hu hn).1, (hA.keep b hb hu hn).2.1, fun id hi => (hA.keep b hb hu hn).2.2 id (by simp at hi; omega)⟩

end
end Go.Dp
/- Regions whose order is drawn, against the model. -/
set_option autoImplicit false
set_option linter.unusedVariables false
set_option linter.unusedSimpArgs false
namespace Go.Dp
open Go.RowKit

/-- How many are not listed yet. -/
def unl (listed : Array Bool) : Nat → Nat
  | 0 => 0
  | m + 1 => unl listed m + if listed.getD m false then 0 else 1

theorem unl_false : ∀ n, unl (Array.replicate n false) n = n := by
  intro n
  have : ∀ m, m ≤ n → unl (Array.replicate n false) m = m := by
    intro m
    induction m with
    | zero => intro _; rfl
    | succ m ih =>
      intro hm
      simp only [unl]
      rw [ih (by omega)]
      have : (Array.replicate n false).getD m false = false := by
        rw [Array.getD_eq_getD_getElem?]
        rw [Array.getElem?_eq_getElem (by simp; omega)]
        simp
      simp [this]
  exact this n (Nat.le_refl _)

theorem getD_set {listed : Array Bool} {i j : Nat} (hi : i < listed.size) : (listed.setIfInBounds i true).getD j false = if i = j then true else listed.getD j false := by
  by_cases e : i = j
  · subst e; simp [Array.getD_eq_getD_getElem?, Array.getElem?_setIfInBounds, hi]
  · rw [getD_set_ne false e, if_neg e]

theorem unl_set {listed : Array Bool} {i : Nat} (hi : i < listed.size) (hf : listed.getD i false = false) : ∀ m, unl (listed.setIfInBounds i true) m + (if i < m then 1 else 0) = unl listed m := by
  intro m
  induction m with
  | zero => simp [unl]
  | succ m ih =>
    simp only [unl]
    rw [getD_set hi]
    by_cases e : i = m
    · subst e
      simp only [if_true, hf]
      have : unl (listed.setIfInBounds i true) i = unl listed i := by rw [← ih]; simp
      rw [this]
      simp
    · simp only [if_neg e]
      have a1 : (if i < m + 1 then 1 else 0 : Nat) = if i < m then 1 else 0 := by split <;> split <;> omega
      rw [a1]
      omega

theorem unl_zero {listed : Array Bool} : ∀ m, unl listed m = 0 → ∀ j, j < m → listed.getD j false = true := by
  intro m
  induction m with
  | zero => intro _ j hj; omega
  | succ m ih =>
    intro h j hj
    simp only [unl] at h
    by_cases e : j = m
    · subst e
      cases hl : listed.getD j false with
      | true => rfl
      | false => rw [hl] at h; simp at h
    · exact ih (by omega) j (by omega)

/-- There is a first one that is not listed. -/
theorem unl_first {listed : Array Bool} : ∀ m, 0 < unl listed m → ∃ j, j < m ∧ listed.getD j false = false ∧ ∀ i, i < j → listed.getD i false = true := by
  intro m
  induction m with
  | zero => intro h; simp [unl] at h
  | succ m ih =>
    intro h
    by_cases h0 : 0 < unl listed m
    · obtain ⟨j, h1, h2, h3⟩ := ih h0
      exact ⟨j, by omega, h2, h3⟩
    · have h1 : unl listed m = 0 := by omega
      simp only [unl, h1] at h
      refine ⟨m, by omega, ?_, fun i hi => unl_zero m h1 i hi⟩
      cases hl : listed.getD m false with
      | false => rfl
      | true => rw [hl] at h; simp at h

section
variable {S : Base} {n : Nat} {U : Nat → Prop} {β : Nat → Blk} {s : St} {a : Act} {w w' : World} {α : Type} {r : α} {h : Hint} {Q : Exit → Act → World → Prop} {o : Oper} {call : CallT α}

/-- Of the registers an operation turns its own alone. -/
theorem wp_put {P : Program} {K : Act → World → Prop} (hh : o.wp P a w K Q) : o.wp P a w (fun a' w' => K a' w' ∧ ∃ v, a'.tmps = (a.put o.dst v).tmps) Q := by
  unfold Oper.wp at *
  generalize (execOp a.eval o).run P w = r at *
  cases r with
  | ok n w' =>
    cases n <;> simp only [Oper.upon] at hh ⊢ <;>
      first
        | exact ⟨hh, _, rfl⟩
        | exact Calls.mono hh (fun e w'' he => by cases e <;> first | exact ⟨he, _, rfl⟩ | exact he)
        | exact Rows.mono hh (fun _ _ he => ⟨he, _, rfl⟩)
        | (refine ⟨hh, undef, ?_⟩; cases o.dst <;> rfl)
        | exact hh
  | halt x w' => cases x <;> simp only [Oper.upon] at hh ⊢ <;> exact hh

theorem lookTV_mask (f : Nat → TV) (t : Nat) : ∀ l : List Nat, lookTV (maskF l f) t = f t ∨ (lookTV (maskF l f) t).t.isUnk = true := by
  intro l
  induction l with
  | nil => exact .inr rfl
  | cons i l ih =>
    simp only [maskF, List.map_cons, lookTV]
    cases hb : Nat.beq i t with
    | true => obtain rfl := beqN hb; exact .inl rfl
    | false => exact ih

theorem getD_put {a : Act} {d : Option Nat} {v : Value} {t : Nat} (h : d ≠ some t) : (a.put d v).tmps.getD t undef = a.tmps.getD t undef := by
  cases d with
  | none => rfl
  | some d =>
    have : d ≠ t := fun e => h (by rw [e])
    simp [Act.put, Array.getD_eq_getD_getElem?, Array.getElem?_setIfInBounds_ne this]

theorem size_put {a : Act} {d : Option Nat} {v : Value} : (a.put d v).tmps.size = a.tmps.size := by
  cases d <;> simp [Act.put]

/-- What holds when some have come up: `f` says what is in the registers. -/
structure Inv (S : Base) (n : Nat) (H : Heap) (w0 : World) (U0 : Nat → Prop) (β0 : Nat → Blk) (f : Nat → TV) (a : Act) (w : World) (U : Nat → Prop) (β : Nat → Blk) : Prop where
  defers : a.defers = []
  size : a.tmps.size = n
  regs : ∀ t, EncV w U β H (f t) (a.tmps.getD t undef)
  wrel : WRel S U β H w
  adv : Adv w0 U0 β0 H w U β H []

theorem Inv.mask {H : Heap} {w0 : World} {U0 : Nat → Prop} {β0 : Nat → Blk} {f : Nat → TV} (hI : Inv S n H w0 U0 β0 f a w U β) (l : List Nat) : FRel S n U β ⟨maskF l f, H, []⟩ a w :=
  ⟨hI.defers, hI.size, fun t => by
    show EncV w U β H (lookTV (maskF l f) t) _
    rcases lookTV_mask f t l with e | e
    · rw [e]; exact hI.regs t
    · exact .inl e, hI.wrel⟩

theorem noCall_sound : CallSound S (noCall : CallT α) := by
  intro f args H k r h
  cases h

/-- An object that is not counted yet. -/
structure Item (S : Base) (H : Heap) (w0 w : World) (U : Nat → Prop) (β : Nat → Blk) (x : TV) (b : Bool) (v : Value) (bl : Blk) : Prop where
  pure : objP x.t = true
  obj : ObjAt w U (fun _ => bl) [x] S.w0.heap.size 0
  lo : ∀ c, bl.blk = some c → w0.heap.size ≤ c
  blk : ∀ c, bl.blk = some c → c < w.heap.size ∧ ¬ U c ∧ ∀ id, id < H.length → (β id).blk ≠ some c
  val : EncV w U (fun _ => bl) [x] (yOf b 0) v

theorem ObjAt.moved {w w' : World} {U U' : Nat → Prop} {β β' : Nat → Blk} {H H' : Heap} {B id id' : Nat} (h : ObjAt w U β H B id) (hp : objP (hget H id).t = true) (hg : hget H' id' = hget H id) (hb : β' id' = β id)
    (hU : ∀ b, U b → U' b) (hs : ∀ b, U b → w'.heap[b]? = w.heap[b]?) (hk : ∀ b, (β id).blk = some b → w'.heap[b]? = w.heap[b]? ∧ ¬ U' b) : ObjAt w' U' β' H' B id' := by
  unfold ObjAt at h ⊢
  rw [hg, hb]
  generalize hget H id = z at *
  obtain ⟨t, v⟩ := z
  cases t with
  | row e =>
    obtain ⟨he, h⟩ := h
    refine ⟨he, ?_⟩
    rcases h with h | ⟨b, arr, el, fr, h1, h2, h3, h4, h5, h6, h7, h8⟩
    · exact .inl h
    · refine .inr ⟨b, arr, el, fr, h1, h2, (hk b h1).2, (hk b h1).1.trans h4, h5, h6, h7, fun i hi => ?_⟩
      obtain ⟨cs, h9, h10⟩ := h8 i hi
      exact ⟨cs, EncM.pure_same hU hs _ _ _ _ (elem_pure he) h9, h10⟩
  | iter => simp [objP, Ty.isObj] at hp
  | mobj K V => simp [objP, Ty.isObj] at hp
  | _ =>
    obtain ⟨b, cs, el, fr, h1, h2, h3, h4, h5, h6, h7⟩ := h
    simp only [objP, Bool.and_eq_true] at hp
    exact ⟨b, cs, el, fr, h1, h2, (hk b h1).2, (hk b h1).1.trans h4, h5, EncM.pure_same hU hs _ _ _ _ hp.1 h6, h7⟩

theorem yOf_moved {w w' : World} {U U' : Nat → Prop} {β β' : Nat → Blk} {H H' : Heap} {id id' : Nat} {b : Bool} {v : Value} (h : EncV w U β H (yOf b id) v) (hi : id' < H'.length) (hg : hget H' id' = hget H id) (hb : β' id' = β id) :
    EncV w' U' β' H' (yOf b id') v := by
  cases b with
  | true =>
    rcases h with h | ⟨h1, h2⟩
    · cases h
    · refine .inr ⟨h1, ?_⟩
      simp only [yOf, cond_true, EncM] at h2 ⊢
      obtain ⟨e, xs, g1, g2, g3⟩ := h2
      exact ⟨e, xs, hi, hg.trans g2, by rw [hb]; exact g3⟩
  | false =>
    rcases h with h | ⟨h1, h2⟩
    · cases h
    · refine .inr ⟨h1, ?_⟩
      simp only [yOf, cond_false, EncM, LocAt] at h2 ⊢
      obtain ⟨c, off, g1, g2, g3, g4⟩ := h2
      exact ⟨c, off, g1, hi, by rw [hb]; exact g3, by rw [hg]; exact g4⟩

theorem Item.step {H : Heap} {w0 : World} {U' : Nat → Prop} {β' : Nat → Blk} {x : TV} {b : Bool} {v : Value} {bl : Blk} (h : Item S H w0 w U β x b v bl) (hA : Adv w U β H w' U' β' H []) : Item S H w0 w' U' β' x b v bl := by
  have hk : ∀ c, bl.blk = some c → w'.heap[c]? = w.heap[c]? ∧ ¬ U' c ∧ ∀ id, id < H.length → (β' id).blk ≠ some c := fun c hc => by
    obtain ⟨h1, h2, h3⟩ := h.blk c hc
    exact hA.keep c h1 h2 h3
  refine ⟨h.pure, h.obj.moved h.pure rfl rfl hA.use hA.same fun c hc => ⟨(hk c hc).1, (hk c hc).2.1⟩, h.lo, fun c hc => ?_, yOf_moved h.val (by simp) rfl rfl⟩
  obtain ⟨h1, _, _⟩ := h.blk c hc
  obtain ⟨g1, g2, g3⟩ := hk c hc
  refine ⟨?_, g2, g3⟩
  rw [Array.getElem?_eq_getElem h1] at g1
  exact (Array.getElem?_eq_some_iff.1 g1).1

/-- Objects keep their blocks. -/
theorem Adv.blk_eq {H H' : Heap} {w w' : World} {U U' : Nat → Prop} {β β' : Nat → Blk} (hA : Adv w U β H w' U' β' H' []) {id : Nat} (hi : id < H.length) : β' id = β id := by
  rcases TV.row_or (hget H id) with ⟨e, xs, he⟩ | hn
  · obtain ⟨_, _, h⟩ := hA.row id e xs hi he
    exact (h (by simp)).2
  · exact (hA.box id hi hn).1

/-- One operation in its turn. -/
theorem Inv.step (hT : TIok S.P S.E) (hS : SpecsOK S.P S.E) (hn : h.n = n) {all : List Oper} {H : Heap} {w0 : World} {U0 : Nat → Prop} {β0 : Nat → Blk} {f f1 : Nat → TV} {x : TV} {it : Option TV}
    (hI : Inv S n H w0 U0 β0 f a w U β) (hst : StepP S.E h all H o f1 x it) (hf : ∀ t, t ∈ readsOf all o → f t = f1 t) {K : Act → World → Prop}
    (hK : ∀ a' w' U' β', Inv S n H w0 U0 β0 (upd f o.dst x) a' w' U' β' → (∀ t, o.dst ≠ some t → a'.tmps.getD t undef = a.tmps.getD t undef) → Adv w U β H w' U' β' H [] →
      (∀ y, it = some y → ∃ bl, Item S H w0 w' U' β' y (bOf y) (a'.tmps.getD (o.dst.getD 0) undef) bl ∧ ∀ c, bl.blk = some c → w.heap.size ≤ c) → K a' w') :
    if Region.wanted o (yielded all.toArray a.tmps) then o.wp S.P a w K Q else K (a.put o.dst undef) w := by
  have looks : ∀ t, t ∈ opLooks o.op → t ∈ readsOf all o := by
    intro t ht
    unfold readsOf
    split
    · exact ht
    · split
      · exact List.mem_cons_of_mem _ ht
      · exact ht
  have hmask : maskF (opLooks o.op) f = maskF (opLooks o.op) f1 := List.map_congr_left fun t ht => by rw [hf t (looks t ht)]
  have yl : ∀ j want g b, o.guard = some (j, want) → dstOf all j = some g → f1 g = ⟨.bool, b⟩ → yielded all.toArray a.tmps j = some b := by
    intro j want g b hg hj hb
    have hmem : g ∈ readsOf all o := by unfold readsOf; rw [hg]; simp only [hj]; exact List.mem_cons_self
    have h1 := hI.regs g
    rw [hf g hmem, hb] at h1
    have h2 := getD_bool h1.bool
    unfold yielded
    have h3 : ((all.toArray[j]?).bind (·.dst)) = some g := by simpa [dstOf] using hj
    rw [h3]
    simp [h2]
  have yn : ∀ j want g, o.guard = some (j, want) → dstOf all j = some g → f1 g = .undef → yielded all.toArray a.tmps j = none := by
    intro j want g hg hj hb
    have hmem : g ∈ readsOf all o := by unfold readsOf; rw [hg]; simp only [hj]; exact List.mem_cons_self
    have h1 := hI.regs g
    rw [hf g hmem, hb] at h1
    have h2 := h1.of_und
    unfold yielded
    have h3 : ((all.toArray[j]?).bind (·.dst)) = some g := by simpa [dstOf] using hj
    rw [h3]
    rw [Array.getD_eq_getD_getElem?] at h2
    cases hx : a.tmps[g]? with
    | none => simp [hx]
    | some v => rw [hx] at h2; simp only [Option.getD_some] at h2; subst h2; simp [hx]
  cases hst with
  | run hq hg s1 hr hh ha hd hi =>
    have hw : Region.wanted o (yielded all.toArray a.tmps) = true := by
      rcases hg with hg | ⟨j, want, g, hg, hj, hb⟩
      · exact wanted_none hg
      · rw [wanted_some hg (yl j want g want hg hj hb)]; cases want <;> rfl
    rw [if_pos hw]
    rw [← hmask] at hr
    refine Oper.wp_mono ?_ (wp_put (op_sound (Q := Q) hT hS noCall_sound hn (hI.mask (opLooks o.op)) hr))
    rintro a' w' ⟨hh', v, hv⟩
    obtain ⟨s', U', β', e1, e2, e3, e4⟩ := hh'.out
    obtain rfl : s1 = s' := (Option.some.inj e1).symm
    rw [hh, ha] at e3
    refine hK a' w' U' β' ⟨e2.defers, e2.size, fun t => ?_, hh ▸ e2.wrel, hI.adv.trans e3 fun _ _ h => h⟩ (fun t ht => by rw [hv, getD_put ht]) e3 (fun y e => by rw [hi] at e; cases e)
    unfold upd
    by_cases hdt : o.dst = some t
    · rw [if_pos hdt]
      have := e2.regs t
      rw [(hd t hdt).2, hh] at this
      exact this
    · rw [if_neg hdt, hv, getD_put hdt]
      exact (hI.regs t).adv e3 (avoids_nil _)
  | skip j want g hg hj hb hx hd hi =>
    have hw : Region.wanted o (yielded all.toArray a.tmps) = false := by
      rcases hb with hb | hb
      · rw [wanted_some hg (yl j want g _ hg hj hb)]; cases want <;> rfl
      · exact wanted_undef hg (yn j want g hg hj hb)
    rw [if_neg (by rw [hw]; simp)]
    refine hK _ _ U β ⟨by cases o.dst <;> exact hI.defers, by rw [size_put]; exact hI.size, fun t => ?_, hI.wrel, hI.adv⟩ (fun t ht => getD_put ht) (Adv.refl _ _ _ _ _) (fun y e => by rw [hi] at e; cases e)
    unfold upd
    by_cases hdt : o.dst = some t
    · rw [if_pos hdt, hx, hdt]
      unfold Act.put
      simp [Array.getD_eq_getD_getElem?, Array.getElem?_setIfInBounds, hI.size, ← hn, hd t hdt]
      exact EncV.und
    · rw [if_neg hdt, getD_put hdt]; exact hI.regs t
  | made hg d hd hlt hc y hy s1 hr hh ha hb hx hi hm =>
    have hw : Region.wanted o (yielded all.toArray a.tmps) = true := wanted_none hg
    rw [if_pos hw]
    rw [← hmask] at hr
    refine Oper.wp_mono ?_ (wp_put (op_sound (Q := Q) hT hS noCall_sound hn (hI.mask (opLooks o.op)) hr))
    rintro a' w' ⟨hh', v, hv⟩
    obtain ⟨s', U', β', e1, e2, e3, e4⟩ := hh'.out
    obtain rfl : s1 = s' := (Option.some.inj e1).symm
    rw [hh, ha] at e3
    have htake : (H ++ [y]).take H.length = H := by simp
    have hA : Adv w U β H w' U' β' H [] := by
      have := e3.take (m := H.length) (Nat.le_refl _) (A := []) (fun _ _ h => h)
      rwa [htake] at this
    have hW : WRel S U' β' (H ++ [y]) w' := hh ▸ e2.wrel
    have hWH : WRel S U' β' H w' := by
      have := hW.take (m := H.length) (by rw [htake]; exact hc)
      rwa [htake] at this
    have hlen : H.length < (H ++ [y]).length := by simp
    have hgy : hget (H ++ [y]) H.length = y := hget_append_at
    have hnew : ∀ c, (β' H.length).blk = some c → w.heap.size ≤ c := fun c hcb => by
      refine Classical.byContradiction fun hlt' => ?_
      have g1 := hW.blk_lt hlen hcb
      have hnu : ¬ U c := fun hu => g1.2.2 (hA.use c hu)
      have hnb : ∀ id, id < H.length → (β id).blk ≠ some c := fun id hid hbk => by
        have := hW.heap.inj id H.length c (by simp; omega) hlen (by rw [e3.blk_eq hid]; exact hbk) hcb
        omega
      exact (e3.keep c (by omega) hnu hnb).2.2 H.length hlen hcb
    refine hK a' w' U' β' ⟨e2.defers, e2.size, fun t => ?_, hWH, hI.adv.trans hA fun _ _ h => h⟩ (fun t ht => by rw [hv, getD_put ht]) hA (fun y' e => ?_)
    · unfold upd
      by_cases hdt : o.dst = some t
      · rw [if_pos hdt, hx]
        exact .unk _
      · rw [if_neg hdt, hv, getD_put hdt]
        exact (hI.regs t).adv hA (avoids_nil _)
    · rw [hi] at e
      cases e
      refine ⟨β' H.length, ⟨hy, (hW.heap.obj H.length hlen).moved (by rw [hgy]; exact hy) (by rw [hgy]; rfl) rfl (fun _ h => h) (fun _ _ => rfl) fun c hcb => ⟨rfl, (hW.blk_lt hlen hcb).2.2⟩, fun c hcb => ?_, fun c hcb => ?_, ?_⟩, hnew⟩
      · have g1 := hnew c hcb
        refine Classical.byContradiction fun hlt' => ?_
        have g2 := hW.blk_lt hlen hcb
        have hnu : ¬ U0 c := fun hu => g2.2.2 (hA.use c (hI.adv.use c hu))
        have hnb : ∀ id, id < H.length → (β0 id).blk ≠ some c := fun id hid hbk => by
          have := hW.heap.inj id H.length c (by simp; omega) hlen (by rw [e3.blk_eq hid, hI.adv.blk_eq hid]; exact hbk) hcb
          omega
        have g3 := (hI.adv.keep c (by omega) hnu hnb).1
        rw [Array.getElem?_eq_getElem (xs := w0.heap) (show c < w0.heap.size by omega)] at g3
        have := (Array.getElem?_eq_some_iff.1 g3).1
        omega
      · have g1 := hW.blk_lt hlen hcb
        refine ⟨g1.1, g1.2.2, fun id hid hbk => ?_⟩
        have := hW.heap.inj id H.length c (by simp; omega) hlen hbk hcb
        omega
      · rw [hd]
        have := e2.regs d
        rw [hb, hh] at this
        exact yOf_moved this (by simp) (by rw [hgy]; rfl) rfl

/-- An operation that waits for all before it. -/
def ChainP (all : List Oper) (i : Nat) : Prop :=
  ∀ listed : Array Bool, (∀ j o, all[j]? = some o → listed.getD j false = true → ∀ e ∈ o.after, Region.binds .any e = true → listed.getD e.on false = true) → ∀ o, all[i]? = some o → (∀ e ∈ o.after, Region.binds .any e = true → listed.getD e.on false = true) → ∀ j, j < i → listed.getD j false = true

theorem ready_none {all : List Oper} {listed : Array Bool} (hsz : listed.size = all.length) (hun : unl listed all.length = 0) : Region.ready .any all.toArray listed = [] := by
  have hall := unl_zero _ hun
  cases hr : Region.ready .any all.toArray listed with
  | nil => rfl
  | cons j l =>
    have hj : j ∈ Region.ready .any all.toArray listed := by rw [hr]; exact List.mem_cons_self
    obtain ⟨h1, o, ho, _⟩ := mem_ready.1 hj
    have hlt : j < all.length := by
      have : all[j]? = some o := by simpa using ho
      exact (List.getElem?_eq_some_iff.1 this).1
    have h2 := hall j hlt
    rw [Array.getD_eq_getD_getElem?, Array.getElem?_eq_getElem (by omega)] at h1 h2
    simp at h1 h2
    rw [h1] at h2; cases h2

theorem wpAny_chain_at {P : Program} {all : List Oper} {n0 : Nat} (hbel : ∀ i o, all[i]? = some o → ∀ e ∈ o.after, Region.binds .any e = true → e.on < i) (hlast : ∀ i, n0 ≤ i → ChainP all i) :
    ∀ (rest : List Oper) (i : Nat), n0 ≤ i → ∀ (fuel : Nat) (listed : Array Bool) (a : Act) (w : World), all.drop i = rest → listed.size = all.length → (∀ j, j < i → listed.getD j false = true) → (∀ j, i ≤ j → listed.getD j false = false) → unl listed all.length = fuel →
      wpList P all.toArray Q rest a w → ∀ i' ∈ Region.ready .any all.toArray listed, wpOp P all.toArray Q i' (wpAny P .any all.toArray Q (fuel - 1) (listed.setIfInBounds i' true)) a w := by
  intro rest
  induction rest with
  | nil =>
    intro i hi fuel listed a w hd hsz hin hout hun hw i' hi'
    obtain ⟨h1, o, ho, _⟩ := mem_ready.1 hi'
    have hia : all[i']? = some o := by simpa using ho
    have hlta := (List.getElem?_eq_some_iff.1 hia).1
    have hle : all.length ≤ i := by
      have := congrArg List.length hd
      simp at this; omega
    have h2 := hin i' (by omega)
    rw [Array.getD_eq_getD_getElem?, Array.getElem?_eq_getElem (by omega)] at h1 h2
    simp at h1 h2
    rw [h1] at h2; cases h2
  | cons o rest ih =>
    intro i hi fuel listed a w hd hsz hin hout hun hw i' hi'
    obtain ⟨h1, o', ho, hready⟩ := mem_ready.1 hi'
    have hia : all[i']? = some o' := by simpa using ho
    have hlta := (List.getElem?_eq_some_iff.1 hia).1
    have hif : listed.getD i' false = false := by
      rw [Array.getD_eq_getD_getElem?, Array.getElem?_eq_getElem (by omega)] at h1 ⊢
      simpa using h1
    have hge : i ≤ i' := by
      refine Classical.byContradiction fun hne => ?_
      rw [hin i' (by omega)] at hif; cases hif
    -- what is listed is closed
    have hcl : ∀ j o, all[j]? = some o → listed.getD j false = true → ∀ e ∈ o.after, Region.binds .any e = true → listed.getD e.on false = true := by
      intro j oj hj hl e he hb
      have h5 := hbel j oj hj e he hb
      have h6 : j < i := by
        refine Classical.byContradiction fun hne => ?_
        rw [hout j (by omega)] at hl; cases hl
      exact hin _ (by omega)
    have hall := hlast i' (by omega) listed hcl o' hia hready
    have hi0 : i' = i := by
      refine Classical.byContradiction fun hne => ?_
      have h2 := hall i (by omega)
      rw [hout i (Nat.le_refl _)] at h2; cases h2
    subst hi0
    have ho' : o' = o := by
      have : all[i']? = some o := by
        have := congrArg (fun l => l[0]?) hd
        simpa using this
      rw [hia] at this; exact Option.some.inj this
    subst ho'
    have hu := unl_set (i := i') (by omega) hif all.length
    rw [if_pos hlta] at hu
    have hin' : ∀ j, j < i' + 1 → (listed.setIfInBounds i' true).getD j false = true := by
      intro j hj
      rw [getD_set (by omega)]
      split
      · rfl
      · exact hin j (by omega)
    have hout' : ∀ j, i' + 1 ≤ j → (listed.setIfInBounds i' true).getD j false = false := by
      intro j hj
      rw [getD_set_ne false (by omega)]
      exact hout j (by omega)
    have hd' : all.drop (i' + 1) = rest := by rw [← List.drop_drop, hd]; rfl
    have hK : ∀ a w, wpList P all.toArray Q rest a w → wpAny P .any all.toArray Q (fuel - 1) (listed.setIfInBounds i' true) a w := by
      intro a w hw
      cases hf : fuel - 1 with
      | zero =>
        have hz : unl (listed.setIfInBounds i' true) all.length = 0 := by omega
        have hr : rest = [] := by
          cases rest with
          | nil => rfl
          | cons o2 r =>
            have hl2 : i' + 1 < all.length := by have := congrArg List.length hd'; simp at this; omega
            have := unl_zero _ hz (i' + 1) hl2
            rw [hout' _ (Nat.le_refl _)] at this; cases this
        subst hr
        exact ⟨ready_none (by simpa using hsz) hz, hw⟩
      | succ f =>
        refine ⟨fun hr => ?_, fun i2 hi2 => ?_⟩
        · cases rest with
          | nil => exact hw
          | cons o2 r =>
            have hl2 : i' + 1 < all.length := by have := congrArg List.length hd'; simp at this; omega
            have hj : i' + 1 ∈ Region.ready .any all.toArray (listed.setIfInBounds i' true) := by
              rw [mem_ready]
              have hj : all[i' + 1]? = some all[i' + 1] := List.getElem?_eq_getElem hl2
              refine ⟨?_, all[i' + 1], by simp [hl2], fun e he hb => hin' _ (hbel _ _ hj e he hb)⟩
              have h2 := hout' (i' + 1) (Nat.le_refl _)
              rw [Array.getD_eq_getD_getElem?, Array.getElem?_eq_getElem (by simp; omega)] at h2 ⊢
              simpa using h2
            rw [hr] at hj; cases hj
        · have := ih (i' + 1) (by omega) (f + 1) (listed.setIfInBounds i' true) a w hd' (by simpa using hsz) hin' hout' (by omega) hw i2 hi2
          simpa using this
    have : wpOp P all.toArray Q i' (wpList P all.toArray Q rest) a w := by
      unfold wpOp
      rw [ho]
      exact hw
    exact wpOp_mono hK this

/-- What each uncounted object holds when some operations are listed. -/
def contL (pre : List Oper) (vs : List (Option Nat)) (ys : List TV) (L : Nat → Bool) : Nat → TV := after L 0 (vops pre vs) ys (fun _ => .unk)

/-- The objects of the listed operations. -/
structure Items (S : Base) (H : Heap) (w0 : World) (pre : List Oper) (its : List (Option TV)) (C : Nat → TV) (L : Nat → Bool) (γ : Nat → Blk) (a : Act) (w : World) (U : Nat → Prop) (β : Nat → Blk) : Prop where
  item : ∀ j o d x, pre[j]? = some o → o.dst = some d → its[j]? = some (some x) → L j = true → Item S H w0 w U β (C d) (bOf (C d)) (a.tmps.getD d undef) (γ j)
  inj : ∀ j j' x x' c, its[j]? = some (some x) → its[j']? = some (some x') → L j = true → L j' = true → (γ j).blk = some c → (γ j').blk = some c → j = j'

theorem Items.step {H : Heap} {w0 : World} {pre : List Oper} {its : List (Option TV)} {C C' : Nat → TV} {L L' : Nat → Bool} {γ : Nat → Blk} {U' : Nat → Prop} {β' : Nat → Blk} {a' : Act} {i : Nat} {it : Option TV}
    (h : Items S H w0 pre its C L γ a w U β) (hlen : pre.length = its.length) (hi : pre[i]? = some o) (hit : its[i]? = some it) (hL : ∀ j, L' j = if i = j then true else L j) (hLi : L i = false)
    (hone : ∀ j o' d x, pre[j]? = some o' → o'.dst = some d → its[j]? = some (some x) → j ≠ i → L j = true → o.dst ≠ some d ∧ C' d = C d)
    (hnew : ∀ d x, o.dst = some d → it = some x → C' d = x) (hsome : ∀ (j : Nat) (o' : Oper) (x : TV), pre[j]? = some o' → its[j]? = some (some x) → ∃ d, o'.dst = some d)
    (hr : ∀ t, o.dst ≠ some t → a'.tmps.getD t undef = a.tmps.getD t undef) (hA : Adv w U β H w' U' β' H [])
    (hn : ∀ y, it = some y → ∃ bl, Item S H w0 w' U' β' y (bOf y) (a'.tmps.getD (o.dst.getD 0) undef) bl ∧ ∀ c, bl.blk = some c → w.heap.size ≤ c) :
    ∃ γ', Items S H w0 pre its C' L' γ' a' w' U' β' := by
  have old : ∀ j o' d x, pre[j]? = some o' → o'.dst = some d → its[j]? = some (some x) → j ≠ i → L' j = true → Item S H w0 w' U' β' (C' d) (bOf (C' d)) (a'.tmps.getD d undef) (γ j) := by
    intro j o' d x h1 hd h2 hne hl
    rw [hL j, if_neg (Ne.symm hne)] at hl
    obtain ⟨g1, g2⟩ := hone j o' d x h1 hd h2 hne hl
    rw [hr _ g1, g2]
    exact (h.item j o' d x h1 hd h2 hl).step hA
  cases it with
  | none =>
    refine ⟨γ, ⟨fun j o' d x h1 hd h2 hl => old j o' d x h1 hd h2 (fun e => by rw [e, hit] at h2; cases h2) hl, fun j j' x x' c h1 h2 hl hl' g1 g2 => ?_⟩⟩
    have e1 : i ≠ j := fun e => by rw [← e, hit] at h1; cases h1
    have e2 : i ≠ j' := fun e => by rw [← e, hit] at h2; cases h2
    rw [hL, if_neg e1] at hl
    rw [hL, if_neg e2] at hl'
    exact h.inj j j' x x' c h1 h2 hl hl' g1 g2
  | some y =>
    obtain ⟨bl, hI, hfresh⟩ := hn y rfl
    have far : ∀ j x c, its[j]? = some (some x) → j ≠ i → L' j = true → (γ j).blk = some c → bl.blk = some c → False := by
      intro j x c h1 hne hl g1 g2
      rw [hL, if_neg (Ne.symm hne)] at hl
      have hjl : j < pre.length := by rw [hlen]; exact (List.getElem?_eq_some_iff.1 h1).1
      have hj := List.getElem?_eq_getElem hjl
      obtain ⟨d, hd⟩ := hsome j _ x hj h1
      have := (h.item j _ d x hj hd h1 hl).blk c g1
      have := hfresh c g2
      omega
    refine ⟨fun j => if j = i then bl else γ j, ⟨fun j o' d x h1 hd h2 hl => ?_, fun j j' x x' c h1 h2 hl hl' g1 g2 => ?_⟩⟩
    · by_cases e : j = i
      · subst e
        rw [hi] at h1; rw [hit] at h2
        cases h1; cases h2
        rw [hnew d y hd rfl]
        rw [hd] at hI
        simpa using hI
      · simp only [if_neg e]
        exact old j o' d x h1 hd h2 e hl
    · by_cases e1 : j = i <;> by_cases e2 : j' = i
      · rw [e1, e2]
      · simp only [e1, if_true, if_neg e2] at g1 g2
        exact (far j' x' c h2 e2 hl' g2 g1).elim
      · simp only [e2, if_true, if_neg e1] at g1 g2
        exact (far j x c h1 e1 hl g1 g2).elim
      · simp only [if_neg e1, if_neg e2] at g1 g2
        rw [hL, if_neg (Ne.symm e1)] at hl
        rw [hL, if_neg (Ne.symm e2)] at hl'
        exact h.inj j j' x x' c h1 h2 hl hl' g1 g2

/-- A store into an object that is not counted yet. -/
theorem Inv.put (hT : TIok S.P S.E) (hS : SpecsOK S.P S.E) (hn : h.n = n) {H : Heap} {w0 : World} {U0 : Nat → Prop} {β0 : Nat → Blk} {f : Nat → TV} {x y : TV} {d v : Nat} {bl : Blk}
    (hI : Inv S n H w0 U0 β0 f a w U β) (hit : Item S H w0 w U β x false (a.tmps.getD d undef) bl) (hd : o.dst = none) (hg : o.guard = none) (h1 : (f v).t.pure = true) (h2 : (f v).t.isUnk = false)
    {s1 : St} (hr : opC S.E h noCall o ⟨[(d, yOf false 0), (v, f v)], [x], []⟩ some = some s1) (hh : s1.heap = [y]) (ha : s1.app = []) (hy : objP y.t = true) (hvd : v ≠ d) {K : Act → World → Prop}
    (hK : ∀ w' U', Inv S n H w0 U0 β0 f a w' U' β → Item S H w0 w' U' β y false (a.tmps.getD d undef) bl →
      (∀ x' b' v' bl', Item S H w0 w U β x' b' v' bl' → (∀ c, bl'.blk = some c → bl.blk ≠ some c) → Item S H w0 w' U' β x' b' v' bl') → K a w') : o.wp S.P a w K Q := by
  -- the object alone
  have hx0 : hget [x] 0 = x := rfl
  have hW : WRel S U (fun _ => bl) [x] w := by
    refine ⟨⟨fun id hi => ?_, fun id id' b hi hi' _ _ => by simp at hi hi'; omega⟩, hI.wrel.below, hI.wrel.uin, hI.wrel.uold, fun g z hz => ?_⟩
    · have : id = 0 := by simpa using hi
      subst this; exact hit.obj
    · rcases hI.wrel.globs g z hz with e | ⟨e1, e2, e3⟩
      · exact .inl e
      · exact .inr ⟨e1, e2, ⟨e3.enc.pure_any _ _ _ _ e1, e3.whole⟩⟩
  have hR : FRel S n U (fun _ => bl) ⟨[(d, yOf false 0), (v, f v)], [x], []⟩ a w := by
    refine ⟨hI.defers, hI.size, fun t => ?_, hW⟩
    show EncV w U (fun _ => bl) [x] (lookTV [(d, yOf false 0), (v, f v)] t) _
    simp only [lookTV]
    cases hb : Nat.beq d t with
    | true => have := beqN hb; subst this; exact hit.val
    | false =>
      simp only [cond_false]
      cases hb2 : Nat.beq v t with
      | true =>
        have := beqN hb2; subst this
        have := hI.regs v
        exact .inr ((this.resolve_left (by rw [h2]; simp)).imp_right fun h => h.pure_any _ _ _ _ h1)
      | false => exact .inl rfl
  refine Oper.wp_mono ?_ (wp_put (op_sound (Q := Q) hT hS noCall_sound hn hR hr))
  rintro a' w' ⟨hh', vv, hvv⟩
  obtain ⟨s', U', β', e1, e2, e3, e4⟩ := hh'.out
  obtain rfl : s1 = s' := (Option.some.inj e1).symm
  rw [hh, ha] at e3
  have hbl : β' 0 = bl := e3.blk_eq (id := 0) (by simp)
  have hW' : WRel S U' β' [y] w' := hh ▸ e2.wrel
  have haa : a'.tmps = a.tmps := by rw [hvv, hd]; rfl
  have hoth : ∀ c, c < w.heap.size → ¬ U c → bl.blk ≠ some c → w'.heap[c]? = w.heap[c]? ∧ ¬ U' c := fun c hc hu hne => by
    obtain ⟨g1, g2, _⟩ := e3.keep c hc hu (fun id hid => hne)
    exact ⟨g1, g2⟩
  have hAc : AdvC w U β H w' U' β H [] := ⟨e3.use, e3.same, Nat.le_refl _, fun _ _ xs _ he => ⟨xs, he, fun _ => ⟨rfl, rfl⟩⟩, fun _ _ hn => ⟨rfl, rfl, hn⟩⟩
  have hfar : ∀ id, id < H.length → ∀ c, (β id).blk = some c → c < w.heap.size ∧ ¬ U c ∧ bl.blk ≠ some c := fun id hid c hc => by
    obtain ⟨g1, _, g3⟩ := hI.wrel.blk_lt hid hc
    exact ⟨g1, g3, fun e => (hit.blk c e).2.2 id hid hc⟩
  have hWH : WRel S U' β H w' := by
    refine ⟨⟨fun id hid => ?_, hI.wrel.heap.inj⟩, hW'.below, hW'.uin, hW'.uold, fun g z hz => ?_⟩
    · refine (hI.wrel.heap.obj id hid).advC hAc rfl rfl (fun c hc => ?_) (avoidsO_nil _)
      obtain ⟨g1, g2, g3⟩ := hfar id hid c hc
      exact hoth c g1 g2 g3
    · rcases hI.wrel.globs g z hz with e | ⟨e1, e2, e3⟩
      · exact .inl e
      · exact .inr ⟨e1, e2, e3.advC hAc (avoids_nil _)⟩
  have hsz : ∀ c, c < w.heap.size → c < w'.heap.size := fun c hc => by
    by_cases hu : U c
    · exact hW'.uin c (e3.use c hu)
    · by_cases hb : bl.blk = some c
      · exact (hW'.blk_lt (id := 0) (by simp) (by rw [hbl]; exact hb)).1
      · have := (hoth c hc hu hb).1
        rw [Array.getElem?_eq_getElem hc] at this
        exact (Array.getElem?_eq_some_iff.1 this).1
  have hInv : Inv S n H w0 U0 β0 f a w' U' β := by
    refine ⟨hI.defers, hI.size, fun t => (hI.regs t).advC hAc (avoids_nil _), hWH, ⟨⟨fun b hb => hAc.use b (hI.adv.use b hb), fun b hb => (hAc.same b (hI.adv.use b hb)).trans (hI.adv.same b hb), hI.adv.len, hI.adv.row, hI.adv.box⟩, fun c hc hu hnb => ?_⟩⟩
    obtain ⟨g1, g2, g3⟩ := hI.adv.keep c hc hu hnb
    have hc' : c < w.heap.size := by
      rw [Array.getElem?_eq_getElem hc] at g1
      exact (Array.getElem?_eq_some_iff.1 g1).1
    have hne : bl.blk ≠ some c := fun e => by have := hit.lo c e; omega
    obtain ⟨g4, g5⟩ := hoth c hc' g2 hne
    exact ⟨g4.trans g1, g5, g3⟩
  have hnew : Item S H w0 w' U' β y false (a.tmps.getD d undef) bl := by
    refine ⟨hy, ?_, hit.lo, fun c hc => ?_, ?_⟩
    · exact (hW'.heap.obj 0 (by simp)).moved hy rfl (by rw [hbl]) (fun _ h => h) (fun _ _ => rfl) fun c hc => ⟨rfl, (hW'.blk_lt (id := 0) (by simp) hc).2.2⟩
    · obtain ⟨g1, g2, g3⟩ := hit.blk c hc
      exact ⟨hsz c g1, (hW'.blk_lt (id := 0) (by simp) (by rw [hbl]; exact hc)).2.2, g3⟩
    · have hval := hit.val.resolve_left (by simp [yOf, Ty.isUnk])
      refine .inr ⟨hval.1, ?_⟩
      have h3 := hval.2
      simp only [yOf, cond_false, EncM, LocAt] at h3 ⊢
      obtain ⟨b, off, q1, q2, q3, q4, q5, q6⟩ := h3
      refine ⟨b, off, q1, by simp, q3, ?_, rfl, by rw [q6]; rfl⟩
      intro e xs he
      have : y = ⟨.row e, xs⟩ := he
      subst this
      obtain ⟨h7, _⟩ := e3.box 0 (by simp) q4
      exact (e3.box 0 (by simp) q4).2.2 e xs rfl
  have hother : ∀ x' b' v' bl', Item S H w0 w U β x' b' v' bl' → (∀ c, bl'.blk = some c → bl.blk ≠ some c) → Item S H w0 w' U' β x' b' v' bl' := by
    intro x' b' v' bl' hi' hne
    have hk : ∀ c, bl'.blk = some c → w'.heap[c]? = w.heap[c]? ∧ ¬ U' c := fun c hc => by
      obtain ⟨g1, g2, _⟩ := hi'.blk c hc
      exact hoth c g1 g2 (hne c hc)
    refine ⟨hi'.pure, hi'.obj.moved hi'.pure rfl rfl e3.use e3.same hk, hi'.lo, fun c hc => ?_, yOf_moved hi'.val (by simp) rfl rfl⟩
    obtain ⟨g1, g2, g3⟩ := hi'.blk c hc
    exact ⟨hsz c g1, (hk c hc).2, g3⟩
  have hKK := hK w' U' hInv hnew hother
  have : a' = a := by
    cases a'; cases a
    have h5 := e2.defers
    have h6 := hI.defers
    simp only at haa h5 h6
    subst haa; subst h5; subst h6
    rfl
  rw [this]; exact hKK

/-- All are counted. -/
theorem adopt_all {H : Heap} {w0 : World} {U0 : Nat → Prop} {β0 : Nat → Blk} {C : Nat → TV} :
    ∀ (pdl : List Nat) (δ : Nat → Blk) (s : St) (β2 : Nat → Blk), FRel S n U β2 s a w → Adv w0 U0 β0 H w U β2 s.heap [] →
      (∀ d ∈ pdl, Item S H w0 w U β (C d) (bOf (C d)) (a.tmps.getD d undef) (δ d)) → pdl.Nodup → (∀ d ∈ pdl, ∀ d' ∈ pdl, ∀ c, (δ d).blk = some c → (δ d').blk = some c → d = d') →
      (∀ id c, id < s.heap.length → (β2 id).blk = some c → ∀ d ∈ pdl, (δ d).blk ≠ some c) →
      ∃ β3, FRel S n U β3 (pushPD (withG C pdl) s) a w ∧ Adv w0 U0 β0 H w U β3 (pushPD (withG C pdl) s).heap [] ∧ (pushPD (withG C pdl) s).app = s.app := by
  intro pdl
  induction pdl with
  | nil => intro δ s β2 hR hA _ _ _ _; exact ⟨β2, hR, hA, rfl⟩
  | cons d r ih =>
    intro δ s β2 hR hA hIt hnd hinj hfar
    have hitem := hIt d List.mem_cons_self
    rw [List.nodup_cons] at hnd
    have hfar' : ∀ c, (δ d).blk = some c → ∀ id, id < s.heap.length → (β2 id).blk ≠ some c := fun c hc id hid hbk => hfar id c hid hbk d List.mem_cons_self hc
    have hobj : ObjAt w U (setB β2 s.heap.length (δ d)) (s.heap ++ [C d]) S.w0.heap.size s.heap.length :=
      hitem.obj.moved hitem.pure (by rw [hget_append_at]; rfl) (by simp [setB]) (fun _ h => h) (fun _ _ => rfl) fun c hc => ⟨rfl, (hitem.blk c hc).2.1⟩
    have hW := hR.wrel.adopt hfar' hobj
    have hAc : AdvC w U β2 s.heap w U (setB β2 s.heap.length (δ d)) (s.heap ++ [C d]) [] := AdvC.push (C d) (δ d)
    have hR2 : FRel S n U (setB β2 s.heap.length (δ d)) (pushM s d (C d)) a w := by
      refine ⟨hR.defers, hR.size, fun t => ?_, hW⟩
      show EncV w U _ (s.heap ++ [C d]) ((pushM s d (C d)).get t) _
      unfold pushM
      rw [get_set_upd]
      unfold upd
      by_cases e : d = t
      · subst e
        simp only [if_true]
        exact yOf_moved hitem.val (by simp) (by rw [hget_append_at]; rfl) (by simp [setB])
      · rw [if_neg (by simpa using e)]
        exact (hR.regs t).advC hAc (avoids_nil _)
    have hA2 : Adv w0 U0 β0 H w U (setB β2 s.heap.length (δ d)) (pushM s d (C d)).heap [] := by
      show Adv w0 U0 β0 H w U (setB β2 s.heap.length (δ d)) (s.heap ++ [C d]) []
      have hle := hA.len
      refine ⟨⟨hA.use, hA.same, by simp; omega, fun id e xs hid he => ?_, fun id hid hn => ?_⟩, fun c hc hu hn => ?_⟩
      · obtain ⟨xs', h3, h4⟩ := hA.row id e xs hid he
        refine ⟨xs', by rw [hget_append_lt (by omega)]; exact h3, fun hm => ?_⟩
        obtain ⟨h5, h6⟩ := h4 hm
        exact ⟨h5, by simp only [setB]; rw [if_neg (by omega)]; exact h6⟩
      · obtain ⟨h3, h4, h5⟩ := hA.box id hid hn
        refine ⟨by simp only [setB]; rw [if_neg (by omega)]; exact h3, ?_⟩
        rw [hget_append_lt (by omega)]
        exact ⟨h4, h5⟩
      · obtain ⟨h3, h4, h5⟩ := hA.keep c hc hu hn
        refine ⟨h3, h4, fun id hid hbk => ?_⟩
        simp only [setB] at hbk
        split at hbk
        · have := hitem.lo c hbk; omega
        · simp at hid
          exact h5 id (by omega) hbk
    have := ih δ (pushM s d (C d)) _ hR2 hA2 (fun e he => hIt e (List.mem_cons_of_mem _ he)) hnd.2 (fun e he e' he' => hinj e (List.mem_cons_of_mem _ he) e' (List.mem_cons_of_mem _ he')) (fun id c hid hc e he hec => by
      have hid' : id < s.heap.length + 1 := by
        have : id < (s.heap ++ [C d]).length := hid
        simpa using this
      simp only [setB] at hc
      split at hc
      · have := hinj d List.mem_cons_self e (List.mem_cons_of_mem _ he) c hc hec
        exact hnd.1 (this ▸ he)
      · exact hfar id c (by omega) hc e (List.mem_cons_of_mem _ he) hec)
    obtain ⟨β3, g1, g2, g3⟩ := this
    exact ⟨β3, g1, g2, g3⟩

/-- The registers of the objects. -/
theorem pdlF_spec {E : Env} {h : Hint} {all : List Oper} {H : Heap} : ∀ (l : List Oper) (f : Nat → TV) (xs : List TV) (its : List (Option TV)) (g : Nat → TV) (vs : List (Option Nat)) (ys : List TV) (pd pdl : List Nat), LexP E h all H l f xs its g vs ys pd → pdl.Nodup →
    (∀ (j : Nat) (o : Oper) (d : Nat), l[j]? = some o → o.dst = some d → d ∉ pdl) → (∀ (i j : Nat) (oi oj : Oper) (t : Nat), l[i]? = some oi → l[j]? = some oj → oi.dst = some t → oj.dst = some t → i = j) →
    (pdlF l its pdl).Nodup ∧ ∀ d, d ∈ pdlF l its pdl → d ∈ pdl ∨ ∃ (j : Nat) (o : Oper) (x : TV), l[j]? = some o ∧ o.dst = some d ∧ its[j]? = some (some x) := by
  intro l
  induction l with
  | nil => intro f xs its g vs ys pd pdl hx hnd _ _; obtain ⟨_, rfl, _, _⟩ := hx; exact ⟨hnd, fun d hd => .inl hd⟩
  | cons o l ih =>
    intro f xs its g vs ys pd pdl hx hnd hfr hone
    obtain ⟨x, xs', it, its', v, vs', y, ys', rfl, rfl, rfl, rfl, h1, h2⟩ := hx
    have hone' : ∀ (i j : Nat) (oi oj : Oper) (t : Nat), l[i]? = some oi → l[j]? = some oj → oi.dst = some t → oj.dst = some t → i = j := fun i j oi oj t a b c d => by
      have := hone (i + 1) (j + 1) oi oj t (by simpa using a) (by simpa using b) c d
      omega
    cases it with
    | none =>
      obtain ⟨g1, g2⟩ := ih _ _ _ _ _ _ _ pdl h2 hnd (fun j o d hj => hfr (j + 1) o d (by simpa using hj)) hone'
      refine ⟨g1, fun d hd => (g2 d hd).imp_right fun ⟨j, o', x', q1, q2, q3⟩ => ⟨j + 1, o', x', by simpa using q1, q2, by simpa using q3⟩⟩
    | some z =>
      have hdst : ∃ d, o.dst = some d := by
        cases h1 with
        | base hs hi => cases hi
        | made hs => cases hs with
          | run _ _ _ _ _ _ _ e => cases e
          | skip _ _ _ _ _ _ _ _ e => cases e
          | made _ d hd => exact ⟨d, hd⟩
        | put _ _ hi => cases hi
      obtain ⟨d0, hd0⟩ := hdst
      have hn0 := hfr 0 o d0 rfl hd0
      simp only [pdlF, hd0, Option.getD_some]
      obtain ⟨g1, g2⟩ := ih _ _ _ _ _ _ _ (d0 :: pdl) h2 (List.nodup_cons.2 ⟨hn0, hnd⟩) (fun j o' d hj hd hm => by
        rcases List.mem_cons.1 hm with e | e
        · subst e
          have := hone (j + 1) 0 o' o d (by simpa using hj) rfl hd hd0
          omega
        · exact hfr (j + 1) o' d (by simpa using hj) hd e) hone'
      refine ⟨g1, fun d hd => ?_⟩
      rcases g2 d hd with e | ⟨j, o', x', q1, q2, q3⟩
      · rcases List.mem_cons.1 e with e | e
        · subst e; exact .inr ⟨0, o, z, rfl, hd0, rfl⟩
        · exact .inl e
      · exact .inr ⟨j + 1, o', x', by simpa using q1, q2, by simpa using q3⟩

theorem draw_any (hT : TIok S.P S.E) (hS : SpecsOK S.P S.E) (hn : h.n = n) {all pre rest : List Oper} (hp0 : all = pre ++ rest) {H : Heap} {w0 : World} {U0 : Nat → Prop} {β0 : Nat → Blk} {f0 : Nat → TV} {xs : List TV} {its : List (Option TV)} {vs : List (Option Nat)} {ys : List TV} {pd : List Nat} (hpd : pd = []) (hD : DrawOK S.E h all pre)
    (hbel : ∀ i o, all[i]? = some o → ∀ e ∈ o.after, Region.binds .any e = true → e.on < i)
    (hlast : ∀ i, pre.length ≤ i → ChainP all i)
    (hL : LexP S.E h all H pre f0 xs its (fun _ => .unk) vs ys pd)
    (hq : ∀ a w U β γ, Inv S n H w0 U0 β0 (updL pre f0 xs) a w U β → Items S H w0 pre its (contL pre vs ys fun _ => true) (fun _ => true) γ a w U β → wpList S.P all.toArray Q rest a w) :
    ∀ (fuel : Nat) (listed : Array Bool) (a : Act) (w : World) (U : Nat → Prop) (β : Nat → Blk) (γ : Nat → Blk), listed.size = all.length → unl listed all.length = fuel →
      (∀ j, pre.length ≤ j → listed.getD j false = false) →
      (∀ j o, all[j]? = some o → listed.getD j false = true → ∀ e ∈ o.after, Region.binds .any e = true → listed.getD e.on false = true) →
      Inv S n H w0 U0 β0 (after (fun j => listed.getD j false) 0 pre xs f0) a w U β → Items S H w0 pre its (contL pre vs ys fun j => listed.getD j false) (fun j => listed.getD j false) γ a w U β → wpAny S.P .any all.toArray Q fuel listed a w := by
  obtain ⟨hlen, hlen3, hlen4, hlen5⟩ := lex_len _ _ _ _ _ _ _ _ hL
  have hC : ∀ {L L' : Nat → Bool} {t : Nat}, (∀ j o, (vops pre vs)[j]? = some o → o.dst = some t → L j = L' j) → contL pre vs ys L t = contL pre vs ys L' t := by
    intro L L' t hh
    exact after_agree (vops pre vs) 0 ys _ _ rfl fun j o hj hd => by simpa using hh j o hj hd
  have full : ∀ {L : Nat → Bool} {γ : Nat → Blk} {a : Act} {w : World} {U : Nat → Prop} {β : Nat → Blk}, (∀ j, j < pre.length → L j = true) → Items S H w0 pre its (contL pre vs ys L) L γ a w U β → Items S H w0 pre its (contL pre vs ys fun _ => true) (fun _ => true) γ a w U β := by
    intro L γ a w U β hall hIt
    have e : contL pre vs ys (fun _ => true) = contL pre vs ys L := by
      funext t
      exact hC fun j o hj _ => (hall j (by rw [← hlen4]; exact (List.getElem?_eq_some_iff.1 hj).1)).symm
    rw [e]
    refine ⟨fun j o d x h1 hd h2 _ => hIt.item j o d x h1 hd h2 (hall j (List.getElem?_eq_some_iff.1 h1).1), fun j j' x x' c h1 h2 _ _ g1 g2 => hIt.inj j j' x x' c h1 h2 (hall j ?_) (hall j' ?_) g1 g2⟩
    · rw [hlen3]; exact (List.getElem?_eq_some_iff.1 h1).1
    · rw [hlen3]; exact (List.getElem?_eq_some_iff.1 h2).1
  -- what an object's content is written by
  have kind : ∀ {j : Nat} {o' : Oper} {t : Nat}, (vops pre vs)[j]? = some o' → o'.dst = some t → ∃ oj, pre[j]? = some oj ∧ (oj.dst = some t ∨ (putB oj = true ∧ (putAt oj).1 = t)) := by
    intro j o' t hj hd
    have hjl : j < pre.length := by rw [← hlen4]; exact (List.getElem?_eq_some_iff.1 hj).1
    have hj' := List.getElem?_eq_getElem hjl
    obtain ⟨x, it, v, y, pd', q1, q2, q3, q4, q5, _⟩ := lex_at pre f0 xs its _ vs ys pd j _ hL hj'
    rw [q3] at hj
    cases hj
    refine ⟨_, hj', ?_⟩
    cases q5 with
    | base _ _ hv => rw [hv] at hd; cases hd
    | made _ _ hv => exact .inl (hv ▸ hd)
    | put hp _ _ hv => rw [hv] at hd; exact .inr ⟨hp, Option.some.inj hd⟩
  have rdput : ∀ {o : Oper}, putB o = true → (putAt o).1 ∈ readsOf all o ∧ (putAt o).2 ∈ readsOf all o ∧ o.guard = none ∧ o.dst = none := by
    intro o hp
    unfold putB at hp
    simp only [Bool.and_eq_true] at hp
    obtain ⟨⟨hg, hd⟩, hp⟩ := hp
    have hg := Option.isNone_iff_eq_none.1 hg
    have hd := Option.isNone_iff_eq_none.1 hd
    unfold readsOf putAt
    rw [hg]
    cases hop : o.op <;> rw [hop] at hp <;> try (cases hp; done)
    rename_i t x y
    cases x <;> cases y <;> try (cases hp; done)
    exact ⟨by simp [opLooks, rdO], by simp [opLooks, rdO], rfl, hd⟩
  have hlen2 : all.length = pre.length + rest.length := by rw [hp0]; simp
  have up : ∀ {i : Nat} {o : Oper}, i < pre.length → all[i]? = some o → pre[i]? = some o := by
    intro i o hlt hi
    rw [hp0, List.getElem?_append_left hlt] at hi; exact hi
  have eall : ∀ listed : Array Bool, (∀ j, j < pre.length → listed.getD j false = true) → updL pre f0 xs = after (fun j => listed.getD j false) 0 pre xs f0 := by
    intro listed hall
    rw [updL_all _ _ _ hlen]
    funext t
    refine after_agree pre 0 xs f0 f0 rfl fun j o hj _ => ?_
    have hlt := (List.getElem?_eq_some_iff.1 hj).1
    simp only [Nat.zero_add]
    rw [hall j hlt]
    simpa using hlt
  intro fuel
  induction fuel with
  | zero =>
    intro listed a w U β γ hsz hun hnl hcl hI hIt
    have hall := unl_zero _ hun
    have hrest : rest = [] := by
      cases rest with
      | nil => rfl
      | cons o r =>
        have h1 := hnl pre.length (Nat.le_refl _)
        rw [hall pre.length (by rw [hlen2]; simp)] at h1; cases h1
    have h1 := hq a w U β γ (by rw [eall listed fun j hj => hall j (by omega)]; exact hI) (full (fun j hj => hall j (by omega)) hIt)
    rw [hrest] at h1
    exact ⟨ready_none hsz hun, h1⟩
  | succ fuel ih =>
    intro listed a w U β γ hsz hun hnl hcl hI hIt
    refine ⟨fun hr => ?_, fun i hi => ?_⟩
    · obtain ⟨j, h1, h2, h3⟩ := unl_first (listed := listed) all.length (by omega)
      have hj : j ∈ Region.ready .any all.toArray listed := by
        rw [mem_ready]
        have hj : all[j]? = some all[j] := List.getElem?_eq_getElem h1
        refine ⟨?_, all[j], by simp [h1], fun e he hb => h3 _ (hbel j _ hj e he hb)⟩
        rw [Array.getD_eq_getD_getElem?, Array.getElem?_eq_getElem (by omega)] at h2 ⊢
        simpa using h2
      rw [hr] at hj
      cases hj
    · obtain ⟨h1, o, ho, hready⟩ := mem_ready.1 hi
      have hia : all[i]? = some o := by simpa using ho
      have hlta := (List.getElem?_eq_some_iff.1 hia).1
      have hif : listed.getD i false = false := by
        rw [Array.getD_eq_getD_getElem?, Array.getElem?_eq_getElem (by omega)] at h1 ⊢
        simpa using h1
      have hready' : ∀ e ∈ o.after, Region.binds .any e = true → listed.getD e.on false = true := by
        intro e he hb
        have h5 := hbel i o hia e he hb
        have h6 := hready e he hb
        exact h6
      by_cases hlt : i < pre.length
      · have hi' := up hlt hia
        obtain ⟨x, it, v, y, pd', hx, hit, hvo, hyi, hst, hpd'⟩ := lex_at pre f0 xs its _ vs ys pd i o hL hi'
        rw [updL_take pre 0 i xs f0 hlen, updL_take (vops pre vs) 0 i ys _ (by rw [hlen4]; exact hlen5)] at hst
        -- an operation on which this one leans, and one that leans on it
        have lean : ∀ {j : Nat} {oj : Oper}, pre[j]? = some oj → edgeTo o j = true ∨ edgeTo oj i = true → listed.getD j false = decide (j < i) := by
          intro j oj hj hee
          rcases hee with he | he
          · obtain ⟨e, h2, h3, h4⟩ := edgeTo_spec he
            have h5 := hD.below i o hi' e h2 h3
            have h6 := hready e h2 h3
            rw [h4] at h5 h6
            rw [h6]; simpa using h5
          · obtain ⟨e, h2, h3, h4⟩ := edgeTo_spec he
            have h5 := hD.below j oj hj e h2 h3
            have h6 : listed.getD j false = false := by
              cases hl : listed.getD j false with
              | false => rfl
              | true =>
                have hja : all[j]? = some oj := by rw [hp0, List.getElem?_append_left (List.getElem?_eq_some_iff.1 hj).1]; exact hj
                have := hcl j oj hja hl e h2 h3
                rw [h4, hif] at this; cases this
            rw [h6]
            have : ¬ j < i := by omega
            simp [this]
        have reads : ∀ t, t ∈ readsOf all o → after (fun j => listed.getD j false) 0 pre xs f0 t = after (fun j => decide (j < 0 + i)) 0 pre xs f0 t := fun t ht => by
          refine after_agree pre 0 xs f0 f0 rfl fun j oj hj hd => ?_
          simp only [Nat.zero_add]
          by_cases hji : j = i
          · subst hji; rw [hif]; simp
          · exact lean hj (hD.order i j o oj t hi' hj (Ne.symm hji) hd ht)
        have hL' : ∀ j, (listed.setIfInBounds i true).getD j false = if i = j then true else listed.getD j false := fun j => getD_set (by omega)
        have hsome : ∀ (j : Nat) (o' : Oper) (x : TV), pre[j]? = some o' → its[j]? = some (some x) → madeB h o' = true ∧ ∃ d, o'.dst = some d := by
          intro j o' x1 h1 h2
          obtain ⟨_, it', _, _, _, _, h3, _, _, h4, _⟩ := lex_at pre f0 xs its _ vs ys pd j o' hL h1
          rw [h2] at h3
          cases h3
          cases h4 with
          | base _ hi => cases hi
          | made hs => cases hs with
            | run _ _ _ _ _ _ _ e => cases e
            | skip _ _ _ _ _ _ _ _ e => cases e
            | made _ d hd _ _ _ _ _ _ _ _ _ _ _ hm => exact ⟨hm, d, hd⟩
          | put _ _ hi => cases hi
        -- how it goes on
        have goOn : ∀ (a' : Act) (w' : World) (U' : Nat → Prop) (β' γ' : Nat → Blk), Inv S n H w0 U0 β0 (upd (after (fun j => listed.getD j false) 0 pre xs f0) o.dst x) a' w' U' β' →
            Items S H w0 pre its (contL pre vs ys fun j => (listed.setIfInBounds i true).getD j false) (fun j => (listed.setIfInBounds i true).getD j false) γ' a' w' U' β' →
            wpAny S.P .any all.toArray Q fuel (listed.setIfInBounds i true) a' w' := by
          intro a' w' U' β' γ' hI' hIt'
          refine ih (listed.setIfInBounds i true) a' w' U' β' γ' (by simpa using hsz) ?_ ?_ ?_ ?_ hIt'
          · have := unl_set (i := i) (by omega) hif all.length
            rw [if_pos hlta] at this
            omega
          · intro j hj
            rw [getD_set_ne false (by omega)]
            exact hnl j hj
          · intro j oj hj hl e he hb
            by_cases hji : i = j
            · subst hji
              rw [hia] at hj; cases hj
              exact getD_set_true (hready e he hb)
            · rw [getD_set_ne false hji] at hl
              exact getD_set_true (hcl j oj hj hl e he hb)
          · have e : upd (after (fun j => listed.getD j false) 0 pre xs f0) o.dst x = after (fun j => (listed.setIfInBounds i true).getD j false) 0 pre xs f0 := by
              funext t
              unfold upd
              split
              · rename_i hd
                refine (after_hit pre 0 xs f0 i o x hi' hx hd ?_ fun j' o' hj' hne hd' => hne (hD.one _ _ _ _ _ hj' hi' hd' hd)).symm
                simp only [Nat.zero_add]
                rw [getD_set (by omega), if_pos rfl]
              · rename_i hd
                refine after_agree pre 0 xs f0 f0 rfl fun j oj hj hdj => ?_
                simp only [Nat.zero_add]
                rw [getD_set (by omega), if_neg]
                rintro rfl
                rw [hi'] at hj; cases hj
                exact hd hdj
            rw [← e]; exact hI'
        -- the content that a store or a new object leaves
        have last : ∀ d, v = some d → contL pre vs ys (fun j => (listed.setIfInBounds i true).getD j false) d = y := by
          intro d hv
          refine after_last (vops pre vs) 0 ys _ i _ y hvo hyi hv (by simp only [Nat.zero_add]; rw [hL', if_pos rfl]) fun j' o' hj' hlt' hl' hd' => ?_
          simp only [Nat.zero_add] at hl'
          rw [hL', if_neg (by omega)] at hl'
          obtain ⟨oj, hoj, hk⟩ := kind hj' hd'
          have hself : o.dst = some d ∨ (putB o = true ∧ (putAt o).1 = d) := by
            cases hst with
            | base _ _ h2 => rw [h2] at hv; cases hv
            | made _ _ h2 => exact .inl (h2 ▸ hv)
            | put hp _ _ h2 => rw [h2] at hv; exact .inr ⟨hp, Option.some.inj hv⟩
          have hfalse : (edgeTo oj i = true ∨ edgeTo o j' = true) → False := fun hee => by
            have := lean hoj hee.symm
            rw [hl'] at this
            have : j' < i := by simpa using this.symm
            omega
          rcases hk with hk | ⟨hk1, hk2⟩ <;> rcases hself with hs | ⟨hs1, hs2⟩
          · have := hD.one j' i oj o d hoj hi' hk hs; omega
          · exact hfalse (hD.order i j' o oj d hi' hoj (by omega) hk (hs2 ▸ (rdput hs1).1)).symm
          · exact hfalse (hD.order j' i oj o d hoj hi' (by omega) hs (hk2 ▸ (rdput hk1).1))
          · exact hfalse (hD.puts j' i oj o hoj hi' (by omega) hk1 hs1 (hk2.trans hs2.symm))
        have stay : ∀ d, v ≠ some d → contL pre vs ys (fun j => (listed.setIfInBounds i true).getD j false) d = contL pre vs ys (fun j => listed.getD j false) d := by
          intro d hv
          refine hC fun j o' hj hd => ?_
          rw [hL', if_neg]
          rintro rfl
          rw [hvo] at hj
          cases hj
          exact hv hd
        by_cases hpb : putB o = true
        · -- a store into an object that is not counted yet
          cases hst with
          | base hs => cases hs with
            | run hq2 => rw [(quiet_not hq2).2] at hpb; cases hpb
            | skip j want g hg => rw [(rdput hpb).2.2.1] at hg; cases hg
            | made hg d hd => rw [(rdput hpb).2.2.2] at hd; cases hd
          | made hs => cases hs with
            | run hq2 => rw [(quiet_not hq2).2] at hpb; cases hpb
            | skip j want g hg => rw [(rdput hpb).2.2.1] at hg; cases hg
            | made hg d hd => rw [(rdput hpb).2.2.2] at hd; cases hd
          | put hp hx0 hi0 hv h1 h2 h3 h4 hpm s1 hr hh ha hy hb =>
            obtain ⟨r1, r2, hg, hdn⟩ := rdput hp
            rcases hpd' _ hpm with e | ⟨j0, o0, x0, p1, p2, p3, p4⟩
            · rw [hpd] at e; cases e
            have hlj0 : listed.getD j0 false = true := by
              have := lean p2 (hD.order i j0 o o0 _ hi' p2 (by omega) p3 r1)
              rw [this]; simpa using p1
            have hcont : contL pre vs ys (fun j => listed.getD j false) (putAt o).1 = after (fun j => decide (j < 0 + i)) 0 (vops pre vs) ys (fun _ => .unk) (putAt o).1 := by
              refine after_agree (vops pre vs) 0 ys _ _ rfl fun j o' hj hd => ?_
              simp only [Nat.zero_add]
              by_cases hji : j = i
              · subst hji; rw [hif]; simp
              · obtain ⟨oj, hoj, hk⟩ := kind hj hd
                rcases hk with hk | ⟨hk1, hk2⟩
                · exact lean hoj (hD.order i j o oj _ hi' hoj (Ne.symm hji) hk r1)
                · exact lean hoj (hD.puts i j o oj hi' hoj (Ne.symm hji) hp hk1 hk2.symm)
            have hitem := hIt.item j0 o0 _ x0 p2 p3 p4 hlj0
            rw [← hcont] at h3 hr
            rw [h3] at hitem
            rw [← reads _ r2] at h1 h2 hr
            have hst' := Inv.put (Q := Q) (K := wpAny S.P .any all.toArray Q fuel (listed.setIfInBounds i true)) hT hS hn hI hitem hdn hg h1 h2 hr hh ha hy h4 (fun w' U' hI' hnew hoth => by
              refine goOn a w' U' β γ (by rw [hdn, upd_none]; exact hI') ⟨fun j o' d x1 q1 q2 q3 q4 => ?_, fun j j' x1 x2 c q1 q2 q3 q4 g1 g2 => ?_⟩
              · have hji : i ≠ j := fun e => by rw [← e, hit, hi0] at q3; cases q3
                rw [hL', if_neg hji] at q4
                by_cases e : d = (putAt o).1
                · have hjj : j = j0 := hD.one j j0 o' o0 d q1 p2 q2 (e ▸ p3)
                  subst hjj
                  rw [e, last _ hv, hb]
                  exact hnew
                · rw [stay d (by rw [hv]; exact fun e2 => e (Option.some.inj e2).symm)]
                  refine hoth _ _ _ _ (hIt.item j o' d x1 q1 q2 q3 q4) fun c hc hc2 => ?_
                  have := hIt.inj j j0 x1 x0 c q3 p4 q4 hlj0 hc hc2
                  subst this
                  rw [q1] at p2; cases p2
                  rw [q2] at p3; exact e (Option.some.inj p3)
              · have e1 : i ≠ j := fun e => by rw [← e, hit, hi0] at q1; cases q1
                have e2 : i ≠ j' := fun e => by rw [← e, hit, hi0] at q2; cases q2
                rw [hL', if_neg e1] at q3
                rw [hL', if_neg e2] at q4
                exact hIt.inj j j' x1 x2 c q1 q2 q3 q4 g1 g2)
            unfold wpOp
            simp only [ho]
            rw [if_pos (wanted_none hg)]
            exact .inl hst'
        · have hb : ∃ hs : StepP S.E h all H o (after (fun j => decide (j < 0 + i)) 0 pre xs f0) x it, (it = none ∧ v = none) ∨ (it = some y ∧ v = o.dst) := by
            cases hst with
            | base hs hi hv => exact ⟨hs, .inl ⟨hi, hv⟩⟩
            | made hs hi hv => exact ⟨hs, .inr ⟨hi, hv⟩⟩
            | put hp => exact absurd hp hpb
          obtain ⟨hs, hkind⟩ := hb
          have hst' := Inv.step (Q := Q) (K := wpAny S.P .any all.toArray Q fuel (listed.setIfInBounds i true)) hT hS hn hI hs reads (fun a' w' U' β' hI' hr' hA' hn' => ?_)
          · unfold wpOp
            simp only [ho]
            split
            · rename_i hw; rw [if_pos hw] at hst'; exact .inl hst'
            · rename_i hw; rw [if_neg hw] at hst'; exact hst'
          · obtain ⟨γ', hIt'⟩ := hIt.step (C' := contL pre vs ys fun j => (listed.setIfInBounds i true).getD j false) (L' := fun j => (listed.setIfInBounds i true).getD j false) hlen3 hi' hit hL' hif (fun j o' d x1 h1 hd h2 hne _ => by
              have hnd : o.dst ≠ some d := fun e => hne (hD.one _ _ _ _ _ h1 hi' hd e)
              refine ⟨hnd, stay d fun e => ?_⟩
              rcases hkind with ⟨_, hv⟩ | ⟨_, hv⟩
              · rw [hv] at e; cases e
              · exact hnd (hv ▸ e)) (fun d x1 hd e => by
              rcases hkind with ⟨h1, _⟩ | ⟨h1, hv⟩
              · rw [h1] at e; cases e
              · rw [h1] at e; cases e
                exact last d (hv.trans hd)) (fun j o' x1 h1 h2 => (hsome j o' x1 h1 h2).2) hr' hA' hn'
            exact goOn a' w' U' β' γ' hI' hIt'
      · -- the chain
        have hall : ∀ j, j < i → listed.getD j false = true := hlast i (by omega) listed hcl o hia hready'
        have hi0 : i = pre.length := by
          refine Classical.byContradiction fun hne => ?_
          have h1 := hnl pre.length (Nat.le_refl _)
          rw [hall pre.length (by omega)] at h1; cases h1
        subst hi0
        have hI' : Inv S n H w0 U0 β0 (updL pre f0 xs) a w U β := by rw [eall listed hall]; exact hI
        have hw := hq a w U β γ hI' (full (fun j hj => hall j hj) hIt)
        have hd : all.drop pre.length = rest := by rw [hp0]; simp
        exact wpAny_chain_at hbel hlast rest pre.length (Nat.le_refl _) (fuel + 1) listed a w hd hsz hall hnl hun hw pre.length hi

theorem Adv.any_app {H H' : Heap} {U' : Nat → Prop} {β' : Nat → Blk} {app : List Nat} (hA : Adv w U β H w' U' β' H' []) : Adv w U β H w' U' β' H' app :=
  ⟨⟨hA.use, hA.same, hA.len, fun id e xs hl he => (hA.row id e xs hl he).imp fun _ h => ⟨h.1, fun _ => h.2 (by simp)⟩, hA.box⟩, hA.keep⟩

theorem draw_sound (hT : TIok S.P S.E) (hS : SpecsOK S.P S.E) (hm : S.P.follows .mixedOrders = true) (hn : h.n = n) {ops : Array Oper} {id : Nat} {k : St → Option α} (hR : FRel S n U β s a w) {pre rest : List Oper} (hp0 : ops.toList = pre ++ rest) (hD : DrawOK S.E h ops.toList pre)
    (hbel : ∀ i o, ops.toList[i]? = some o → ∀ e ∈ o.after, Region.binds .any e = true → e.on < i)
    (hlast : ∀ i, pre.length ≤ i → ChainP ops.toList i)
    (hk : opsD S.E h ops.toList pre s [] k = some r)
    (hq : ∀ a' w', Handed S n U β s w k r a' w' → wpList S.P ops Q rest a' w') : (Code.region id ops true).wp S.P Q a w := by
  obtain ⟨xs, its, vs, ys, s', hL, hk', hg, hh, happ⟩ := lex_of pre s (fun _ => .unk) [] k hD.quiet hk
  obtain ⟨_, hlen3, hlen4, hlen5⟩ := lex_len _ _ _ _ _ _ _ _ hL
  refine wp_region_any hm ?_
  have hb : Below w.heap.size w { w with drawn := w.drawn + 1 } := (Below.refl _ _).drew
  have hG := hR.grow hb (U' := U) (fun b => ⟨.inl, fun h => h.elim (fun h => h) fun h => h.2.2⟩)
  have hand : ∀ a w1 U1 β1 γ, Inv S n s.heap w U β (updL pre s.get xs) a w1 U1 β1 → Items S s.heap w pre its (contL pre vs ys fun _ => true) (fun _ => true) γ a w1 U1 β1 → Handed S n U β s w k r a w1 := by
    intro a' w1 U1 β1 γ hI hIt
    have hF : FRel S n U1 β1 s' a' w1 := ⟨hI.defers, hI.size, fun t => by
      have := hI.regs t
      rw [← hg] at this
      rw [hh]; exact this, hh ▸ hI.wrel⟩
    obtain ⟨p1, p2⟩ := pdlF_spec pre _ _ _ _ _ _ _ [] hL List.nodup_nil (fun _ _ _ _ _ h => by cases h) hD.one
    have hC : updL (vops pre vs) (fun _ => .unk) ys = contL pre vs ys fun _ => true := by
      rw [updL_all _ _ _ (by rw [hlen4]; exact hlen5)]
      funext t
      refine after_agree (vops pre vs) 0 ys _ _ rfl fun j o hj _ => ?_
      have := (List.getElem?_eq_some_iff.1 hj).1
      simpa using this
    rw [hC] at hk'
    have hex : ∀ d, d ∈ pdlF pre its [] → ∃ (j : Nat) (o : Oper) (x : TV), pre[j]? = some o ∧ o.dst = some d ∧ its[j]? = some (some x) := fun d hd => (p2 d hd).resolve_left (by simp)
    let ix : Nat → Nat := fun d => Classical.epsilon fun j => ∃ (o : Oper) (x : TV), pre[j]? = some o ∧ o.dst = some d ∧ its[j]? = some (some x)
    have hix : ∀ d, d ∈ pdlF pre its [] → ∃ (o : Oper) (x : TV), pre[ix d]? = some o ∧ o.dst = some d ∧ its[ix d]? = some (some x) := fun d hd => by
      exact Classical.epsilon_spec (p := fun j => ∃ (o : Oper) (x : TV), pre[j]? = some o ∧ o.dst = some d ∧ its[j]? = some (some x)) (hex d hd)
    have hitems : ∀ d, d ∈ pdlF pre its [] → Item S s.heap w w1 U1 β1 (contL pre vs ys (fun _ => true) d) (bOf (contL pre vs ys (fun _ => true) d)) (a'.tmps.getD d undef) (γ (ix d)) := fun d hd => by
      obtain ⟨o, x, q1, q2, q3⟩ := hix d hd
      exact hIt.item _ o d x q1 q2 q3 rfl
    obtain ⟨β2, g1, g2, g3⟩ := adopt_all (S := S) (H := s.heap) (w0 := w) (pdlF pre its []) (fun d => γ (ix d)) s' β1 hF (by rw [hh]; exact hI.adv) (fun d hd => hitems d hd) p1 (fun d hd d' hd' c h1 h2 => by
      obtain ⟨o, x, q1, q2, q3⟩ := hix d hd
      obtain ⟨o', x', q1', q2', q3'⟩ := hix d' hd'
      have e := hIt.inj _ _ x x' c q3 q3' rfl rfl h1 h2
      rw [e, q1'] at q1
      cases q1
      rw [q2'] at q2
      exact (Option.some.inj q2).symm) (fun id c hid hc d hd h1 => by
      rw [hh] at hid
      exact ((hitems d hd).blk c h1).2.2 id hid hc)
    exact ⟨_, U1, β2, hk', g1, g2.any_app, fun _ _ h => by rw [g3, happ]; exact h⟩
  have := draw_any (Q := Q) hT hS hn hp0 rfl hD hbel hlast hL (fun a w1 U1 β1 γ hI hIt => by
      have := hq _ _ (hand a w1 U1 β1 γ hI hIt)
      simpa using this) ops.size (Array.replicate ops.size false) a { w with drawn := w.drawn + 1 } U β (fun _ => ⟨none, 0⟩) (by simp) (by simpa using unl_false ops.size)
    (fun j _ => by
      rw [Array.getD_eq_getD_getElem?]
      by_cases hj : j < ops.size
      · rw [Array.getElem?_eq_getElem (by simpa using hj)]; simp
      · rw [Array.getElem?_eq_none (by simpa using hj)]; rfl)
    (fun j o hj hl => by
      have hlt := (List.getElem?_eq_some_iff.1 hj).1
      rw [Array.getD_eq_getD_getElem?, Array.getElem?_eq_getElem (by simpa using hlt)] at hl
      simp at hl)
    (by
      have e : after (fun j => (Array.replicate ops.size false).getD j false) 0 pre xs s.get = s.get := after_none _ _ _ _ _ fun j => by
        rw [Array.getD_eq_getD_getElem?]
        by_cases hj : 0 + j < ops.size
        · rw [Array.getElem?_eq_getElem (by simpa using hj)]; simp
        · rw [Array.getElem?_eq_none (by simpa using hj)]; rfl
      rw [e]
      exact ⟨hG.defers, hG.size, hG.regs, hG.wrel, Adv.grow hb.block hR.wrel.uin (fun _ h => h) (fun _ _ h => h)⟩)
    (by
      have hf : ∀ j, (Array.replicate ops.size false).getD j false = false := fun j => by
        rw [Array.getD_eq_getD_getElem?]
        by_cases hj : j < ops.size
        · rw [Array.getElem?_eq_getElem (by simpa using hj)]; simp
        · rw [Array.getElem?_eq_none (by simpa using hj)]; rfl
      exact ⟨fun j o d x _ _ _ hl => by (simp only [hf] at hl; cases hl), fun j j' x x' c _ _ hl => by (simp only [hf] at hl; cases hl)⟩)
  simpa using this
end
end Go.Dp
/- What is forgotten where ways meet. -/
set_option autoImplicit false
set_option linter.unusedVariables false
set_option linter.unusedSimpArgs false
namespace Go.Dp
open Go.RowKit

section
variable {w w' : World} {U U' : Nat → Prop} {β β' : Nat → Blk} {H H' : Heap} {m : Nat}

theorem memN_in : ∀ {l : List Nat} {i : Nat}, memN l i = true → i ∈ l := by
  intro l
  induction l with
  | nil => intro i h; cases h
  | cons j l ih =>
    intro i h
    simp only [memN] at h
    cases hb : Nat.beq j i with
    | true => rw [beqN hb]; exact List.mem_cons_self
    | false => rw [hb] at h; exact List.mem_cons_of_mem _ (ih h)

end

theorem castL_some : ∀ (ts : List Ty) (xs : List TV) (y : tysDen ts), castL ts xs = some y → unL ts y = xs ∧ xs.map (·.t) = ts := by
  intro ts
  induction ts with
  | nil =>
    intro xs y h
    cases xs with
    | nil => exact ⟨rfl, rfl⟩
    | cons x xs => cases h
  | cons t ts ih =>
    intro xs y h
    cases xs with
    | nil => cases h
    | cons x xs =>
      unfold castL at h
      split at h
      · rename_i a ha
        split at h
        · rename_i b hb
          cases h
          obtain ⟨h1, h2⟩ := ih _ _ hb
          have := cast_some ha
          subst this
          exact ⟨by simp [unL, h1], by simp [h2]⟩
        · cases h
      · cases h

theorem zipR_mask (f : Nat → TV) : ∀ l : List (Nat × Ty), zipR l (maskT l f) = maskF (l.map (·.1)) f := by
  intro l
  induction l with
  | nil => rfl
  | cons p l ih => simp only [maskT, List.map_cons, zipR, maskF]; rw [show l.map (fun p => f p.1) = maskT l f from rfl, ih]; rfl

theorem regTys_map : ∀ l : List (Nat × Ty), regTys l = l.map (·.2) := by
  intro l
  induction l with
  | nil => rfl
  | cons p l ih => simp [regTys, ih]

/-- What is packed is what was there. -/
theorem unpack_pack {g : Seg} {s : St} {y : g.den} (h : pack g s = some y) (hg : g.ok = true) :
    unpack g y = ⟨maskF (g.regs.map (·.1)) s.get, s.heap.take g.heap.length, g.app⟩ ∧ gcOK g.heap.length (maskT g.regs s.get) = true ∧ gcOK g.heap.length (s.heap.take g.heap.length) = true ∧
      ∀ i, i < g.heap.length → i ∈ s.app → i ∈ g.app := by
  unfold pack at h
  obtain ⟨h1, h⟩ := bif_some h
  split at h
  · rename_i a ha
    split at h
    · rename_i b hb
      cases h
      obtain ⟨e1, e2⟩ := castL_some _ _ _ ha
      obtain ⟨e3, e4⟩ := castL_some _ _ _ hb
      obtain ⟨g1, g2⟩ := and2 hg
      refine ⟨?_, ?_, ?_, fun i hi hm => ?_⟩
      · unfold unpack
        simp only [e1, e3, zipR_mask]
      · unfold gcOK
        rw [List.all_eq_true]
        intro x hx
        have : x.t ∈ regTys g.regs := by rw [← e2]; exact List.mem_map_of_mem hx
        rw [regTys_map] at this
        obtain ⟨p, hp, he⟩ := List.mem_map.1 this
        rw [← he]
        exact List.all_eq_true.1 g1 p hp
      · unfold gcOK
        rw [List.all_eq_true]
        intro x hx
        have : x.t ∈ g.heap := by rw [← e4]; exact List.mem_map_of_mem hx
        exact List.all_eq_true.1 g2 _ this
      · have h2 := List.all_eq_true.1 h1 i hm
        have h3 : Nat.blt i g.heap.length = true := by simpa using hi
        rw [h3] at h2
        exact memN_in (by simpa using h2)
    · cases h
  · cases h

section
variable {S : Base} {n : Nat} {U : Nat → Prop} {β : Nat → Blk} {s : St} {a : Act} {w : World}

theorem pack_ok {w0 : World} {U0 : Nat → Prop} {β0 : Nat → Blk} {H0 : Heap} {app0 : List Nat} {g : Seg} {y : g.den} (hp : pack g s = some y) (hg : g.ok = true) (hR : FRel S n U β s a w) (hA : Adv w0 U0 β0 H0 w U β s.heap s.app)
    (hm : ∀ id, id < H0.length → id ∈ app0 → id ∈ s.app) (hl : H0.length ≤ g.heap.length) :
    FRel S n U β (unpack g y) a w ∧ Adv w0 U0 β0 H0 w U β (unpack g y).heap (unpack g y).app ∧ ∀ id, id < H0.length → id ∈ app0 → id ∈ (unpack g y).app := by
  obtain ⟨e, h1, h2, h3⟩ := unpack_pack hp hg
  rw [e]
  refine ⟨⟨hR.defers, hR.size, fun i => ?_, hR.wrel.take h2⟩, hA.take hl fun id hi h => h3 id (by omega) h, fun id hi h => h3 id (by omega) (hm id hi h)⟩
  show EncV w U β (s.heap.take g.heap.length) (lookTV (maskF (g.regs.map (·.1)) s.get) i) _
  have key : ∀ l' : List (Nat × Ty), gcOK g.heap.length (maskT l' s.get) = true → EncV w U β (s.heap.take g.heap.length) (lookTV (maskF (l'.map (·.1)) s.get) i) (a.tmps.getD i undef) := by
    intro l'
    induction l' with
    | nil => intro _; exact .inl rfl
    | cons j l' ih =>
      intro hg
      simp only [maskT, List.map_cons, gcOK, List.all_cons, Bool.and_eq_true] at hg
      simp only [maskF, List.map_cons, lookTV]
      cases hj : Nat.beq j.1 i with
      | true => obtain rfl := beqN hj; exact (hR.regs j.1).take hg.1
      | false => exact ih hg.2
  exact key _ h1

theorem xeq_eq {e f : XEx} (h : xeq e f = true) : e = f := by
  cases e <;> cases f <;> first | rfl | (cases h; done) | (rw [beqN h])

/-- What is packed at the end of a part, taken up behind it. -/
theorem packO_ok {α : Type} {k : XEx → St → Option α} {r : α} {e : XEx} : ∀ (outs : Outs) (y : outDen outs), packO outs e s = some y → unpackO k outs y = some r →
    ∃ g, (e, g) ∈ outs ∧ ∃ z : g.den, pack g s = some z ∧ k e (unpack g z) = some r := by
  intro outs
  induction outs with
  | nil => intro y h; cases h
  | cons p l ih =>
    intro y h hk
    obtain ⟨t, g⟩ := p
    cases l with
    | nil =>
      simp only [packO] at h
      obtain ⟨h1, h2⟩ := bif_some h
      obtain rfl := xeq_eq h1
      exact ⟨g, List.mem_cons_self, y, h2, hk⟩
    | cons p l =>
      simp only [packO] at h
      cases hx : xeq t e with
      | true =>
        rw [hx] at h
        obtain rfl := xeq_eq hx
        simp only [cond_true] at h
        split at h
        · rename_i z hz
          cases h
          exact ⟨g, List.mem_cons_self, z, hz, hk⟩
        · cases h
      | false =>
        rw [hx] at h
        simp only [cond_false] at h
        split at h
        · rename_i z hz
          cases h
          obtain ⟨g', h1, h2⟩ := ih z hz hk
          exact ⟨g', List.mem_cons_of_mem _ h1, h2⟩
        · cases h
end
end Go.Dp
/- Code. -/
set_option autoImplicit false
set_option linter.unusedVariables false
set_option linter.unusedSimpArgs false
namespace Go.Dp
open Go.RowKit

section
variable {S : Base} {n : Nat} {U : Nat → Prop} {β : Nat → Blk} {s : St} {a : Act} {w w' : World} {α : Type} {r : α} {h : Hint} {Q : Exit → Act → World → Prop} {o : Oper} {call : CallT α}

/-- What code leaves. -/
def IPost (S : Base) (n : Nat) (U : Nat → Prop) (β : Nat → Blk) (s : St) (w : World) {α : Type} (k : XEx → St → Option α) (r : α) : Exit → Act → World → Prop
  | .normal, a', w' => Handed S n U β s w (k .normal) r a' w'
  | .exit id, a', w' => Handed S n U β s w (k (.exit id)) r a' w'
  | .ret, a', w' => Handed S n U β s w (k .ret) r a' w'
  | _, _, _ => False

theorem Handed.imp {k k' : St → Option α} {a' : Act} {w' : World} (hk : ∀ s', k s' = some r → k' s' = some r) (h : Handed S n U β s w k r a' w') : Handed S n U β s w k' r a' w' := by
  obtain ⟨s', U', β', h1, h2⟩ := h.out
  exact ⟨s', U', β', hk s' h1, h2⟩

theorem Handed.now {k : St → Option α} (hR : FRel S n U β s a w) (hk : k s = some r) : Handed S n U β s w k r a w :=
  ⟨s, U, β, hk, hR, Adv.refl _ _ _ _ _, fun _ _ h => h⟩

/-- What is handed on, packed and taken up. -/
theorem Handed.taken {outs : Outs} {e : XEx} {k : XEx → St → Option α} {y : outDen outs} {a' : Act} {w' : World} (hok : outs.ok s.heap.length = true) (hy : unpackO k outs y = some r) (h : Handed S n U β s w (packO outs e) y a' w') :
    Handed S n U β s w (k e) r a' w' := by
  obtain ⟨s', U', β', h1, h2, h3, h4⟩ := h.out
  obtain ⟨g, hg, z, hz, hk⟩ := packO_ok outs y h1 hy
  obtain ⟨g1, g2⟩ := and2 (List.all_eq_true.1 hok _ hg)
  obtain ⟨q1, q2, q3⟩ := pack_ok hz g1 h2 h3 h4 (Nat.le_of_ble_eq_true g2)
  exact ⟨_, U', β', hk, q1, q2, q3⟩

theorem IPost.after {s1 : St} {U1 : Nat → Prop} {β1 : Nat → Blk} {w1 : World} {k : XEx → St → Option α} (hA : Adv w U β s.heap w1 U1 β1 s1.heap s1.app) (hm : ∀ id, id < s.heap.length → id ∈ s.app → id ∈ s1.app) :
    ∀ e a' w', IPost S n U1 β1 s1 w1 k r e a' w' → IPost S n U β s w k r e a' w' := by
  intro e a' w' h
  cases e <;> first | exact Handed.after hA hm h | exact h

theorem IPost.taken {outs : Outs} {k : XEx → St → Option α} {y : outDen outs} (hok : outs.ok s.heap.length = true) (hy : unpackO k outs y = some r) : ∀ e a' w', IPost S n U β s w (packO outs) y e a' w' → IPost S n U β s w k r e a' w' := by
  intro e a' w' h
  cases e <;> first | exact Handed.taken hok hy h | exact h

theorem IPost.block {id : Nat} {k : XEx → St → Option α} : ∀ e a' w', IPost S n U β s w (kBlock id k) r e a' w' → Exit.inBlock id (IPost S n U β s w k r) e a' w' := by
  intro e a' w' hh
  cases e with
  | normal => exact hh
  | exit j =>
    simp only [Exit.inBlock]
    split
    · rename_i e
      subst e
      refine Handed.imp (fun s' hs => ?_) hh
      simpa [kBlock, Nat.beq_refl] using hs
    · rename_i hne
      refine Handed.imp (fun s' hs => ?_) hh
      have : Nat.beq j id = false := by
        cases hb : Nat.beq j id with
        | true => exact absurd (beqN hb) hne
        | false => rfl
      simpa [kBlock, this] using hs
  | ret => exact hh
  | _ => exact hh

theorem region_sound (hT : TIok S.P S.E) (hS : SpecsOK S.P S.E) (hm : S.P.follows .mixedOrders = true) (hC : CallSound S call) (hn : h.n = n) {id : Nat} {ops : Array Oper} {dr : Bool} {k : XEx → St → Option α} (hR : FRel S n U β s a w)
    (hk : regionC S.E h call ops.toList dr s k = some r) : (Code.region id ops dr).wp S.P (IPost S n U β s w k r) a w := by
  unfold regionC at hk
  cases dr with
  | false => exact wp_region_list (by have := ops_sound (Q := IPost S n U β s w k r) hT hS hC hn ops.toList U β s a w hR hk (fun a' w' hh => hh); simpa using this)
  | true =>
    simp only [cond_true] at hk
    obtain ⟨h2, hk⟩ := bif_some hk
    obtain ⟨hbl, hda⟩ := and2 h2
    have hp0 : ops.toList = ops.toList.take (chainCut ops.toList ops.toList.length) ++ ops.toList.drop (chainCut ops.toList ops.toList.length) := (List.take_append_drop _ _).symm
    have hbel : ∀ i o, ops.toList[i]? = some o → ∀ e ∈ o.after, Region.binds .any e = true → e.on < i := by
      have key : ∀ (l : List Oper) (m : Nat), belowAll ops.toList m l = true → ∀ i o, l[i]? = some o → ∀ e ∈ o.after, Region.binds .any e = true → e.on < m + i := by
        intro l
        induction l with
        | nil => intro m _ i o hi; simp at hi
        | cons o l ih =>
          intro m hb i o' hi e he hbi
          simp only [belowAll] at hb
          obtain ⟨g1, g2⟩ := and2 hb
          cases i with
          | zero =>
            obtain rfl : o = o' := by simpa using hi
            unfold edgesBelow at g1
            have h3 := List.all_eq_true.1 g1 e (Array.mem_toList_iff.2 he)
            rw [hbi] at h3
            exact bltN (show Nat.blt e.on m = true by simpa using h3)
          | succ i =>
            have := ih (m + 1) g2 i o' (by simpa using hi) e he hbi
            omega
      intro i o hi e he hb
      have := key ops.toList 0 hbl i o hi e he hb
      omega
    have hcut : ∀ (m i : Nat), chainCut ops.toList m ≤ i → i < m → chainAt ops.toList i = true := by
      intro m
      induction m with
      | zero => intro i _ h; omega
      | succ m ih =>
        intro i h1 h2
        simp only [chainCut] at h1
        cases hc : chainAt ops.toList m with
        | true =>
          rw [hc] at h1
          by_cases e : i = m
          · subst e; exact hc
          · exact ih i h1 (by omega)
        | false => rw [hc] at h1; simp at h1; omega
    have hcle : ∀ m, chainCut ops.toList m ≤ m := by
      intro m
      induction m with
      | zero => exact Nat.le_refl _
      | succ m ih =>
        simp only [chainCut]
        cases chainAt ops.toList m with
        | true => simp only [cond_true]; omega
        | false => exact Nat.le_refl _
    have hlen : (ops.toList.take (chainCut ops.toList ops.toList.length)).length = chainCut ops.toList ops.toList.length := by
      rw [List.length_take]; have := hcle ops.toList.length; omega
    have hD := drawAll_ok hp0 hda
    refine draw_sound hT hS hm hn hR hp0 hD hbel (fun i hi listed hcl o ho hr j hj => ?_) hk (fun a' w' hh => ?_)
    · have hlt := (List.getElem?_eq_some_iff.1 ho).1
      have hch := hcut ops.toList.length i (by rw [hlen] at hi; exact hi) hlt
      unfold chainAt at hch
      refine anc_listed (L := fun j => listed.getD j false = true) (fun i' hi' m hm => ?_) _ _ (fun m hm => ?_) j (allIn_spec _ hch j hj)
      · unfold edgesAt at hm
        split at hm
        · rename_i oi hoi
          obtain ⟨e, g1, g2, rfl⟩ := bindsL_spec.1 hm
          exact hcl i' oi hoi hi' e g1 g2
        · cases hm
      · unfold edgesAt at hm
        rw [ho] at hm
        obtain ⟨e, g1, g2, rfl⟩ := bindsL_spec.1 hm
        exact hr e g1 g2
    · obtain ⟨s', U', β', e1, e2, e3, e4⟩ := hh.out
      have := ops_sound (Q := IPost S n U β s w k r) hT hS hC hn (all := ops.toList) (ops.toList.drop (chainCut ops.toList ops.toList.length)) U' β' s' a' w' e2 e1 (fun a2 w2 hh2 => hh2.after e3 e4)
      simpa using this

theorem interp_sound {call : AnyCall} (hT : TIok S.P S.E) (hS : SpecsOK S.P S.E) (hm : S.P.follows .mixedOrders = true) (hC : ∀ α, CallSound S (call α)) (hn : h.n = n) : ∀ (c : Code) (α : Type) (U : Nat → Prop) (β : Nat → Blk) (s : St) (a : Act) (w : World) (k : XEx → St → Option α) (r : α),
    FRel S n U β s a w → interp S.E h call c α s k = some r → c.wp S.P (IPost S n U β s w k r) a w := by
  intro c
  induction c with
  | skip => intro α U β s a w k r hR hk; exact wp_skip (Handed.now hR hk)
  | label l => intro α U β s a w k r hR hk; exact wp_label (Handed.now hR hk)
  | ret => intro α U β s a w k r hR hk; exact wp_ret (Handed.now hR hk)
  | exit id => intro α U β s a w k r hR hk; exact wp_exit (Handed.now hR hk)
  | region id ops dr =>
    intro α U β s a w k r hR hk
    unfold interp at hk
    split at hk
    · rename_i outs ho
      obtain ⟨hok, hk⟩ := bif_some hk
      rw [Option.bind_eq_some_iff] at hk
      obtain ⟨z, hz, hk⟩ := hk
      exact wp_mono (region_sound hT hS hm (hC _) hn hR hz) (IPost.taken hok hk)
    · exact region_sound hT hS hm (hC α) hn hR hk
  | seq x y ihx ihy =>
    intro α U β s a w k r hR hk
    unfold interp at hk
    refine wp_seq (wp_mono (ihx α U β s a w _ r hR hk) fun e a' w' hh => ?_)
    cases e with
    | normal =>
      obtain ⟨s', U', β', h1, h2, h3, h4⟩ := Handed.out hh
      exact wp_mono (ihy α U' β' s' a' w' k r h2 h1) (IPost.after h3 h4)
    | exit id => exact hh
    | ret => exact hh
    | _ => exact hh
  | cond c x y ihx ihy =>
    intro α U β s a w k r hR hk
    unfold interp at hk
    obtain ⟨v, hv, hk⟩ := asB_some hk
    have hc := hR.ev 0 c
    rw [hv] at hc
    refine wp_cond hc.bool ?_
    split at hk
    · rename_i outs ho
      obtain ⟨hok, hk1⟩ := bif_some hk
      rw [Option.bind_eq_some_iff] at hk1
      obtain ⟨z, hz, hk2⟩ := hk1
      cases v with
      | true => exact wp_mono (ihx _ U β s a w _ z hR hz) (IPost.taken hok hk2)
      | false => exact wp_mono (ihy _ U β s a w _ z hR hz) (IPost.taken hok hk2)
    · cases v with
      | true => exact ihx α U β s a w k r hR hk
      | false => exact ihy α U β s a w k r hR hk
  | block id b ih =>
    intro α U β s a w k r hR hk
    unfold interp at hk
    split at hk
    · rename_i outs ho
      obtain ⟨hok, hk⟩ := bif_some hk
      rw [Option.bind_eq_some_iff] at hk
      obtain ⟨z, hz, hk⟩ := hk
      refine wp_block (wp_mono (ih _ U β s a w _ z hR hz) fun e a' w' hh => ?_)
      have := IPost.block e a' w' hh
      cases e with
      | normal => exact IPost.taken hok hk .normal a' w' this
      | exit j =>
        simp only [Exit.inBlock] at this ⊢
        split
        · rename_i e; rw [if_pos e] at this; exact IPost.taken hok hk .normal a' w' this
        · rename_i e; rw [if_neg e] at this; exact IPost.taken hok hk (.exit j) a' w' this
      | ret => exact IPost.taken hok hk .ret a' w' this
      | _ => exact this
    · exact wp_block (wp_mono (ih α U β s a w _ r hR hk) IPost.block)
  | loop b ih =>
    intro α U β s a w k r hR hk
    unfold interp at hk
    split at hk
    · rename_i g outs ho
      obtain ⟨hok, hk⟩ := bif_some hk
      obtain ⟨hok, hgo, hle⟩ := and3 hok
      have hle := Nat.le_of_ble_eq_true hle
      rw [Option.bind_eq_some_iff] at hk
      obtain ⟨x, hx, hk⟩ := hk
      rw [Option.bind_eq_some_iff] at hk
      obtain ⟨z, hz, hk⟩ := hk
      obtain ⟨g1, g2, g3⟩ := pack_ok hx hgo hR (Adv.refl w U β s.heap s.app) (fun _ _ h => h) hle
      refine wp_mono ?_ (IPost.taken hok hk)
      refine wp_loop_ghost (fun m a' w' => ∃ x' U' β', loopV outs g (interp S.E h call b (outDen outs)) m x' = some z ∧ FRel S n U' β' (unpack g x') a' w' ∧
        Adv w U β s.heap w' U' β' (unpack g x').heap (unpack g x').app ∧ ∀ id, id < s.heap.length → id ∈ s.app → id ∈ (unpack g x').app) S.E.K ⟨x, U, β, hz, g1, g2, g3⟩ ?_
      rintro m a1 w1 ⟨x1, U1, β1, h1, h2, h3, h4⟩
      cases m with
      | zero => cases h1
      | succ m =>
        refine wp_mono (ih _ U1 β1 _ a1 w1 _ z h2 h1) fun e a' w' hh => ?_
        have hl := h3.len
        cases e with
        | normal =>
          obtain ⟨s', U', β', e1, e2, e3, e4⟩ := Handed.out hh
          simp only [Option.bind_eq_some_iff] at e1
          obtain ⟨x', hx', e1⟩ := e1
          obtain ⟨q1, q2, q3⟩ := pack_ok hx' hgo e2 (h3.trans e3 fun id hl' hi => e4 id (by omega) hi) (fun id hl' hi => e4 id (by omega) (h4 id hl' hi)) hle
          exact ⟨m, Nat.lt_succ_self m, x', U', β', e1, q1, q2, q3⟩
        | exit id => exact Handed.after h3 h4 hh
        | ret => exact Handed.after h3 h4 hh
        | _ => exact hh
    · refine wp_loop_ghost (fun m a' w' => ∃ s' U' β', loopC (interp S.E h call b α) m s' k = some r ∧ FRel S n U' β' s' a' w' ∧
        Adv w U β s.heap w' U' β' s'.heap s'.app ∧ ∀ id, id < s.heap.length → id ∈ s.app → id ∈ s'.app) S.E.U ⟨_, U, β, hk, hR, Adv.refl w U β s.heap s.app, fun _ _ h => h⟩ ?_
      rintro m a1 w1 ⟨s1, U1, β1, h1, h2, h3, h4⟩
      cases m with
      | zero => cases h1
      | succ m =>
        refine wp_mono (ih α U1 β1 s1 a1 w1 _ r h2 h1) fun e a' w' hh => ?_
        cases e with
        | normal =>
          obtain ⟨s', U', β', e1, e2, e3, e4⟩ := Handed.out hh
          have hl := h3.len
          exact ⟨m, Nat.lt_succ_self m, s', U', β', e1, e2, h3.trans e3 fun id hl' hi => e4 id (by omega) hi, fun id hl' hi => e4 id (by omega) (h4 id hl' hi)⟩
        | exit id => exact Handed.after h3 h4 hh
        | ret => exact Handed.after h3 h4 hh
        | _ => exact hh
  | scope b ih =>
    intro α U β s a w k r hR hk
    unfold interp at hk
    refine wp_scope_straight (wp_mono (ih α U β s a w _ r hR hk) fun e a' w' hh => ?_)
    cases e <;> exact hh
  | _ => intro α U β s a w k r hR hk; simp [interp] at hk
end
end Go.Dp
/- Functions. -/
set_option autoImplicit false
set_option linter.unusedVariables false
set_option linter.unusedSimpArgs false
namespace Go.Dp
open Go.RowKit

/-- The functions that the table holds are the program's. -/
structure FnsOK (P : Program) (E : Env) : Prop where
  ok : ∀ f fb h, look E.fns f = some (fb, h) → P.funcs[f]? = some fb ∧ EnterOK P f

section
variable {S : Base} {n : Nat} {U : Nat → Prop} {β : Nat → Blk} {s : St} {a : Act} {w w' : World} {α : Type} {r : α} {h : Hint} {call : CallT α}

theorem load_asAddr {P : Program} {t : TypeId} {x v : Value} (h : (Instr.loadAt t x).run P w = .ok v w') : (do loadVar t (← asAddr x) : Sem Value).run P w = .ok v w' := by
  unfold Instr.loadAt Instr.sureAddr at h
  cases x <;> first | exact h | (simp at h; done) | skip
  rename_i A
  cases A <;> first | exact h | (simp at h; done)

/-- The result variables one by one. -/
theorem resC_ok (hT : TIok S.P S.E) (hR : FRel S n U β s a w) : ∀ (l : List ResultVar) (k : List TV → Option α), resC S.E s l k = some r →
    ∃ xs vs, k xs = some r ∧ xs.length = vs.length ∧ vs.length = l.length ∧ (∀ i (h : i < xs.length) (h' : i < vs.length), EncV w U β s.heap xs[i] vs[i]) ∧
      ∀ f : ResultVar → Sem Value, (∀ t, f (.tmp t) = pure (a.tmps.getD t undef)) → (∀ a' t, f (.cell a' t) = do loadVar t (← asAddr (a.tmps.getD a' undef))) → (l.mapM f).run S.P w = .ok vs w := by
  intro l
  induction l with
  | nil => intro k hk; exact ⟨[], [], hk, rfl, rfl, fun i h => by simp at h, fun f _ _ => by simp⟩
  | cons x l ih =>
    intro k hk
    cases x with
    | tmp t =>
      obtain ⟨xs, vs, h1, h2, h3, h4, h5⟩ := ih _ hk
      refine ⟨s.get t :: xs, a.tmps.getD t undef :: vs, h1, by simp [h2], by simp [h3], fun i hi hi' => ?_, fun f f1 f2 => ?_⟩
      · cases i with
        | zero => exact hR.regs t
        | succ i => exact h4 i (by simpa using hi) (by simpa using hi')
      · simp only [List.mapM_cons, f1, Sem.run_bind, Sem.run_pure, Result.andThen_ok, h5 f f1 f2]
    | cell b t =>
      obtain ⟨z, v, h1, h2, h3⟩ := loadC_ok (P := S.P) hT hR.wrel.heap (hR.regs b) hk
      obtain ⟨xs, vs, g1, g2, g3, g4, g5⟩ := ih _ h1
      refine ⟨z :: xs, v :: vs, g1, by simp [g2], by simp [g3], fun i hi hi' => ?_, fun f f1 f2 => ?_⟩
      · cases i with
        | zero => exact h2
        | succ i => exact g4 i (by simpa using hi) (by simpa using hi')
      · have h3' : (do loadVar t (← asAddr (a.tmps.getD b undef)) : Sem Value).run S.P w = .ok v w := load_asAddr h3
        rw [List.mapM_cons, f2, Sem.run_bind, h3']
        simp only [Result.andThen_ok, Sem.run_bind, g5 f f1 f2, Sem.run_pure]

theorem oneOrTup_ok {H : Heap} {xs : List TV} {vs : List Value} (hl : xs.length = vs.length) (hv : ∀ i (h : i < xs.length) (h' : i < vs.length), EncV w U β H xs[i] vs[i]) :
    EncV w U β H (oneOrTup xs) (if h : vs.toArray.size = 1 then vs.toArray[0] else .tuple vs.toArray) := by
  by_cases h1 : vs.length = 1
  · rw [dif_pos (by simpa using h1)]
    obtain ⟨v, rfl⟩ : ∃ v, vs = [v] := by
      cases vs with
      | nil => simp at h1
      | cons v l => cases l with
        | nil => exact ⟨v, rfl⟩
        | cons _ _ => simp at h1
    obtain ⟨x, rfl⟩ : ∃ x, xs = [x] := by
      cases xs with
      | nil => simp at hl
      | cons v l => cases l with
        | nil => exact ⟨v, rfl⟩
        | cons _ _ => simp at hl
    exact hv 0 (by simp) (by simp)
  · rw [dif_neg (by simpa using h1)]
    have : oneOrTup xs = ⟨.tup (chMk xs).t, (chMk xs).v⟩ := by
      unfold oneOrTup
      split
      · simp at hl; omega
      · rfl
    rw [this]
    refine .inr ⟨rfl, ?_⟩
    simp only [EncM, Value.cells]
    exact ⟨_, rfl, chMk_true _ _ hl hv⟩

theorem regsOf_get : ∀ (l : List TV) (i j : Nat), lookTV (regsOf i l) j = if i ≤ j then (l[j - i]?).getD .unk else .unk := by
  intro l
  induction l with
  | nil => intro i j; simp [regsOf, lookTV]
  | cons x l ih =>
    intro i j
    simp only [regsOf, lookTV]
    cases hb : Nat.beq i j with
    | true => obtain rfl := beqN hb; simp
    | false =>
      have hne : i ≠ j := fun e => by subst e; rw [Nat.beq_refl] at hb; cases hb
      simp only [cond_false]
      rw [ih]
      by_cases hij : i ≤ j
      · rw [if_pos hij, if_pos (by omega)]
        have : j - i = (j - (i + 1)) + 1 := by omega
        rw [this]
        simp
      · rw [if_neg hij, if_neg (by omega)]

theorem callF_sound (hT : TIok S.P S.E) (hS : SpecsOK S.P S.E) (hF : FnsOK S.P S.E) (hm : S.P.follows .mixedOrders = true) : ∀ d, ∀ α, CallSound S (callF S.E d α) := by
  intro d
  induction d with
  | zero => intro α f args H k r hk; simp [callF] at hk
  | succ d ih =>
    intro α f args H k r hk
    unfold callF at hk
    split at hk
    · rename_i fb h hlook
      obtain ⟨hfn, hent⟩ := hF.ok f fb h hlook
      split at hk
      · rename_i c hbody
        obtain ⟨h1, hk⟩ := bif_some hk
        obtain ⟨h1, h2⟩ := and2 h1
        have hn : h.n = fb.ntmps := beqN h1
        have hle : args.length ≤ h.n := Nat.le_of_ble_eq_true h2
        refine ⟨hent, fun U β w vals hW hl hv => ?_⟩
        have hR : FRel S h.n U β ⟨regsOf 0 args, H, []⟩ { tmps := vals.toArray ++ Array.replicate (fb.ntmps - vals.toArray.size) undef, defers := [] } w := by
          refine ⟨rfl, by simp; omega, fun i => ?_, hW⟩
          show EncV w U β H (lookTV (regsOf 0 args) i) _
          rw [regsOf_get]
          simp only [Nat.zero_le, if_true, Nat.sub_zero]
          by_cases hi : i < args.length
          · have := hv i hi (by omega)
            rw [List.getElem?_eq_getElem hi]
            simp only [Option.getD_some]
            have e : (vals.toArray ++ Array.replicate (fb.ntmps - vals.toArray.size) undef).getD i undef = vals[i]'(by omega) := by
              rw [Array.getD_eq_getD_getElem?, Array.getElem?_append_left (by simp; omega)]
              simp [show i < vals.length by omega]
            rw [e]; exact this
          · rw [List.getElem?_eq_none (by omega)]; exact .inl rfl
        refine calls_of_wp hfn hbody (wp_mono (interp_sound hT hS hm ih rfl c α U β _ _ w _ r hR hk) ?_)
        -- the end
        have leave : ∀ {s' : St} {U' : Nat → Prop} {β' : Nat → Blk} {a' : Act} {w' : World}, (resC S.E s' fb.results.toList fun r => leaveC H.length s' k (oneOrTup r)) = some r → FRel S h.n U' β' s' a' w' → Adv w U β H w' U' β' s'.heap s'.app →
            a'.defers = [] ∧ ∃ v, (results fb a'.tmps).run S.P w' = .ok v w' ∧ CallPost S U β H w k r (.returned v) w' := by
          intro s' U' β' a' w' hk hR' hA
          obtain ⟨xs, vs, g1, g2, g3, g4, g5⟩ := resC_ok hT hR' _ _ hk
          refine ⟨hR'.defers, if h : vs.toArray.size = 1 then vs.toArray[0] else .tuple vs.toArray, ?_, ?_⟩
          · unfold results
            rw [← Array.toArray_toList (xs := fb.results), List.mapM_toArray]
            simp only [Sem.run_bind, Sem.run_map]
            rw [g5 _ (fun _ => rfl) (fun _ _ => rfl)]
            rfl
          · have he := oneOrTup_ok g2 g4
            unfold leaveC at g1
            cases hb : gcOK H.length (oneOrTup xs :: s'.heap.take H.length) with
            | false =>
              rw [hb] at g1
              exact ⟨_, _, _, _, U', β', rfl, he, hR'.wrel, hA, g1⟩
            | true =>
              rw [hb] at g1
              simp only [gcOK, List.all_cons, Bool.and_eq_true] at hb
              exact ⟨_, _, _, _, U', β', rfl, he.take hb.1, hR'.wrel.take hb.2, hA.take (Nat.le_refl _) fun _ _ h => h, g1⟩
        intro e a' w' hh
        cases e with
        | normal =>
          obtain ⟨s', U', β', e1, e2, e3, e4⟩ := Handed.out hh
          exact leave e1 e2 e3
        | ret =>
          obtain ⟨s', U', β', e1, e2, e3, e4⟩ := Handed.out hh
          exact leave e1 e2 e3
        | exit id => obtain ⟨s', U', β', e1, e2⟩ := Handed.out hh; cases e1
        | _ => exact hh.elim
      · cases hk
    · cases hk
end
end Go.Dp
/- Contracts. -/
set_option autoImplicit false
set_option linter.unusedVariables false
set_option linter.unusedSimpArgs false
namespace Go.Dp
open Go.RowKit

def Env.at (E : Env) (K : Nat) : Env := ⟨E.ti, E.gl, E.muts, E.owns, E.fns, E.specs, K, E.U⟩

/-- All that is shown once of a program's tables. -/
structure Known0 (P : Program) (E : Env) : Prop where
  ti : TIok P E
  fns : FnsOK P E
  mixed : P.follows .mixedOrders = true

theorem contract_of {P : Program} {E : Env} (h0 : Known0 P E) (hS : SpecsOK P E) {f d : Nat} {Sp : Spec} (hent : EnterOK P f) (ha : Sp.args.pure = true) (hr : Sp.res.pure = true)
    (hb : ∀ K x r, Sp.F K x = some r → body (E.at K) d f Sp x = some r) : Contract P E.gl f Sp := by
  refine ⟨ha, hr, fun K x r hx w U vals hU hg he => .inl ⟨hent, ?_⟩⟩
  have hW : WRel ⟨P, E.at K, w, U⟩ U noB [] w := by
    refine ⟨⟨fun id hi => absurd hi (by simp), fun id id' b hi => absurd hi (by simp)⟩, Below.refl _ _, hU, fun b _ => Iff.rfl, hg⟩
  obtain ⟨h1, h2⟩ := chList_ok _ _ _ he
  obtain ⟨_, hc⟩ := callF_sound (S := ⟨P, E.at K, w, U⟩) ⟨h0.ti.eqs, h0.ti.ok⟩ ⟨hS.ok, hS.turn, hS.own⟩ ⟨h0.fns.ok⟩ h0.mixed d Sp.res.den f (chList Sp.args x) [] (fin Sp.res) r (hb K x r hx)
  refine (hc U noB w vals.toList hW h1 h2).mono ?_
  rintro e w' ⟨v, y, H', app, U', β', rfl, hy, hW', hA, hk⟩
  let U2 : Nat → Prop := fun b => U' b ∨ ∃ id, id < H'.length ∧ (β' id).blk = some b
  have hval := deepF_val (U2 := U2) hW'.heap (fun b h => .inl h) (fun id b h1 h2 => .inr ⟨id, h1, h2⟩) 3 hy
  have hcast := cast_some hk
  rw [hcast] at hval
  refine ⟨v, U2, rfl, hW'.below, fun b => ⟨fun h => ?_, fun h => ?_⟩, ?_⟩
  · rcases h with h | ⟨id, hi, hb⟩
    · by_cases hlt : b < w.heap.size
      · exact .inl ((hW'.uold b hlt).1 h)
      · exact .inr ⟨by omega, hW'.uin b h, .inl h⟩
    · obtain ⟨g1, g2, _⟩ := hW'.blk_lt hi hb
      exact .inr ⟨g2, g1, .inr ⟨id, hi, hb⟩⟩
  · rcases h with h | ⟨_, _, h⟩
    · exact .inl ((hW'.uold b (hU b h)).2 h)
    · exact h
  · rcases hval with h | ⟨g1, g2⟩
    · exact .inl h
    · exact .inr ⟨g1, g2.pure_any _ _ _ _ hr⟩
end Go.Dp
namespace Go.Dp
open Go.RowKit

/-- The same of a function whose answer is a row of its own. -/
def finO (e : Ty) (x : TV) (H : Heap) (_ : List Nat) : Option (List e.den) :=
  match x with
  | ⟨.slw id, _⟩ => match hget H id with
    | ⟨.row e', xs⟩ => cast (.list e) ⟨.list e', xs⟩
    | _ => none
  | _ => none
def bodyO (E : Env) (d f : Nat) (O : OSpec) (x : O.args.den) : Option (List O.e.den) :=
  callF E d (List O.e.den) f (chList O.args x) [] [] (finO O.e)

theorem ocontract_of {P : Program} {E : Env} (h0 : Known0 P E) (hS : SpecsOK P E) {f d : Nat} {O : OSpec} (hent : EnterOK P f) (ha : O.args.pure = true) (hn : O.e.noMem = true) (hel : O.e.elem = true)
    (hb : ∀ K x r, O.F K x = some r → bodyO (E.at K) d f O x = some r) : OContract P E.gl f O := by
  refine ⟨ha, hn, hel, hent, fun K x zs hx w U vals hU hg he => ?_⟩
  have hW : WRel ⟨P, E.at K, w, U⟩ U noB [] w := by
    refine ⟨⟨fun id hi => absurd hi (by simp), fun id id' b hi => absurd hi (by simp)⟩, Below.refl _ _, hU, fun b _ => Iff.rfl, hg⟩
  obtain ⟨h1, h2⟩ := chList_ok _ _ _ he
  obtain ⟨_, hc⟩ := callF_sound (S := ⟨P, E.at K, w, U⟩) ⟨h0.ti.eqs, h0.ti.ok⟩ ⟨hS.ok, hS.turn, hS.own⟩ ⟨h0.fns.ok⟩ h0.mixed d (List O.e.den) f (chList O.args x) [] (finO O.e) zs (hb K x zs hx)
  refine (hc U noB w vals.toList hW h1 h2).mono ?_
  rintro e w' ⟨v, y, H', app, U', β', rfl, hy, hW', hA, hk⟩
  unfold finO at hk
  split at hk
  · rename_i id u
    split at hk
    · rename_i e' xs hg'
      have hcast := cast_some hk
      cases hcast
      have hm := hy.one rfl rfl
      simp only [EncM] at hm
      obtain ⟨e2, xs2, hid, hg2, hv⟩ := hm
      rw [hg'] at hg2
      cases hg2
      have hv := (List.cons.inj hv).1
      subst hv
      refine ⟨β' id, rfl, hW'.below, ?_⟩
      obtain ⟨_, hrow⟩ := (hW'.heap.obj id hid).row hg'
      rcases hrow with ⟨q1, q2, q3⟩ | ⟨b, arr, el, fr, q1, q2, q3, q4, q5, q6, q7, q8⟩
      · exact .inl ⟨q1, q2, q3⟩
      · refine .inr ⟨b, arr, el, fr, q1, q2, q4, q5, q6, q7, fun i hi => ?_⟩
        obtain ⟨cs, g1, g2⟩ := q8 i hi
        exact ⟨cs, noMem_any _ _ _ _ hn g1, g2⟩
    · cases hk
  · cases hk
end Go.Dp
/- Tables. -/
set_option autoImplicit false
set_option linter.unusedVariables false
set_option linter.unusedSimpArgs false
namespace Go.Dp
open Go.RowKit

/-! Types. -/
def veq1 : Value → Value → Bool
  | .int k n, .int k' n' => decide (k = k') && decide (n = n')
  | .bool b, .bool b' => b == b'
  | .string s, .string s' => decide (s.data.toList = s'.data.toList)
  | .slice none 0 0, .slice none 0 0 => true
  | .nilFunc, .nilFunc => true
  | .pointer none, .pointer none => true
  | .nilIface, .nilIface => true
  | _, _ => false

def veqL : List Value → List Value → Bool
  | [], [] => true
  | v :: l, v' :: l' => veq1 v v' && veqL l l'
  | _, _ => false

def veq : Value → Value → Bool
  | .agg a, .agg b => veqL a.toList b.toList
  | v, v' => veq1 v v'

theorem veq1_eq {v v' : Value} (h : veq1 v v' = true) : v = v' := by
  unfold veq1 at h
  split at h
  · obtain ⟨h1, h2⟩ := and2 h
    rw [of_decide_eq_true h1, of_decide_eq_true h2]
  · rw [eq_of_beq h]
  · rename_i s s'
    have h := of_decide_eq_true h
    obtain ⟨⟨a⟩⟩ := s
    obtain ⟨⟨b⟩⟩ := s'
    simp only at h
    rw [h]
  · rfl
  · rfl
  · rfl
  · rfl
  · cases h

theorem veqL_eq : ∀ {l l' : List Value}, veqL l l' = true → l = l' := by
  intro l
  induction l with
  | nil => intro l' h; cases l' <;> first | rfl | cases h
  | cons v l ih =>
    intro l' h
    cases l' with
    | nil => cases h
    | cons v' l' =>
      simp only [veqL] at h
      obtain ⟨h1, h2⟩ := and2 h
      rw [veq1_eq h1, ih h2]

theorem veq_eq {v v' : Value} (h : veq v v' = true) : v = v' := by
  unfold veq at h
  split at h
  · rename_i a b
    have := veqL_eq h
    congr 1
    exact Array.ext' this
  · exact veq1_eq h

def zeroOK (z : Option Value) (t : Ty) : Bool :=
  match z with
  | some v => veq v (zval t)
  | none => false

def tiOK1 (P : Program) (t : Nat) (i : TI) : Bool :=
  match P.info? t, P.underlying t with
  | some info, some d => decide (tdOf d = i.td) && Nat.beq info.size i.size && Nat.beq info.bytes i.bytes && (aggD d == i.ty.isAgg) && (!i.ty.zOK || zeroOK info.zero i.ty) && (bif isStructTD i.td && flat i.ty then eqP P t else true)
  | _, _ => false

theorem look_mem {β : Type} : ∀ {l : List (Nat × β)} {i : Nat} {x : β}, look l i = some x → (i, x) ∈ l := by
  intro l
  induction l with
  | nil => intro i x h; cases h
  | cons p l ih =>
    intro i x h
    obtain ⟨j, y⟩ := p
    simp only [look] at h
    cases hb : Nat.beq j i with
    | true => rw [hb] at h; obtain rfl := beqN hb; cases h; exact List.mem_cons_self
    | false => rw [hb] at h; exact List.mem_cons_of_mem _ (ih h)

theorem TIok_of {P : Program} {E : Env} (h : E.ti.all (fun p => tiOK1 P p.1 p.2) = true) : TIok P E := by
  refine ⟨fun t i hl hs hf => ?_, fun t i hl => ?_⟩
  · have h1 := List.all_eq_true.1 h _ (look_mem hl)
    unfold tiOK1 at h1
    simp only at h1
    split at h1
    · obtain ⟨_, h7⟩ := and2 h1
      rw [hs, hf] at h7
      exact h7
    · cases h1
  have h1 := List.all_eq_true.1 h _ (look_mem hl)
  unfold tiOK1 at h1
  simp only at h1
  split at h1
  · rename_i info d e1 e2
    obtain ⟨h1, _⟩ := and2 h1
    obtain ⟨h1, h6⟩ := and2 h1
    obtain ⟨h1, h5⟩ := and2 h1
    obtain ⟨h1, h4⟩ := and2 h1
    obtain ⟨h2, h3⟩ := and2 h1
    refine ⟨info, d, e1, e2, of_decide_eq_true h2, beqN h3, beqN h4, eq_of_beq h5, fun hz => ?_⟩
    rw [hz] at h6
    have h7 : zeroOK info.zero i.ty = true := by simpa using h6
    unfold zeroOK at h7
    split at h7
    · rename_i v e3; rw [e3, veq_eq h7]
    · cases h7
  · cases h1

/-! Functions. -/
def FnsAll (P : Program) : List (Nat × Func × Hint) → Prop
  | [] => True
  | p :: l => (P.funcs[p.1]? = some p.2.1 ∧ EnterOK P p.1) ∧ FnsAll P l

theorem FnsAll.mem {P : Program} : ∀ {l : List (Nat × Func × Hint)} {p}, FnsAll P l → p ∈ l → P.funcs[p.1]? = some p.2.1 ∧ EnterOK P p.1 := by
  intro l
  induction l with
  | nil => intro p _ hm; cases hm
  | cons q l ih =>
    intro p h hm
    rcases List.mem_cons.1 hm with rfl | hm
    · exact h.1
    · exact ih h.2 hm

theorem FnsOK_of {P : Program} {E : Env} (h : FnsAll P E.fns) : FnsOK P E :=
  ⟨fun f fb h' hl => h.mem (look_mem hl)⟩

def SpecsAll (P : Program) (gl : List (Nat × TV)) : List (Nat × Spec) → Prop
  | [] => True
  | p :: l => Contract P gl p.1 p.2 ∧ SpecsAll P gl l

def MutsAll (P : Program) : List (Nat × MSpec) → Prop
  | [] => True
  | p :: l => MContract P p.1 p.2 ∧ MutsAll P l

def OwnsAll (P : Program) (gl : List (Nat × TV)) : List (Nat × OSpec) → Prop
  | [] => True
  | p :: l => OContract P gl p.1 p.2 ∧ OwnsAll P gl l
theorem SpecsOK_of {P : Program} {E : Env} (h : SpecsAll P E.gl E.specs) (h' : MutsAll P E.muts := by trivial) (h2 : OwnsAll P E.gl E.owns := by trivial) : SpecsOK P E := by
  refine ⟨fun f Sp hm => ?_, fun f M hm => ?_, fun f O hm => ?_⟩
  · generalize E.specs = l at h hm
    induction l with
    | nil => cases hm
    | cons q l ih =>
      rcases List.mem_cons.1 hm with rfl | hm
      · exact h.1
      · exact ih h.2 hm
  · generalize E.muts = l at h' hm
    induction l with
    | nil => cases hm
    | cons q l ih =>
      rcases List.mem_cons.1 hm with rfl | hm
      · exact h'.1
      · exact ih h'.2 hm
  · generalize E.owns = l at h2 hm
    induction l with
    | nil => cases hm
    | cons q l ih =>
      rcases List.mem_cons.1 hm with rfl | hm
      · exact h2.1
      · exact ih h2.2 hm

/-- A function that the model answers in place. -/
theorem callFunc_extern {P : Program} {f : Nat} {fn : Func} {e : Array Value → Sem Value} (hf : P.funcs[f]? = some fn) (hn : (fn.name == "runtime.NumGoroutine") = false) (hb : fn.body = none) (h1 : (Extern.findNext fn).isNone = true)
    (h2 : Extern.find fn = some e) (args : Array Value) (w : World) : (callFunc f args).run P w = ((e args).run P w).andThen fun v w => .ok (.value v) w := by
  have h1 : Extern.findNext fn = none := by simpa using h1
  unfold callFunc
  have hn' : ¬ fn.name = "runtime.NumGoroutine" := by simpa using hn
  simp [Sem.run_bind, hf, hn', hb, h1, h2]

/-! internal/bytealg.IndexByteString. -/
def indexByteF (s : List UInt8) (c : Int) : Int := Lib.indexByte s c.toNat.toUInt8

def indexByteSpec : Spec := { args := .scons .str (.scons (.int .u8) .snil), res := .int .i64, own := false, F := fun _ x => some (indexByteF x.1 x.2.1) }

theorem indexByte_contract {P : Program} {gl : List (Nat × TV)} {f : Nat} {fn : Func} (hf : P.funcs[f]? = some fn) (hn : (fn.name == "runtime.NumGoroutine") = false) (hb : fn.body = none) (h1 : (Extern.findNext fn).isNone = true)
    (h2 : Extern.find fn = some Extern.BytealgIndexByte.indexByte) : Contract P gl f indexByteSpec := by
  refine ⟨rfl, rfl, fun K x r hx w U vals hU hg he => .inr ?_⟩
  obtain ⟨s, c, u⟩ := x
  cases hx
  simp only [indexByteSpec, EncM] at he
  obtain ⟨v, l2, h3, h4, v', l3, rfl, h5, rfl⟩ := he
  have e1 : v = .string ⟨s.toArray⟩ := EncV.str (w := w) (U := U) (β := noB) (H := []) h4
  have e2 : v' = .int .u8 c := EncV.int (w := w) (U := U) (β := noB) (H := []) h5
  subst e1; subst e2
  have e3 : vals = #[.string ⟨s.toArray⟩, .int .u8 c] := by apply Array.ext'; simpa using h3
  subst e3
  refine ⟨.int .i64 (indexByteF s c), w, ?_, _, U, rfl, Below.refl _ _, fun b => ⟨.inl, fun h => h.elim (fun h => h) fun h => h.2.2⟩, .mk_int _ _⟩
  rw [callFunc_extern hf hn hb h1 h2, Lib.run_indexByteString]
  simp [indexByteF]
end Go.Dp
namespace Go.Dp
/-- A part of code. -/
def Code.sub : List Nat → Code → Code
  | [], c => c
  | 0 :: p, .seq a _ => Code.sub p a
  | _ :: p, .seq _ b => Code.sub p b
  | 0 :: p, .cond _ a _ => Code.sub p a
  | _ :: p, .cond _ _ b => Code.sub p b
  | _ :: p, .block _ b => Code.sub p b
  | _ :: p, .loop b => Code.sub p b
  | _ :: p, .scope b => Code.sub p b
  | _, c => c
end Go.Dp
/- Go's library. -/
set_option autoImplicit false
set_option linter.unusedVariables false
set_option linter.unusedSimpArgs false
namespace Go.Dp
open Go.RowKit

/-! strings.makeASCIISet. -/
def setOf (s : List UInt8) : List Bool := (List.range 256).map fun j => s.contains (UInt8.ofNat j)

def asciiSetF (s : List UInt8) : Option (List Bool × Bool × Unit) := bif s.all (fun b => decide (b.toNat < 128)) && decide (s.length < 1000000) then some (setOf s, true, ()) else none

def asciiSetSpec : Spec := { args := .scons .str .snil, res := .tup (.scons (.arr 256 .bool) (.scons .bool .snil)), own := false, F := fun _ x => asciiSetF x.1 }

theorem asciiSet_contract {P : Program} {gl : List (Nat × TV)} {f : Nat} {T : TypeId} (hent : EnterOK P f)
    (hc : ∀ (s : ByteArray) (w : World), s.size < 4294967281 → (∀ (j : Nat) b, s.data.toList[j]? = some b → b.toNat < 128) →
      Calls P f #[.string s] w fun e w' => e = .returned (.tuple #[.agg (Lib.setCells s.data.toList), .bool true]) ∧ w' = w.alloc (.cells (Lib.setCells s.data.toList) T)) : Contract P gl f asciiSetSpec := by
  refine ⟨rfl, rfl, fun K x r hx w U vals hU hg he => .inl ⟨hent, ?_⟩⟩
  obtain ⟨s, u⟩ := x
  obtain ⟨h1, hx⟩ := bif_some hx
  cases hx
  obtain ⟨h1, h2⟩ := and2 h1
  simp only [asciiSetSpec, EncM] at he
  obtain ⟨v, l2, h3, h4, rfl⟩ := he
  have e1 : v = .string ⟨s.toArray⟩ := EncV.str (w := w) (U := U) (β := noB) (H := []) h4
  subst e1
  have e3 : vals = #[.string ⟨s.toArray⟩] := by apply Array.ext'; simpa using h3
  subst e3
  refine (hc ⟨s.toArray⟩ w (by have h3 : s.length < 1000000 := of_decide_eq_true h2; simp [ByteArray.size]; omega) (fun j b hb => ?_)).mono ?_
  · have hm : b ∈ s := List.mem_of_getElem? (by simpa using hb)
    exact of_decide_eq_true (List.all_eq_true.1 h1 b hm)
  rintro e w' ⟨rfl, rfl⟩
  refine ⟨_, U, rfl, below_new w _, fun b => ⟨.inl, fun h => h.elim (fun h => h) fun h => h.2.2⟩, .inr ⟨rfl, ?_⟩⟩
  simp only [asciiSetSpec, EncM, Value.cells]
  refine ⟨_, rfl, .agg (Lib.setCells s), [.bool true], rfl, .inr ⟨rfl, ?_⟩, .bool true, [], rfl, .inr ⟨rfl, ?_⟩, rfl⟩
  · simp only [EncM, Value.cells]
    rw [Lib.setCells_eq]
    refine ⟨rfl, by simp [Ty.csize], by simp [setOf], fun i hi => ?_⟩
    have hi' : i < 256 := by simpa [setOf] using hi
    simp only [Ty.csize, Nat.mul_one, Array.toList_map, Array.toList_range]
    rw [← List.map_drop, ← List.map_take]
    rw [List.drop_eq_getElem_cons (by simpa using hi')]
    simp [setOf]
  · simp [EncM, Value.cells]
end Go.Dp
namespace Go.Dp
open Go.RowKit

/-! strings.Join. -/
def joinF (l : List (List UInt8)) (sep : List UInt8) : Option (List UInt8) :=
  bif decide (l.length ≤ 140737488355328) && decide ((Lib.join l sep).length ≤ 140737488355328) then some (Lib.join l sep) else none

def joinSpec : Spec := { args := .scons (.list .str) (.scons .str .snil), res := .str, own := false, F := fun _ x => joinF x.1 x.2.1 }

theorem map_bytes (l : List (List UInt8)) : (l.map fun s => (⟨s.toArray⟩ : ByteArray)).map (·.data.toList) = l := by
  simp [Function.comp_def]

theorem join_contract {P : Program} {gl : List (Nat × TV)} {f : Nat} (hent : EnterOK P f)
    (hnone : ∀ (a : Option Addr) (c : Nat) (sep : ByteArray) (w : World), Calls P f #[.slice a 0 c, .string sep] w fun e w' => e = .returned (.string ⟨#[]⟩) ∧ w' = w)
    (hc : ∀ (bk o c : Nat) (xs : List ByteArray) (sep : ByteArray) (w : World), (∀ (j : Nat) x, xs[j]? = some x → w.cell? ⟨bk, o + j, none⟩ = some (.string x)) → bk < w.heap.size → xs.length ≤ 140737488355328 → xs.length ≤ c →
      (Lib.join (xs.map (·.data.toList)) sep.data.toList).length ≤ 140737488355328 →
      Calls P f #[.slice (some ⟨bk, o, none⟩) xs.length c, .string sep] w fun e w' => e = .returned (.string ⟨(Lib.join (xs.map (·.data.toList)) sep.data.toList).toArray⟩) ∧ Below w.heap.size w w') :
    Contract P gl f joinSpec := by
  refine ⟨rfl, rfl, fun K x r hx w U vals hU hg he => .inl ⟨hent, ?_⟩⟩
  obtain ⟨l, sep, u⟩ := x
  obtain ⟨h1, hx⟩ := bif_some hx
  cases hx
  obtain ⟨h1, h2⟩ := and2 h1
  have h1 : l.length ≤ 140737488355328 := of_decide_eq_true h1
  have h2 : (Lib.join l sep).length ≤ 140737488355328 := of_decide_eq_true h2
  simp only [joinSpec, EncM] at he
  obtain ⟨v, l2, hv1, h3, v2, l3, rfl, h4, rfl⟩ := he
  have e2 : v2 = .string ⟨sep.toArray⟩ := EncV.str (w := w) (U := U) (β := noB) (H := []) h4
  subst e2
  have h5 : EncM w U noB [] false (.list .str) l [v] := EncV.one (x := ⟨.list .str, l⟩) h3 rfl rfl
  simp only [EncM] at h5
  obtain ⟨A, c, hv, hlc, hcell⟩ := h5
  have hv := (List.cons.inj hv).1
  subst hv
  have fin : ∀ {e : Ending} {w' : World}, e = .returned (.string ⟨(Lib.join l sep).toArray⟩) → Below w.heap.size w w' → ∃ v U', e = .returned v ∧ Below w.heap.size w w' ∧ Grows w w' U U' ∧ EncV w' U' noB [] ⟨joinSpec.res, Lib.join l sep⟩ v :=
    fun {e w'} he hb => ⟨_, U, he, hb, fun b => ⟨.inl, fun h => h.elim (fun h => h) fun h => h.2.2⟩, .inr ⟨rfl, by simp only [joinSpec, EncM, Value.cells]⟩⟩
  rcases Nat.eq_zero_or_pos l.length with h0 | h0
  · obtain rfl : l = [] := List.length_eq_zero_iff.1 h0
    have e3 : vals = #[.slice A 0 c, .string ⟨sep.toArray⟩] := by apply Array.ext'; simpa using hv1
    subst e3
    refine (hnone A c ⟨sep.toArray⟩ w).mono ?_
    rintro e w' ⟨he, rfl⟩
    exact fin he (Below.refl _ _)
  · obtain ⟨b, off, rfl, hb, hcs⟩ := hcell h0
    have e3 : vals = #[.slice (some ⟨b, off, none⟩) (l.map fun s => (⟨s.toArray⟩ : ByteArray)).length c, .string ⟨sep.toArray⟩] := by apply Array.ext'; simpa using hv1
    subst e3
    refine (hc b off c (l.map fun s => (⟨s.toArray⟩ : ByteArray)) ⟨sep.toArray⟩ w (fun j x hj => ?_) (hU b hb) (by simpa using h1) (by simpa using hlc) (by rw [map_bytes]; exact h2)).mono ?_
    · rw [List.getElem?_map] at hj
      cases hl : l[j]? with
      | none => rw [hl] at hj; cases hj
      | some s =>
        rw [hl] at hj
        cases hj
        obtain ⟨hlt, hg⟩ := List.getElem?_eq_some_iff.1 hl
        obtain ⟨cs, q1, q2⟩ := hcs j hlt
        have e6 : Ty.csize .str = 1 := rfl
        rw [e6, Nat.mul_one] at q2
        rw [hg] at q1
        have q1 : cs = [.string ⟨s.toArray⟩] := q1
        subst q1
        have := q2 0 (by simp)
        simpa using this
    · rintro e w' ⟨he, hb'⟩
      rw [map_bytes] at he
      exact fin he hb'
end Go.Dp
/- Go's library: strconv.Itoa, strings.Repeat. -/
set_option autoImplicit false
set_option linter.unusedVariables false
set_option linter.unusedSimpArgs false
namespace Go.Dp
open Go.RowKit

def itoaF (n : Int) : Option (List UInt8) := bif decide (-9223372036854775808 ≤ n) && decide (n ≤ 9223372036854775807) then some (Lib.itoa n) else none
def itoaSpec : Spec := { args := .scons (.int .i64) .snil, res := .str, own := false, F := fun _ x => itoaF x.1 }

theorem below_grow' (w : World) (os : Array Obj) (n : Nat) : Below w.heap.size w (Go.Sort.grow (w.drewN n) os) := by
  refine ⟨rfl, rfl, rfl, ?_, fun k hk => ?_⟩
  · show w.heap.size ≤ (w.heap ++ os).size
    simp
  · show (w.heap ++ os)[k]? = w.heap[k]?
    rw [Array.getElem?_append_left hk]

/-- A table that a list of package-level variables holds. -/
theorem tabIs_of_glob {P : Program} {gl : List (Nat × TV)} {w : World} {U : Nat → Prop} {n : Nat} {name : String} {g : Nat} {zs : List Int} (hg : GlobOK gl w U) (hn : P.globalNamed name = some g)
    (hl : lookTV gl g = ⟨.ref (.arr n (.int .u64)), zs⟩) : Lib.TabIs P w name .u64 zs := by
  rcases hg g _ hl with h | ⟨_, _, h⟩
  · cases h
  have h1 := h.enc
  have h2 := h.whole
  simp only [EncM] at h1
  obtain ⟨b, off, cs, e, hb, hc, hj⟩ := h1
  cases e
  simp only [Whole] at h2
  obtain ⟨cells, el, fr, hw, hsz⟩ := h2
  unfold Lib.TabIs World.var?
  rw [hn]
  simp only [Option.bind_some, hw]
  obtain ⟨_, hl2, hzl, hi⟩ := hc
  have e1 : (Ty.int IntKind.u64).csize = 1 := rfl
  have e2 : (Ty.arr n (Ty.int IntKind.u64)).csize = n := by simp [Ty.csize]
  rw [e1, Nat.mul_one] at hl2
  rw [e2] at hsz
  have hcs : cs = zs.map fun z => Value.int .u64 z := by
    refine List.ext_getElem (by simp [hl2, hzl]) fun i h3 h4 => ?_
    have h5 := hi i (by rw [hzl, ← hl2]; exact h3)
    simp only [EncM, e1, Nat.mul_one] at h5
    rw [List.drop_eq_getElem_cons h3, List.take_succ_cons, List.take_zero] at h5
    simpa using (List.cons.inj h5).1
  congr 1
  refine Array.ext' (List.ext_getElem? fun i => ?_)
  simp only [Array.getElem?_toList]
  rcases Nat.lt_or_ge i n with h6 | h6
  · have h7 := hj i (by omega)
    simp only [World.cell?, hw, Nat.zero_add] at h7
    have h8 : cells[i]? = some cs[i] := h7
    rw [h8]
    subst hcs
    simp [hzl, h6]
  · rw [Array.getElem?_eq_none (by omega)]
    rw [List.getElem?_eq_none (by simp; omega)]

theorem itoa_contract {P : Program} {gl : List (Nat × TV)} {f g n : Nat} (hent : EnterOK P f) (hn : P.globalNamed "internal/strconv.uint64pow10" = some g)
    (hl : lookTV gl g = ⟨.ref (.arr n (.int .u64)), Lib.pow10Tab⟩)
    (hc : ∀ (n : Int), -9223372036854775808 ≤ n → n ≤ 9223372036854775807 → ∀ w : World, Lib.TabIs P w "internal/strconv.uint64pow10" .u64 Lib.pow10Tab →
      Calls P f #[.int .i64 n] w fun e w' => e = .returned (.string ⟨(Lib.itoa n).toArray⟩) ∧ ∃ k os, w' = Go.Sort.grow (w.drewN k) os) : Contract P gl f itoaSpec := by
  refine ⟨rfl, rfl, fun K x r hx w U vals hU hg he => .inl ⟨hent, ?_⟩⟩
  obtain ⟨m, u⟩ := x
  obtain ⟨h1, hx⟩ := bif_some hx
  cases hx
  obtain ⟨h1, h2⟩ := and2 h1
  simp only [itoaSpec, EncM] at he
  obtain ⟨v, l2, h3, h4, rfl⟩ := he
  have e1 : v = .int .i64 m := EncV.int (w := w) (U := U) (β := noB) (H := []) h4
  subst e1
  have e3 : vals = #[.int .i64 m] := by apply Array.ext'; simpa using h3
  subst e3
  refine (hc m (of_decide_eq_true h1) (of_decide_eq_true h2) w (tabIs_of_glob hg hn hl)).mono ?_
  rintro e w' ⟨rfl, k, os, rfl⟩
  exact ⟨_, U, rfl, below_grow' w os k, fun b => ⟨.inl, fun h => h.elim (fun h => h) fun h => h.2.2⟩, .inr ⟨rfl, by simp only [itoaSpec, EncM, Value.cells]⟩⟩

def repeatF (s : List UInt8) (c : Int) : Option (List UInt8) := bif decide (0 ≤ c) && decide (c ≤ 9223372036854775807) && decide (s.length * c.toNat ≤ 140737488355328) then some (Lib.repeatL s c.toNat) else none
def repeatSpec : Spec := { args := .scons .str (.scons (.int .i64) .snil), res := .str, own := false, F := fun _ x => repeatF x.1 x.2.1 }

theorem repeat_contract {P : Program} {gl : List (Nat × TV)} {f : Nat} (hent : EnterOK P f)
    (hc : ∀ (s : ByteArray) (c : Nat) (w : World), c ≤ 9223372036854775807 → s.size * c ≤ 140737488355328 →
      Calls P f #[.string s, .int .i64 c] w fun e w' => e = .returned (.string ⟨(Lib.repeatL s.data.toList c).toArray⟩) ∧ Below w.heap.size w w') : Contract P gl f repeatSpec := by
  refine ⟨rfl, rfl, fun K x r hx w U vals hU hg he => .inl ⟨hent, ?_⟩⟩
  obtain ⟨s, c, u⟩ := x
  obtain ⟨h1, hx⟩ := bif_some hx
  cases hx
  obtain ⟨h1, h3⟩ := and2 h1
  obtain ⟨h1, h2⟩ := and2 h1
  have h1 : 0 ≤ c := of_decide_eq_true h1
  have h2 : c ≤ 9223372036854775807 := of_decide_eq_true h2
  have h3 : s.length * c.toNat ≤ 140737488355328 := of_decide_eq_true h3
  simp only [repeatSpec, EncM] at he
  obtain ⟨v, l2, hv, h4, v2, l3, rfl, h5, rfl⟩ := he
  have e1 : v = .string ⟨s.toArray⟩ := EncV.str (w := w) (U := U) (β := noB) (H := []) h4
  subst e1
  have e2 : v2 = .int .i64 c := EncV.int (w := w) (U := U) (β := noB) (H := []) h5
  subst e2
  obtain ⟨m, rfl⟩ := Int.eq_ofNat_of_zero_le h1
  have e3 : vals = #[.string ⟨s.toArray⟩, .int .i64 (m : Int)] := by apply Array.ext'; simpa using hv
  subst e3
  refine (hc ⟨s.toArray⟩ m w (by have h2 : (m : Int) ≤ 9223372036854775807 := h2; omega) (by simpa [ByteArray.size] using h3)).mono ?_
  rintro e w' ⟨rfl, hb⟩
  exact ⟨_, U, rfl, hb, fun b => ⟨.inl, fun h => h.elim (fun h => h) fun h => h.2.2⟩, .inr ⟨rfl, by simp [repeatSpec, EncM, Value.cells]⟩⟩

/-! items.Quote, items.Unquote. -/
/-- What a text is quoted: its inside. -/
def quoteIn : List UInt8 → List UInt8
  | [] => []
  | b :: s => (if b = 34 ∨ b = 92 then [92, b] else [b]) ++ quoteIn s
theorem quoteIn_snoc (s : List UInt8) (b : UInt8) : quoteIn (s ++ [b]) = quoteIn s ++ (if b = 34 ∨ b = 92 then [92, b] else [b]) := by
  induction s with
  | nil => simp [quoteIn]
  | cons a s ih => simp only [List.cons_append, quoteIn, ih, List.append_assoc]
theorem quoteIn_len (s : List UInt8) : (quoteIn s).length ≤ 2 * s.length := by
  induction s with
  | nil => simp [quoteIn]
  | cons a s ih => simp only [quoteIn, List.length_append, List.length_cons]; split <;> simp <;> omega
def quoteL (s : List UInt8) : List UInt8 := 34 :: (quoteIn s ++ [34])
def unq : List UInt8 → Option (List UInt8)
  | [] => some []
  | [a] => if a = 34 ∨ a = 92 then none else some [a]
  | a :: b :: r => if a = 34 then none else if a = 92 then (unq r).map (b :: ·) else (unq (b :: r)).map (a :: ·)
theorem unq_34 (l : List UInt8) : unq (34 :: l) = none := by cases l <;> simp [unq]
theorem unq_92n : unq [92] = none := by simp [unq]
theorem unq_92 (b : UInt8) (r : List UInt8) : unq (92 :: b :: r) = (unq r).map (b :: ·) := by simp [unq]
theorem unq_other (a : UInt8) (l : List UInt8) (h : a ≠ 34) (h2 : a ≠ 92) : unq (a :: l) = (unq l).map (a :: ·) := by
  cases l <;> simp [unq, h, h2]
/-- What a quoted text is unquoted. -/
def unquoteL (s : List UInt8) : List UInt8 × Int × Unit :=
  if s.length < 2 ∨ s.getD 0 0 ≠ 34 ∨ s.getD (s.length - 1) 0 ≠ 34 then ([], 5, ()) else
  match unq ((s.take (s.length - 1)).drop 1) with
  | none => ([], 5, ())
  | some t => (t, 0, ())

def insideD (s : List UInt8) (k : Nat) : List UInt8 := (s.take (s.length - 1)).drop k
theorem insideD_cons (s : List UInt8) {k : Nat} (h : k < s.length - 1) : insideD s k = s.getD k 0 :: insideD s (k + 1) := by
  simp only [insideD]
  rw [List.drop_eq_getElem_cons (by simp; omega)]
  simp only [List.getElem_take, List.getD_eq_getElem?_getD]
  rw [List.getElem?_eq_getElem (by omega)]; rfl
theorem insideD_end (s : List UInt8) {k : Nat} (h : s.length - 1 ≤ k) : insideD s k = [] := by
  simp only [insideD]; rw [List.drop_eq_nil_of_le]; simp; omega

def quoteF (s : List UInt8) : Option (List UInt8) := bif decide (s.length ≤ 1000000000) then some (quoteL s) else none
def quoteSpec : Spec := { args := .scons .str .snil, res := .str, own := false, F := fun _ x => quoteF x.1 }
def unquoteF (s : List UInt8) : Option (List UInt8 × Int × Unit) := bif decide (s.length ≤ 1000000000) then some (unquoteL s) else none
def unquoteSpec : Spec := { args := .scons .str .snil, res := .tup (.scons .str (.scons (.int .i64) .snil)), own := false, F := fun _ x => unquoteF x.1 }

theorem quote_contract {P : Program} {gl : List (Nat × TV)} {f : Nat} (hent : EnterOK P f)
    (hc : ∀ (s : ByteArray) (w : World), s.size ≤ 1000000000 → Calls P f #[.string s] w fun e w' => e = .returned (.string ⟨(quoteL s.data.toList).toArray⟩) ∧ Below w.heap.size w w') : Contract P gl f quoteSpec := by
  refine ⟨rfl, rfl, fun K x r hx w U vals hU hg he => .inl ⟨hent, ?_⟩⟩
  obtain ⟨s, u⟩ := x
  obtain ⟨h1, hx⟩ := bif_some hx
  cases hx
  simp only [quoteSpec, EncM] at he
  obtain ⟨v, l2, h3, h4, rfl⟩ := he
  have e1 : v = .string ⟨s.toArray⟩ := EncV.str (w := w) (U := U) (β := noB) (H := []) h4
  subst e1
  have e3 : vals = #[.string ⟨s.toArray⟩] := by apply Array.ext'; simpa using h3
  subst e3
  refine (hc ⟨s.toArray⟩ w (of_decide_eq_true h1)).mono ?_
  rintro e w' ⟨rfl, hb⟩
  exact ⟨_, U, rfl, hb, fun b => ⟨.inl, fun h => h.elim (fun h => h) fun h => h.2.2⟩, .inr ⟨rfl, by simp [quoteSpec, EncM, Value.cells]⟩⟩
theorem unquote_contract {P : Program} {gl : List (Nat × TV)} {f : Nat} (hent : EnterOK P f)
    (hc : ∀ (s : ByteArray) (w : World), s.size ≤ 1000000000 → Calls P f #[.string s] w fun e w' => e = .returned (.tuple #[.string ⟨(unquoteL s.data.toList).1.toArray⟩, .int .i64 (unquoteL s.data.toList).2.1]) ∧ Below w.heap.size w w') : Contract P gl f unquoteSpec := by
  refine ⟨rfl, rfl, fun K x r hx w U vals hU hg he => .inl ⟨hent, ?_⟩⟩
  obtain ⟨s, u⟩ := x
  obtain ⟨h1, hx⟩ := bif_some hx
  cases hx
  simp only [unquoteSpec, EncM] at he
  obtain ⟨v, l2, h3, h4, rfl⟩ := he
  have e1 : v = .string ⟨s.toArray⟩ := EncV.str (w := w) (U := U) (β := noB) (H := []) h4
  subst e1
  have e3 : vals = #[.string ⟨s.toArray⟩] := by apply Array.ext'; simpa using h3
  subst e3
  refine (hc ⟨s.toArray⟩ w (of_decide_eq_true h1)).mono ?_
  rintro e w' ⟨rfl, hb⟩
  refine ⟨_, U, rfl, hb, fun b => ⟨.inl, fun h => h.elim (fun h => h) fun h => h.2.2⟩, .inr ⟨rfl, ?_⟩⟩
  simp only [unquoteSpec, EncM, Value.cells]
  exact ⟨_, rfl, .string _, _, rfl, .inr ⟨rfl, by simp [EncM, Value.cells]⟩, .int .i64 _, [], rfl, .inr ⟨rfl, by simp [EncM, Value.cells]⟩, rfl⟩
end Go.Dp
/- Plain Lean for the printed functions: loops, bytes, parts of lists. -/
set_option autoImplicit false
set_option linter.unusedVariables false
set_option linter.unusedSimpArgs false
namespace Go.Dp

theorem loop_rule {S R : Type} {l : Nat → S → Option R} (t : (S → Option R) → S → Option R) (hl : ∀ n x, l (n + 1) x = t (l n) x)
    (I : S → Prop) (m : S → Nat) (spec : S → R)
    (step : ∀ x rec, I x → (∀ y, I y → m y < m x → rec y = some (spec y)) → t rec x = some (spec x)) :
    ∀ n x, I x → m x < n → l n x = some (spec x) := by
  intro n
  induction n with
  | zero => intro x _ h; omega
  | succ n ih =>
    intro x hI h
    rw [hl]
    exact step x (l n) hI fun y hy hm => ih y hy (by omega)

@[simp] theorem bind_some' {α β : Type} (a : α) (f : α → Option β) : Option.bind (some a) f = f a := rfl

theorem wrap64 {x : Int} (h : -9223372036854775808 ≤ x) (h' : x < 9223372036854775808) : IntKind.wrap .i64 x = x := by
  have e : (2 ^ IntKind.bits .i64 : Int) = 18446744073709551616 := by decide
  have e2 : (2 ^ (IntKind.bits .i64 - 1) : Int) = 9223372036854775808 := by decide
  have e3 : IntKind.signed .i64 = true := rfl
  simp only [IntKind.wrap, e, e2, e3, Bool.true_and, decide_eq_true_eq]
  split <;> omega

theorem wrap8 {x : Int} (h : 0 ≤ x) (h' : x < 256) : IntKind.wrap .u8 x = x := by
  have e : (2 ^ IntKind.bits .u8 : Int) = 256 := by decide
  have e3 : IntKind.signed .u8 = false := rfl
  simp only [IntKind.wrap, e, e3, Bool.false_and]
  simp
  omega

theorem wrapNat {n : Nat} (h : n < 9223372036854775808) : IntKind.wrap .i64 (n : Int) = n := wrap64 (by omega) (by omega)
theorem wrapSucc {n : Nat} (h : n < 9223372036854775807) : IntKind.wrap .i64 ((n : Int) + 1) = ((n + 1 : Nat) : Int) := by rw [wrap64] <;> omega
theorem wrapPred {n : Nat} (h : n < 9223372036854775807) (h0 : 0 < n) : IntKind.wrap .i64 ((n : Int) - 1) = ((n - 1 : Nat) : Int) := by rw [wrap64] <;> omega

theorem forall_byte {p : UInt8 → Bool} (h : (List.range 256).all (fun n => p (UInt8.ofNat n)) = true) : ∀ b, p b = true := by
  intro b
  have := List.all_eq_true.1 h b.toNat (List.mem_range.2 b.toNat_lt)
  simpa using this

theorem byte_of_int {c : Int} (h0 : 0 ≤ c) (h1 : c < 256) : ∃ b : UInt8, c = (b.toNat : Int) := ⟨UInt8.ofNat c.toNat, by simp; omega⟩

@[simp] theorem ofNat_toNat' (b : UInt8) : UInt8.ofNat ((b.toNat : Int).toNat) = b := by simp
@[simp] theorem toUInt8_toNat' (b : UInt8) : ((b.toNat : Int).toNat).toUInt8 = b := by simp
theorem byte_inj {a b : UInt8} : ((a.toNat : Int) = (b.toNat : Int)) ↔ a = b := ⟨fun h => UInt8.toNat_inj.1 (by omega), fun h => h ▸ rfl⟩

@[simp] theorem length_intsOf (s : List UInt8) : (intsOf s).length = s.length := by simp [intsOf]
@[simp] theorem bytesOf_intsOf (s : List UInt8) : bytesOf (intsOf s) = s := by simp [bytesOf, intsOf, Function.comp_def]
theorem getD_intsOf (s : List UInt8) {i : Nat} (h : i < s.length) : (intsOf s).getD i 0 = ((s.getD i 0).toNat : Int) := by
  simp [intsOf, List.getD_eq_getElem?_getD, List.getElem?_eq_getElem h]
theorem bytesOf_map (s : List UInt8) (g : Int → Int) : bytesOf ((intsOf s).map g) = s.map fun b => UInt8.ofNat (g (b.toNat : Int)).toNat := by
  simp [bytesOf, intsOf, Function.comp_def]

/-! Parts. -/
@[simp] theorem cut_zero' {α : Type} (s : List α) (n : Nat) : cut s 0 n = s.take n := by simp [cut]
@[simp] theorem cut_end {α : Type} (s : List α) (i : Nat) : cut s i s.length = s.drop i := by
  simp only [cut]; rw [List.take_of_length_le]; simp
theorem getD_get {α : Type} (s : List α) (d : α) {i : Nat} (h : i < s.length) : s.getD i d = s[i] := by simp [List.getD_eq_getElem?_getD, h]
theorem drop_get {α : Type} (s : List α) (d : α) {i : Nat} (h : i < s.length) : s.drop i = s.getD i d :: s.drop (i + 1) := by
  rw [getD_get s d h]; exact List.drop_eq_getElem_cons h
theorem take_get {α : Type} (s : List α) (d : α) {i : Nat} (h : i < s.length) : s.take (i + 1) = s.take i ++ [s.getD i d] := by
  rw [getD_get s d h]; exact List.take_succ_eq_append_getElem h

/-! A map in place. -/
theorem map_step {α : Type} (xs : List α) (g : α → α) (d : α) {i : Nat} (h : i < xs.length) :
    (xs.set i (g (xs.getD i d))).take (i + 1) ++ ((xs.set i (g (xs.getD i d))).drop (i + 1)).map g = xs.take i ++ (xs.drop i).map g := by
  rw [drop_get xs d h, take_get (xs.set i (g (xs.getD i d))) d (by simpa using h)]
  have e : (xs.set i (g (xs.getD i d))).take i = xs.take i := by
    apply List.ext_getElem?; intro j; by_cases hj : j < i
    · simp [hj, List.getElem?_set, Nat.ne_of_gt hj]
    · rw [List.getElem?_take, List.getElem?_take, if_neg hj, if_neg hj]
  have e2 : (xs.set i (g (xs.getD i d))).getD i d = g (xs.getD i d) := by simp [List.getD_eq_getElem?_getD, h]
  have e3 : (xs.set i (g (xs.getD i d))).drop (i + 1) = xs.drop (i + 1) := by rw [List.drop_set]; simp
  rw [e, e2, e3]; simp

/-! Ends. -/
def rdw {α : Type} (p : α → Bool) : List α → List α
  | [] => []
  | a :: l => match rdw p l with
    | [] => bif p a then [] else [a]
    | r => a :: r
def dw {α : Type} (p : α → Bool) (l : List α) : List α := l.dropWhile p

variable {α : Type} (p : α → Bool)
@[simp] theorem rdw_nil : rdw p ([] : List α) = [] := rfl
theorem rdw_cons (a : α) (l : List α) : rdw p (a :: l) = if (rdw p l).isEmpty then (if p a then [] else [a]) else a :: rdw p l := by
  rw [rdw]; split <;> simp_all [Bool.cond_eq_ite]
theorem rdw_snoc (l : List α) (b : α) : rdw p (l ++ [b]) = if p b then rdw p l else l ++ [b] := by
  induction l with
  | nil => simp [rdw_cons]
  | cons a l ih => rw [List.cons_append, rdw_cons, ih]; by_cases h : p b <;> simp [h, rdw_cons]
theorem dw_cons (a : α) (l : List α) : dw p (a :: l) = if p a then dw p l else a :: l := by simp [dw, List.dropWhile_cons]
@[simp] theorem dw_nil : dw p ([] : List α) = [] := rfl
theorem dw_rdw (l : List α) : dw p (rdw p l) = rdw p (dw p l) := by
  induction l with
  | nil => rfl
  | cons a l ih =>
    rw [rdw_cons, dw_cons]
    by_cases h : p a
    · by_cases h2 : (rdw p l).isEmpty
      · simp only [h, h2, if_true]
        rw [← ih]; simp_all [List.isEmpty_iff]
      · simp only [h, h2, if_true]
        rw [← ih, if_neg (by simp), dw_cons, if_pos h]
    · by_cases h2 : (rdw p l).isEmpty
      · simp [h, h2, dw_cons, rdw_cons]
      · simp [h, h2, dw_cons, rdw_cons]
theorem dw_dw (l : List α) : dw p (dw p l) = dw p l := by
  induction l with
  | nil => rfl
  | cons a l ih => rw [dw_cons]; by_cases h : p a <;> simp [h, ih, dw_cons]
theorem rdw_rdw (l : List α) : rdw p (rdw p l) = rdw p l := by
  induction l with
  | nil => rfl
  | cons a l ih =>
    rw [rdw_cons]
    by_cases h2 : (rdw p l).isEmpty
    · by_cases h : p a <;> simp [h, h2, rdw_cons]
    · simp [h2, rdw_cons, ih]
theorem length_rdw (l : List α) : (rdw p l).length ≤ l.length := by
  induction l with
  | nil => simp
  | cons a l ih =>
    rw [rdw_cons]; split
    · split <;> simp
    · simp; omega
theorem length_dw (l : List α) : (dw p l).length ≤ l.length := by
  induction l with
  | nil => simp
  | cons a l ih => rw [dw_cons]; split <;> simp <;> omega
theorem dw_head (l : List α) (d : α) (h : 0 < (dw p l).length) : p ((dw p l).getD 0 d) = false := by
  induction l with
  | nil => simp at h
  | cons a l ih =>
    rw [dw_cons] at h ⊢
    by_cases h2 : p a
    · simp only [h2, if_true] at h ⊢; exact ih h
    · simp [h2]
theorem rdw_last (l : List α) (d : α) (h : 0 < (rdw p l).length) : p ((rdw p l).getD ((rdw p l).length - 1) d) = false := by
  induction l with
  | nil => simp at h
  | cons a l ih =>
    rw [rdw_cons] at h ⊢
    by_cases h2 : (rdw p l).isEmpty
    · by_cases h3 : p a <;> simp_all
    · have h4 : 0 < (rdw p l).length := by
        cases h5 : rdw p l <;> simp_all
      have h6 := ih h4
      rw [if_neg h2]
      simp only [List.length_cons, Nat.add_sub_cancel]
      cases h5 : (rdw p l).length with
      | zero => omega
      | succ n => rw [h5] at h6; simpa using h6

/-! The place of a byte. -/
theorem indexByte_eq (s : List UInt8) (b : UInt8) : Lib.indexByte s b = if s.contains b then ((s.takeWhile (· != b)).length : Int) else -1 := by
  induction s with
  | nil => simp [Lib.indexByte]
  | cons a s ih =>
    rw [Lib.indexByte, ih]
    by_cases h : a = b
    · subst h; simp
    · have h' : (a == b) = false := by simpa using h
      have h'' : (b == a) = false := by simpa using fun e => h e.symm
      by_cases h2 : s.contains b
      · have h3 : ((List.takeWhile (fun x => x != b) s).length : Int) ≠ -1 := by omega
        simp_all
      · simp_all
end Go.Dp
namespace Go.Dp
theorem map_keep {α : Type} (xs : List α) (g : α → α) (d : α) {i : Nat} (h : i < xs.length) (hg : g (xs.getD i d) = xs.getD i d) :
    xs.take (i + 1) ++ (xs.drop (i + 1)).map g = xs.take i ++ (xs.drop i).map g := by
  rw [drop_get xs d h, take_get xs d h]; simp only [List.map_cons, hg]; simp
end Go.Dp
namespace Go.Dp
theorem idx_rule {S R : Type} {l : Nat → S → Option R} (t : (S → Option R) → S → Option R) (hl : ∀ n x, l (n + 1) x = t (l n) x)
    (N : Nat) (st : Nat → S) (spec : Nat → R)
    (step : ∀ i rec, i ≤ N → (i < N → rec (st (i + 1)) = some (spec (i + 1))) → t rec (st i) = some (spec i)) :
    ∀ n i, i ≤ N → N - i < n → l n (st i) = some (spec i) := by
  intro n
  induction n with
  | zero => intro x _ h; omega
  | succ n ih =>
    intro i hI h
    rw [hl]
    exact step i (l n) hI fun hy => ih (i + 1) (by omega) (by omega)
theorem drop_len {α : Type} (s : List α) : s.drop s.length = [] := List.drop_eq_nil_of_le (Nat.le_refl _)
/-- A text is cut at a byte. -/
def cutAt (s : List UInt8) (b : UInt8) : List UInt8 × List UInt8 × Bool × Unit :=
  if s.contains b then (s.takeWhile (· != b), (s.dropWhile (· != b)).drop 1, true, ()) else (s, [], false, ())
theorem takeWhile_len (s : List UInt8) (p : UInt8 → Bool) : (s.takeWhile p).length ≤ s.length := by
  induction s with
  | nil => simp
  | cons a s ih => rw [List.takeWhile_cons]; split <;> simp; omega
theorem take_takeWhile {α : Type} (s : List α) (p : α → Bool) : s.take (s.takeWhile p).length = s.takeWhile p := by
  induction s with
  | nil => simp
  | cons a s ih => rw [List.takeWhile_cons]; split <;> simp [ih]
theorem drop_takeWhile {α : Type} (s : List α) (p : α → Bool) : s.drop (s.takeWhile p).length = s.dropWhile p := by
  induction s with
  | nil => simp
  | cons a s ih => rw [List.takeWhile_cons, List.dropWhile_cons]; split <;> simp [ih]
theorem takeWhile_lt (s : List UInt8) (b : UInt8) (h : s.contains b = true) : (s.takeWhile (· != b)).length < s.length := by
  induction s with
  | nil => simp at h
  | cons a s ih =>
    rw [List.takeWhile_cons]
    by_cases e : a = b
    · simp [e]
    · have e2 : s.contains b = true := by
        have e' : ¬ b = a := fun x => e x.symm
        simpa [e, e'] using h
      simp [e, ih e2]
theorem takeWhile_not (s : List UInt8) (b : UInt8) : (s.takeWhile (· != b)).contains b = false := by
  induction s with
  | nil => simp
  | cons a s ih =>
    rw [List.takeWhile_cons]
    by_cases e : a = b
    · simp [e]
    · have e' : ¬ b = a := fun x => e x.symm
      simp [e, e']; simpa using ih
theorem dropWhile_head (s : List UInt8) (b : UInt8) (h : s.contains b = true) : s.dropWhile (· != b) = b :: (s.dropWhile (· != b)).drop 1 := by
  induction s with
  | nil => simp at h
  | cons a s ih =>
    rw [List.dropWhile_cons]
    by_cases e : a = b
    · simp [e]
    · have e2 : s.contains b = true := by
        have e' : ¬ b = a := fun x => e x.symm
        simpa [e, e'] using h
      simp only [bne_iff_ne, ne_eq, e, not_false_eq_true, if_true]; exact ih e2
/-- The parts of a cut text. -/
theorem cutAt_join (s : List UInt8) (b : UInt8) (h : s.contains b = true) : s.takeWhile (· != b) ++ [b] ++ (s.dropWhile (· != b)).drop 1 = s := by
  rw [List.append_assoc, List.singleton_append, ← dropWhile_head s b h]; exact List.takeWhile_append_dropWhile
end Go.Dp
namespace Go.Dp
theorem byteN (b : UInt8) (n : Nat) (h : n < 256) : ((b.toNat : Int) = (n : Int)) ↔ b = UInt8.ofNat n := by
  constructor
  · intro e
    apply UInt8.toNat_inj.1
    have : b.toNat = n := by omega
    simp [this, Nat.mod_eq_of_lt h]
  · rintro rfl
    simp [Nat.mod_eq_of_lt h]
theorem byte34 (b : UInt8) : ((b.toNat : Int) = 34) ↔ b = 34 := byteN b 34 (by decide)
theorem byte92 (b : UInt8) : ((b.toNat : Int) = 92) ↔ b = 92 := byteN b 92 (by decide)
theorem byte44 (b : UInt8) : ((b.toNat : Int) = 44) ↔ b = 44 := byteN b 44 (by decide)
theorem byte32 (b : UInt8) : ((b.toNat : Int) = 32) ↔ b = 32 := byteN b 32 (by decide)
theorem byte9 (b : UInt8) : ((b.toNat : Int) = 9) ↔ b = 9 := byteN b 9 (by decide)
theorem wrapAdd {n : Nat} (k : Nat) (h : n + k < 9223372036854775808) : IntKind.wrap .i64 ((n : Int) + (k : Int)) = ((n + k : Nat) : Int) := by rw [wrap64] <;> omega
theorem wrapTwo {n : Nat} (h : n < 9223372036854775806) : IntKind.wrap .i64 ((n : Int) + 2) = ((n + 2 : Nat) : Int) := wrapAdd 2 (by omega)
section
variable {α : Type}
theorem cut_succ (s : List α) (d : α) {fr i : Nat} (h1 : fr ≤ i) (h2 : i < s.length) : cut s fr (i + 1) = cut s fr i ++ [s.getD i d] := by
  simp only [cut]
  have e : i + 1 - fr = (i - fr) + 1 := by omega
  rw [e, take_get (s.drop fr) d (by simp; omega)]
  congr 2
  simp only [List.getD_eq_getElem?_getD, List.getElem?_drop]
  rw [show fr + (i - fr) = i by omega]
@[simp] theorem cut_self (s : List α) (i : Nat) : cut s i i = [] := by simp [cut]
theorem cut_over (s : List α) {fr i : Nat} (h : s.length ≤ i) : cut s fr i = s.drop fr := by
  simp only [cut]; rw [List.take_of_length_le (by simp; omega)]
theorem length_cut (s : List α) {fr i : Nat} (h1 : fr ≤ i) (h2 : i ≤ s.length) : (cut s fr i).length = i - fr := by
  simp only [cut, List.length_take, List.length_drop]; omega
theorem length_cut_le (s : List α) (fr i : Nat) : (cut s fr i).length ≤ s.length := by
  simp only [cut, List.length_take, List.length_drop]; omega
end
end Go.Dp
namespace Go.Dp
theorem loop_ex {S R : Type} {l : Nat → S → Option R} (t : (S → Option R) → S → Option R) (hl : ∀ n x, l (n + 1) x = t (l n) x)
    (I : S → Prop) (m : S → Nat) (Q : R → Prop)
    (step : ∀ x rec, I x → (∀ y, I y → m y < m x → ∃ r, rec y = some r ∧ Q r) → ∃ r, t rec x = some r ∧ Q r) :
    ∀ n x, I x → m x < n → ∃ r, l n x = some r ∧ Q r := by
  intro n
  induction n with
  | zero => intro x _ h; omega
  | succ n ih =>
    intro x hI h
    rw [hl]
    exact step x (l n) hI fun y hy hm => ih y hy (by omega)
theorem idx_ex {S R : Type} {l : Nat → S → Option R} (t : (S → Option R) → S → Option R) (hl : ∀ n x, l (n + 1) x = t (l n) x)
    (N : Nat) (st : Nat → S) (I : Nat → Prop) (Q : R → Prop)
    (step : ∀ i rec, i ≤ N → I i → (i < N → I (i + 1) → ∃ r, rec (st (i + 1)) = some r ∧ Q r) → ∃ r, t rec (st i) = some r ∧ Q r) :
    ∀ n i, i ≤ N → N - i < n → I i → ∃ r, l n (st i) = some r ∧ Q r := by
  intro n
  induction n with
  | zero => intro x _ h; omega
  | succ n ih =>
    intro i hI h hi
    rw [hl]
    exact step i (l n) hI hi fun hy h2 => ih (i + 1) (by omega) (by omega) h2
section
universe u

/-! The usual rules, under short names. -/
theorem za' {α β : Type} (a : α) (f : α → Option β) : Option.bind (some a) f = f a := rfl
theorem zb' {α : Sort u} (a b : α) : (bif true then a else b) = a := rfl
theorem zc' {α : Sort u} (a b : α) : (bif false then a else b) = b := rfl
theorem zd' {h : Decidable True} : @decide True h = true := decide_true h
theorem ze' {h : Decidable False} : @decide False h = false := decide_false h
theorem zf' : (!true) = false := rfl
theorem zg' : (!false) = true := rfl
theorem zh' (b : Bool) : (true && b) = b := Bool.true_and b
theorem zi' (b : Bool) : (b && true) = b := Bool.and_true b
theorem zj' (b : Bool) : (b && false) = false := Bool.and_false b
theorem zk' (b : Bool) : (false && b) = false := Bool.false_and b
theorem zl' (n : Nat) : ((n : Int)).toNat = n := Int.toNat_natCast n
theorem zm' (n : Nat) : (0 : Int) ≤ (n : Int) := Int.natCast_nonneg n
theorem zn' {α : Sort u} {h : Decidable True} (a b : α) : @ite α True h a b = a := if_true a b
theorem zo' {α : Sort u} {h : Decidable False} (a b : α) : @ite α False h a b = b := if_false a b
theorem zp' : (false = true) = False := Bool.false_eq_true
theorem zq' : Int.toNat 0 = 0 := Int.toNat_zero
theorem zr' : ((0 : Nat) : Int) = 0 := Int.natCast_zero
theorem zs' : (¬ False) = True := not_false_eq_true
theorem zt' : (¬ True) = False := not_true_eq_false
end
end Go.Dp
/- Arguments and package-level variables of a row, as the small machine reads them. No condition. -/
set_option autoImplicit false
set_option linter.unusedVariables false
set_option linter.unusedSimpArgs false
namespace Go.Dp
open Go.WideShapes Go.ChangeShapes

/-! A type of the program is of a kind. -/
mutual
def okT (P : Program) : Nat → TypeId → Ty → Bool
  | 0, _, _ => false
  | d + 1, t, T => match P.underlying t, T with
    | some (.int k), .int k' => decide (k = k')
    | some .bool, .bool => true
    | some .string, .str => true
    | some (.slice e), .list E => okT P d e E && Nat.beq (P.cellsOf e) E.csize && Nat.blt 0 E.csize
    | some (.struct fs), .scons a r => Nat.beq (P.cellsOf t) (Ty.scons a r).csize && okFs P d fs.toList 0 (.scons a r)
    | _, _ => false
def okFs (P : Program) : Nat → List Field → Nat → Ty → Bool
  | _, [], _, .snil => true
  | 0, _ :: _, _, _ => false
  | d + 1, f :: fs, off, .scons a r => Nat.beq f.offset off && Nat.beq (P.cellsOf f.type) a.csize && okT P d f.type a && okFs P d fs (off + a.csize) r
  | _, _, _, _ => false
end

/-- What is known of an argument's numbers and lengths. -/
def vok : (t : Ty) → t.den → Prop
  | .int k, n => (Lit.int k n).wf = true
  | .str, s => s.length ≤ maxLen
  | .list e, xs => xs.length ≤ maxLen ∧ ∀ i (h : i < xs.length), vok e xs[i]
  | .scons a r, x => vok a x.1 ∧ vok r x.2
  | _, _ => True

theorem wf_bounds {k : IntKind} {n : Int} (h : (Lit.int k n).wf = true) : k.min ≤ n ∧ n ≤ k.max := by
  simpa [Lit.wf] using h

section
variable {H : Type} {enc : TypeId × Value → H} {P : Program} {w : World} {base : Nat} {spare : Nat → Bool} {held : Bool}

/-- All blocks of the world as it stands. -/
def oldU (w : World) (b : Nat) : Prop := b < w.heap.size

theorem cell_lt {b off : Nat} {v : Value} (h : w.cell? ⟨b, off, none⟩ = some v) : b < w.heap.size := by
  unfold World.cell? at h
  simp only at h
  split at h
  · rename_i hc
    rcases Nat.lt_or_ge b w.heap.size with h' | h'
    · exact h'
    · rw [Array.getElem?_eq_none (by omega)] at hc; cases hc
  · cases h

theorem lists_of {α : Type} (n : Nat) (p : (i : Nat) → i < n → α → Prop) (h : ∀ i (hi : i < n), ∃ x, p i hi x) : ∃ xs : List α, ∃ hl : xs.length = n, ∀ i (hi : i < xs.length), p i (by omega) xs[i] := by
  refine ⟨List.ofFn fun i : Fin n => Classical.choose (h i.1 i.2), by simp, fun i hi => ?_⟩
  have hi' : i < n := by simpa using hi
  rw [List.getElem_ofFn]
  exact Classical.choose_spec (h i hi')

theorem trod_enc : ∀ d : Nat,
    (∀ (fuel : Nat) (t : TypeId) (T : Ty) (cs : List Value) (x : DataW H × List MemPlace), okT P d t T = true → DataW.trod enc P w base spare held fuel t cs = some x → ∃ v : T.den, vok T v ∧ EncM w (oldU w) noB [] false T v cs) ∧
    (∀ (fuel : Nat) (fs : List Field) (off : Nat) (T : Ty) (pre m : List Value), okFs P d fs off T = true → pre.length = off → m.length = T.csize →
      (∀ f ∈ fs, ∃ y, DataW.trod enc P w base spare held fuel f.type (((pre ++ m).drop f.offset).take (P.cellsOf f.type)) = some y) → ∃ v : T.den, vok T v ∧ EncM w (oldU w) noB [] false T v m) := by
  intro d
  induction d with
  | zero =>
    refine ⟨fun fuel t T cs x h => by simp [okT] at h, fun fuel fs off T pre m h hp hm hf => ?_⟩
    cases fs with
    | nil => cases T <;> simp [okFs] at h; exact ⟨(), trivial, by simpa [EncM, Ty.csize] using hm⟩
    | cons f fs => simp [okFs] at h
  | succ d ih =>
    obtain ⟨ih1, ih2⟩ := ih
    refine ⟨fun fuel t T cs x h hx => ?_, fun fuel fs off T pre m h hp hm hf => ?_⟩
    · simp only [okT] at h
      split at h
      · rename_i k k' hu
        obtain rfl : k = k' := of_decide_eq_true h
        obtain ⟨n, rfl, _, hw⟩ := DataW.trod_int hu hx
        exact ⟨n, hw, by simp [EncM]⟩
      · rename_i hu
        obtain ⟨b, rfl, _⟩ := DataW.trod_bool hu hx
        exact ⟨b, trivial, by simp [EncM]⟩
      · rename_i hu
        obtain ⟨s, rfl, _, hs⟩ := DataW.trod_string hu hx
        exact ⟨s.data.toList, by simpa [vok] using hs, by simp [EncM]⟩
      · rename_i e E hu
        obtain ⟨h1, h2⟩ := Bool.and_eq_true_iff.1 h
        obtain ⟨h0, h1⟩ := Bool.and_eq_true_iff.1 h1
        have hcz : P.cellsOf e = E.csize := beqN h1
        have hpos : 0 < E.csize := bltN h2
        rcases DataW.trod_slice hu hx with ⟨rfl, _⟩ | ⟨a, len, cap, elems, rest, n, _, rfl, _, hb, hl, hm, hlen, hel, _, _⟩
        · exact ⟨[], ⟨by simp, fun i hi => absurd hi (by simp)⟩, by simp [EncM]⟩
        · have each : ∀ i (hi : i < len), ∃ v : E.den, vok E v ∧ ∃ cs, EncM w (oldU w) noB [] false E v cs ∧ w.cells? base (a.add (i * E.csize)) E.csize = some cs := by
            intro i hi
            have h3 := hel i hi
            rw [hcz, List.getElem?_eq_getElem (by omega), Option.bind_eq_some_iff] at h3
            obtain ⟨cs, h4, h5⟩ := h3
            obtain ⟨v, h6, h7⟩ := ih1 n e E cs _ h0 h5
            exact ⟨v, h6, cs, h7, h4⟩
          obtain ⟨xs, hxl, hxs⟩ := lists_of len _ each
          refine ⟨xs, ⟨by omega, fun i hi => (hxs i hi).1⟩, ?_⟩
          simp only [EncM]
          refine ⟨some a, cap, by rw [hxl], by omega, fun h0 => ?_⟩
          have hsp : a.spot = none := by
            obtain ⟨_, cs, _, h4⟩ := hxs 0 h0
            have h5 := (World.cells?_some h4).2.2 0 hpos
            rw [Nat.zero_mul] at h5
            have h6 : (a.add 0).add 0 = a := by simp [Addr.add]
            rw [h6] at h5
            have hl4 := (World.cells?_some h4).2.1
            rw [List.getElem?_eq_getElem (by omega)] at h5
            unfold World.cell? at h5
            split at h5
            · split at h5
              · cases h5
              · rename_i hs; simpa using hs
            · cases h5
          obtain ⟨ab, ao, asp⟩ := a
          simp only at hsp
          subst hsp
          have hcell : ∀ i (hi : i < xs.length), ∃ cs, EncM w (oldU w) noB [] false E xs[i] cs ∧ cellsAt w ab (ao + i * E.csize) cs := by
            intro i hi
            obtain ⟨_, cs, h3, h4⟩ := hxs i hi
            refine ⟨cs, h3, fun j hj => ?_⟩
            have hl4 := (World.cells?_some h4).2.1
            have h5 := (World.cells?_some h4).2.2 j (by omega)
            rw [List.getElem?_eq_getElem hj] at h5
            have h6 : ((⟨ab, ao, none⟩ : Addr).add (i * E.csize)).add j = ⟨ab, ao + i * E.csize + j, none⟩ := by
              unfold Addr.add
              by_cases e1 : i * E.csize = 0 <;> by_cases e2 : j = 0 <;> simp [e1, e2]
            rw [h6] at h5
            exact h5
          refine ⟨ab, ao, rfl, ?_, hcell⟩
          obtain ⟨cs, h3, h4⟩ := hcell 0 h0
          have h5 := h3.len
          exact cell_lt (h4 0 (by omega))
      · rename_i fs a r hu
        obtain ⟨h1, h2⟩ := Bool.and_eq_true_iff.1 h
        have hcz : P.cellsOf t = (Ty.scons a r).csize := beqN h1
        obtain ⟨xs, n, _, _, hl, hlen, hf⟩ := DataW.trod_struct hu hx
        refine ih2 n fs.toList 0 (.scons a r) [] cs h2 rfl (by omega) fun f hm => ?_
        obtain ⟨i, hi, hg⟩ := List.getElem_of_mem hm
        have hi' : i < fs.size := by simpa using hi
        have h3 := hf i f (by rw [Array.getElem?_eq_getElem hi', ← hg]; simp)
        rw [List.getElem?_eq_getElem (by omega)] at h3
        exact ⟨_, by simpa using h3⟩
      · cases h
    · cases fs with
      | nil => cases T <;> simp [okFs] at h; exact ⟨(), trivial, by simpa [EncM, Ty.csize] using hm⟩
      | cons f fs =>
        cases T with
        | scons a r =>
          simp only [okFs, Bool.and_eq_true] at h
          obtain ⟨⟨⟨h1, h2⟩, h3⟩, h4⟩ := h
          have ho : f.offset = off := beqN h1
          have hcz : P.cellsOf f.type = a.csize := beqN h2
          simp only [Ty.csize] at hm
          obtain ⟨y, hy⟩ := hf f List.mem_cons_self
          have e1 : ((pre ++ m).drop f.offset).take (P.cellsOf f.type) = m.take a.csize := by
            rw [ho, ← hp, List.drop_left, hcz]
          rw [e1] at hy
          obtain ⟨va, q1, q2⟩ := ih1 fuel f.type a _ y h3 hy
          obtain ⟨vr, q3, q4⟩ := ih2 fuel fs (off + a.csize) r (pre ++ m.take a.csize) (m.drop a.csize) h4 (by simp [hp]; omega) (by simp; omega) fun g hg => by
            obtain ⟨z, hz⟩ := hf g (List.mem_cons_of_mem _ hg)
            exact ⟨z, by rw [List.append_assoc, List.take_append_drop]; exact hz⟩
          refine ⟨(va, vr), ⟨q1, q3⟩, ?_⟩
          simp only [EncM]
          exact ⟨_, _, (List.take_append_drop a.csize m).symm, q2, q4⟩
        | _ => simp [okFs] at h

theorem arg_enc {d : Nat} {t : TypeId} {T : Ty} {v : Value} {x : DataW H} {ps : List MemPlace} {r : Reach} {b0 : Nat} (ok : okT P d t T = true) (hval : Value.okWide P w r b0 t v) (h : DataW.Trod enc P w base spare held t v x ps) :
    ∃ a : T.den, vok T a ∧ aggV v = T.isAgg ∧ EncM w (oldU w) noB [] false T a v.cells.toList := by
  obtain ⟨fuel, hf⟩ := h
  obtain ⟨a, h1, h2⟩ := (trod_enc d).1 fuel t T _ _ ok hf
  refine ⟨a, h1, ?_, h2⟩
  cases d with
  | zero => simp [okT] at ok
  | succ d =>
    simp only [okT] at ok
    split at ok
    · rename_i hu; obtain ⟨n, rfl⟩ := okWide_int hu hval; rfl
    · rename_i hu; obtain ⟨n, rfl⟩ := okWide_bool hu hval; rfl
    · rename_i hu; obtain ⟨n, rfl⟩ := okWide_string hu hval; rfl
    · rename_i hu; obtain ⟨_, _, _, rfl⟩ := okWide_slice hu hval; rfl
    · rename_i hu
      simp only [Value.okWide, hu] at hval
      obtain ⟨cs, rfl, _⟩ := hval
      rfl
    · cases ok
end

section
variable {w : World} {U : Nat → Prop} {β : Nat → Blk} {H : Heap}
theorem encT_nil : EncM w U β H true .snil () [] := by simp only [EncM]
theorem encT_arg {T R : Ty} {a : T.den} {x : R.den} {v : Value} {l : List Value} (h1 : aggV v = T.isAgg) (h2 : EncM w U β H false T a v.cells.toList) (h : EncM w U β H true R x l) : EncM w U β H true (.scons T R) (a, x) (v :: l) := by
  simp only [EncM]; exact ⟨_, _, rfl, .inr ⟨h1, h2⟩, h⟩
end
end Go.Dp
namespace Go.Dp
open Go.WideShapes Go.ChangeShapes

/-! What the program's text lays. -/
def chainD {H : Type} (T : Ty) (l : List (DataW H)) : DataW H :=
  match T with
  | .scons _ _ => .agg l
  | .snil => .agg l
  | _ => l.headD .nil
def toDs {H : Type} : (T : Ty) → T.den → List (DataW H)
  | .int k, n => [.lit (.int k n)]
  | .bool, b => [.lit (.bool b)]
  | .str, s => [.lit (.string s)]
  | .arr _ e, xs => [.agg (List.map (fun x => chainD e (toDs e x)) xs)]
  | .scons a r, x => chainD a (toDs a x.1) :: toDs r x.2
  | _, _ => []
def toD {H : Type} (T : Ty) (x : T.den) : DataW H := chainD T (toDs T x)
theorem toD_arr {H : Type} (n : Nat) (e : Ty) (xs : List e.den) : (toD (.arr n e) xs : DataW H) = .agg (xs.map (toD e)) := rfl
theorem toD_scons {H : Type} (a r : Ty) (x : a.den × r.den) : (toD (.scons a r) x : DataW H) = .agg (toD a x.1 :: toDs r x.2) := rfl
theorem toDs_scons {H : Type} (a r : Ty) (x : a.den × r.den) : (toDs (.scons a r) x : List (DataW H)) = toD a x.1 :: toDs r x.2 := rfl
theorem toD_int {H : Type} (k : IntKind) (n : Int) : (toD (.int k) n : DataW H) = .lit (.int k n) := rfl
theorem toD_bool {H : Type} (b : Bool) : (toD .bool b : DataW H) = .lit (.bool b) := rfl
theorem toD_str {H : Type} (s : List UInt8) : (toD .str s : DataW H) = .lit (.string s) := rfl

mutual
def okG (P : Program) : Nat → TypeId → Ty → Bool
  | 0, _, _ => false
  | d + 1, t, T => match P.underlying t, T with
    | some (.int k), .int k' => decide (k = k')
    | some .bool, .bool => true
    | some .string, .str => true
    | some (.array n e), .arr m E => Nat.beq n m && okG P d e E && Nat.beq (P.cellsOf e) E.csize && Nat.beq (P.cellsOf t) (n * E.csize) && E.pure
    | some (.struct fs), .scons a r => Nat.beq (P.cellsOf t) (Ty.scons a r).csize && okGs P d fs.toList 0 (.scons a r)
    | _, _ => false
def okGs (P : Program) : Nat → List Field → Nat → Ty → Bool
  | _, [], _, .snil => true
  | 0, _ :: _, _, _ => false
  | d + 1, f :: fs, off, .scons a r => Nat.beq f.offset off && Nat.beq (P.cellsOf f.type) a.csize && okG P d f.type a && okGs P d fs (off + a.csize) r
  | _, _, _, _ => false
end

section
variable {H : Type} {enc : TypeId × Value → H} {P : Program} {w : World} {base : Nat} {spare : Nat → Bool} {held : Bool} {U : Nat → Prop} {β : Nat → Blk} {Hp : Heap}

theorem flat_enc : ∀ d : Nat,
    (∀ (fuel : Nat) (t : TypeId) (T : Ty) (cs : List Value) (x : T.den) (ps : List MemPlace), okG P d t T = true → DataW.trod enc P w base spare held fuel t cs = some (toD T x, ps) → EncM w U β Hp false T x cs) ∧
    (∀ (fuel : Nat) (fs : List Field) (off : Nat) (T : Ty) (pre m : List Value) (x : T.den), okGs P d fs off T = true → pre.length = off → m.length = T.csize →
      (∀ (i : Nat) (f : Field), fs[i]? = some f → ∃ y q, DataW.trod enc P w base spare held fuel f.type (((pre ++ m).drop f.offset).take (P.cellsOf f.type)) = some (y, q) ∧ (toDs T x)[i]? = some y) → EncM w U β Hp false T x m) := by
  intro d
  induction d with
  | zero =>
    refine ⟨fun fuel t T cs x ps h => by simp [okG] at h, fun fuel fs off T pre m x h hp hm hf => ?_⟩
    cases fs with
    | nil => cases T <;> simp [okGs] at h; simpa [EncM, Ty.csize] using hm
    | cons f fs => simp [okGs] at h
  | succ d ih =>
    obtain ⟨ih1, ih2⟩ := ih
    refine ⟨fun fuel t T cs x ps h hx => ?_, fun fuel fs off T pre m x h hp hm hf => ?_⟩
    · simp only [okG] at h
      split at h
      · rename_i k k' hu
        obtain rfl : k = k' := of_decide_eq_true h
        obtain ⟨n, rfl, e, hw⟩ := DataW.trod_int hu hx
        simp only [toD_int, Prod.mk.injEq, DataW.lit.injEq, Lit.int.injEq] at e
        simp [EncM, e.1.2]
      · rename_i hu
        obtain ⟨b, rfl, e⟩ := DataW.trod_bool hu hx
        simp only [toD_bool, Prod.mk.injEq, DataW.lit.injEq, Lit.bool.injEq] at e
        simp [EncM, e.1]
      · rename_i hu
        obtain ⟨s, rfl, e, hs⟩ := DataW.trod_string hu hx
        simp only [toD_str, Prod.mk.injEq, DataW.lit.injEq, Lit.string.injEq] at e
        simp [EncM, e.1]
      · rename_i n e m E hu
        obtain ⟨h1, h5⟩ := Bool.and_eq_true_iff.1 h
        obtain ⟨h1, h4⟩ := Bool.and_eq_true_iff.1 h1
        obtain ⟨h1, h3⟩ := Bool.and_eq_true_iff.1 h1
        obtain ⟨h1, h2⟩ := Bool.and_eq_true_iff.1 h1
        obtain rfl : n = m := beqN h1
        have hcz : P.cellsOf e = E.csize := beqN h3
        obtain ⟨xs, q, _, ex, hl, hlen, hel⟩ := DataW.trod_array hu hx
        simp only [toD_arr, Prod.mk.injEq, DataW.agg.injEq] at ex
        have hxl : x.length = n := by
          have := congrArg List.length ex.1
          simp only [List.length_map] at this
          change List.length x = _ at this
          omega
        simp only [EncM]
        refine ⟨h5, by rw [hl]; exact beqN h4, hxl, fun i hi => ?_⟩
        have h6 := hel i (by change i < List.length x at hi; omega)
        rw [hcz] at h6
        have h7 : xs[i]? = some (toD E x[i], (xs[i]'(by change i < List.length x at hi; omega)).2) := by
          have h8 := congrArg (fun l => l[i]?) ex.1
          simp only [List.getElem?_map] at h8
          have hi2 : i < xs.length := by change i < List.length x at hi; omega
          rw [List.getElem?_eq_getElem hi2] at h8 ⊢
          have h9 : (x : List E.den)[i]? = some x[i] := List.getElem?_eq_getElem hi
          rw [h9] at h8
          simp only [Option.map_some, Option.some.injEq] at h8
          rw [h8]
        rw [h7] at h6
        exact ih1 q e E _ _ _ h2 h6
      · rename_i fs a r hu
        obtain ⟨h1, h2⟩ := Bool.and_eq_true_iff.1 h
        have hcz : P.cellsOf t = (Ty.scons a r).csize := beqN h1
        obtain ⟨xs, n, _, ex, hl, hlen, hf⟩ := DataW.trod_struct hu hx
        simp only [toD_scons, Prod.mk.injEq, DataW.agg.injEq] at ex
        refine ih2 n fs.toList 0 (.scons a r) [] cs x h2 rfl (by omega) fun i f hm => ?_
        have hi' : i < fs.size := by
          have := (List.getElem?_eq_some_iff.1 hm).1
          simpa using this
        have h3 := hf i f (by simpa using hm)
        have hi2 : i < xs.length := by omega
        rw [List.getElem?_eq_getElem hi2] at h3
        refine ⟨xs[i].1, xs[i].2, by simpa using h3, ?_⟩
        have h8 := congrArg (fun l => l[i]?) ex.1
        simp only [List.getElem?_map] at h8
        rw [List.getElem?_eq_getElem hi2] at h8
        rw [toDs_scons]
        exact h8
      · cases h
    · cases fs with
      | nil => cases T <;> simp [okGs] at h; simpa [EncM, Ty.csize] using hm
      | cons f fs =>
        cases T with
        | scons a r =>
          simp only [okGs, Bool.and_eq_true] at h
          obtain ⟨⟨⟨h1, h2⟩, h3⟩, h4⟩ := h
          have ho : f.offset = off := beqN h1
          have hcz : P.cellsOf f.type = a.csize := beqN h2
          simp only [Ty.csize] at hm
          obtain ⟨y, q, hy, hd⟩ := hf 0 f rfl
          have e1 : ((pre ++ m).drop f.offset).take (P.cellsOf f.type) = m.take a.csize := by
            rw [ho, ← hp, List.drop_left, hcz]
          rw [e1] at hy
          rw [toDs_scons] at hd
          simp only [List.getElem?_cons_zero, Option.some.injEq] at hd
          subst hd
          have q2 := ih1 fuel f.type a _ x.1 _ h3 hy
          have q4 := ih2 fuel fs (off + a.csize) r (pre ++ m.take a.csize) (m.drop a.csize) x.2 h4 (by simp [hp]; omega) (by simp; omega) fun i g hg => by
            obtain ⟨z, q', hz, hd⟩ := hf (i + 1) g (by simpa using hg)
            exact ⟨z, q', by rw [List.append_assoc, List.take_append_drop]; exact hz, by rw [toDs_scons] at hd; simpa using hd⟩
          simp only [EncM]
          exact ⟨_, _, (List.take_append_drop a.csize m).symm, q2, q4⟩
        | _ => simp [okGs] at h
end

theorem laid_mem {P : Program} {w : World} : ∀ {l : List (String × DataW Unit)} {ps : List MemPlace} {n : String} {d : DataW Unit}, DataW.LaidVars P w l ps → (n, d) ∈ l →
    ∃ g t cs fuel p, P.globalNamed n = some g ∧ (P.globals[g]?).map (·.type) = some t ∧ w.var? P n = some cs ∧ DataW.trod (fun _ => ()) P w 0 (fun _ => true) false fuel t cs.toList = some (d, p) := by
  intro l
  induction l with
  | nil => intro ps n d _ hm; cases hm
  | cons x l ih =>
    intro ps n d h hm
    obtain ⟨m, e⟩ := x
    obtain ⟨g, t, cs, fuel, p, q, h1, h2, h3, h4, h5, _⟩ := h
    rcases List.mem_cons.1 hm with hm | hm
    · cases hm; exact ⟨g, t, cs, fuel, p, h1, h2, h3, h4⟩
    · exact ih h5 hm

theorem glob_enc {P : Program} {w : World} {laid : List (String × DataW Unit)} {n : String} {d : DataW Unit} {g : Nat} {t : TypeId} {T : Ty} {x : T.den} {dep : Nat} (hL : laidMet P laid w) (hm : (n, d) ∈ laid) (hd : d = toD T x) (hg : P.globalNamed n = some g)
    (ht : (P.globals[g]?).map (·.type) = some t) (ok : okG P dep t T = true) : GlobAt w (oldU w) noB [] g ⟨.ref T, x⟩ := by
  obtain ⟨ps, hl, _⟩ := hL
  obtain ⟨g', t', cs, fuel, p, h1, h2, h3, h4⟩ := laid_mem hl hm
  rw [hg] at h1
  cases h1
  rw [ht] at h2
  cases h2
  subst hd
  have hE := (flat_enc (U := oldU w) (β := noB) (Hp := []) dep).1 fuel t T _ x p ok h4
  unfold World.var? at h3
  rw [hg] at h3
  simp only [Option.bind_some] at h3
  split at h3
  · rename_i c2 el fr hc
    cases h3
    refine ⟨?_, cs, el, fr, hc, by rw [← Array.length_toList]; exact hE.len⟩
    simp only [EncM]
    refine ⟨g, 0, cs.toList, rfl, ?_, hE, fun j hj => ?_⟩
    · rcases Nat.lt_or_ge g w.heap.size with h' | h'
      · exact h'
      · rw [Array.getElem?_eq_none (by omega)] at hc; cases hc
    · simp only [World.cell?, hc, Nat.zero_add]
      simp
  · cases h3
end Go.Dp
namespace Go.Dp
theorem GlobOK.nil {w : World} {U : Nat → Prop} : GlobOK [] w U := fun g x e => .inl (by subst e; rfl)
theorem GlobOK.cons {w : World} {U : Nat → Prop} {g : Nat} {x : TV} {l : List (Nat × TV)} (hp : x.t.pure = true) (ha : x.t.isAgg = false) (he : GlobAt w U noB [] g x) (h : GlobOK l w U) : GlobOK ((g, x) :: l) w U := by
  intro g' y e
  simp only [lookTV] at e
  cases hb : Nat.beq g g' with
  | true =>
    rw [hb] at e
    obtain rfl := beqN hb
    simp only [cond_true] at e
    subst e
    exact .inr ⟨hp, ha, he⟩
  | false =>
    rw [hb] at e
    exact h g' y e
end Go.Dp
/- A program without a go statement starts no goroutine. No condition. -/
set_option autoImplicit false
namespace Go.Dp
open Go
theorem goes_none {P : Program} {c : OpenClaim} (h : P.funcs.toList.all (fun fn => !fn.goes) = true) (hs : c.start = .entering) : false = c.goesBy P := by
  have h1 : ∀ fn ∈ P.funcs.toList, fn.goes = false := fun fn hm => by simpa using List.all_eq_true.1 h fn hm
  have h2 : ∀ g : Nat, (P.funcs[g]?).any Func.goes = false := by
    intro g
    cases hg : P.funcs[g]? with
    | none => rfl
    | some fn => simpa using h1 fn (Array.mem_toList_iff.2 (Array.mem_of_getElem? hg))
  have h3 : P.funcs.any Func.goes = false := by
    rw [← Array.any_toList]
    exact List.any_eq_false.2 fun fn hm => by rw [h1 fn hm]; simp
  have h4 : ∀ f, P.goes f = false := by
    intro f
    unfold Program.goes
    rw [h3]
    simp [h2]
  unfold OpenClaim.goesBy Program.goesAt Program.goesFrom
  rw [hs]
  cases P.funcNamed c.func <;> simp [h4]
end Go.Dp
