/-
  A part of the proof's own groundwork: a small machine beside the model, and that what it computes the model computes. No condition.
-/
import Derived.Test.YtohbjikggmkkhaaGreatDoorFd
import Derived.Lib.UnsafeStr
import Derived.Recover
import Derived.Lib.MakeNoZero
import Derived.Lib.Builder
import Derived.Lib.Bytealg
import GoSem.ClaimGoes
/- append and copy, continued. -/
set_option autoImplicit false
set_option linter.unusedVariables false
set_option linter.unusedSimpArgs false
set_option linter.unusedSectionVars false
namespace Go.Cm
open Go

theorem Adv.from {E : En} {s s1 s' : St} {β β' : Mp} {w w' : World} (h : Adv E s1 s' β β' w w') (hn : s1.nx = s.nx) : Adv E s s' β β' w w' :=
  ⟨h.ext, fun id t a b => by have := h.fresh id t a b; rw [hn] at this; exact this, h.keep, h.size, h.os, h.tape, h.output⟩
theorem Done.from {P : Program} {E : En} {s s1 s' : St} {β : Mp} {w : World} {x : CV} {m : Sem Value} (h : Done P E s1 s' β w x m) (hn : s1.nx = s.nx) : Done P E s s' β w x m := by
  obtain ⟨v, w', β', h1, h2, h3, h4⟩ := h
  exact ⟨v, w', β', h1, h2, h3, h4.from hn⟩

/-- What is known where something is appended. -/
structure AppH (C : Ctx) (t u e : Nat) (d : TypeDesc) (ie : TypeInfo) (zv : Value) : Prop where
  t : C.und t = some (.slice e)
  u : C.und u = some d
  d : isSeqD d = true
  e : C.ti e = some ie
  z : ie.zero = some zv
  zs : zv.cells.size = ie.size
  sz : 0 < ie.size
  bytes : 0 < ie.bytes
/-- What is appended. -/
structure News (P : Program) (w : World) (ie : TypeInfo) (m : Nat) (vy : Value) (l : List Value) : Prop where
  len : ∀ w : World, (Builtin.lenOf vy).run P w = .ok m w
  size : l.length = m * ie.size
  cells : ∀ w2 : World, w2.heap = w.heap → (Builtin.firstCells ie.size m vy).run P w2 = .ok l.toArray w2

theorem drew_heap (w : World) : w.drew.heap = w.heap ∧ w.drew.os = w.os ∧ w.drew.tape = w.tape ∧ w.drew.output = w.output := ⟨rfl, rfl, rfl, rfl⟩

section
variable {C : Ctx} {s s' : St} {t u e ty : Nat} {d : TypeDesc} {ie : TypeInfo} {zv : Value}

/-- A new array for what is appended. -/
theorem out_ok (hC : CtxOK C) (hA : AppH C t u e d ie zv) {E : En} {β : Mp} {w : World} {m len c0 : Nat} {c : CV} {olds news : List Value} {A : Option Addr} {vy : Value} {cc : CV} (hc : Cov E (newC s e cc (some ie.size))) (hH : HR E β s.hp s.nx w) (hN : News C.P w ie m vy news)
    (ho : (Builtin.firstCells ie.size len (.slice A len c0)).run C.P w.drew = .ok olds.toArray w.drew) (hol : olds.length = len * ie.size) (hroom : ¬ len + m ≤ c0) (hmax : (len + m) * ie.bytes ≤ Dp.maxRoom) (hL : L β cc (olds ++ news)) :
    Done C.P E s (newC s e cc (some ie.size)) β w (.sl s.nx 0 0 (len + m) none) (Builtin.append_ #[t, u] ty #[.slice A len c0, vy]) := by
  have hge := grownCap_ge w (len + m) c0 e
  have hrun := run_append_out hC (ty := ty) hA.t hA.u hA.d hA.e hA.z (hN.len w) (hN.cells w.drew rfl) ho hroom hA.bytes hmax
  have hsize : (olds.toArray ++ news.toArray ++ Builtin.zeroCells zv.cells (grownCap w (len + m) c0 e - (len + m))).size = grownCap w (len + m) c0 e * ie.size := by
    simp only [Array.size_append, List.size_toArray, size_zeroCells, hA.zs, hol, hN.size]
    rw [← Nat.add_mul, ← Nat.add_mul]
    congr 1; omega
  have hll : (olds ++ news).length = (len + m) * ie.size := by rw [List.length_append, hol, hN.size, Nat.add_mul]
  have hle : (len + m) * ie.size ≤ grownCap w (len + m) c0 e * ie.size := Nat.mul_le_mul_right _ hge
  obtain ⟨q1, q2⟩ := newC_ok (w' := w.drew.alloc (.cells (olds.toArray ++ news.toArray ++ Builtin.zeroCells zv.cells (grownCap w (len + m) c0 e - (len + m))) e)) (cap := grownCap w (len + m) c0 e) hc hH rfl rfl rfl rfl hL
    (fun j v hj => by
      have hlt := (List.getElem?_eq_some_iff.1 hj).1
      rw [Array.getElem?_append_left (by simp at hlt ⊢; omega)]
      rw [List.append_toArray, List.getElem?_toArray]
      exact hj) (by rw [hsize, hll]; exact hle) (fun sz hsz => by cases hsz; rw [hll, hsize]; exact ⟨hle, Nat.le_refl _⟩)
  exact ⟨_, _, _, hrun, by simp only [R]; exact ⟨_, upd_at _ _ _, rfl, by simpa using hge⟩, q1, q2⟩

theorem appN_ok (hC : CtxOK C) (hA : AppH C t u e d ie zv) {m : Nat} {c y : CV} (h : appN s e ie m c = some (y, s')) : Le s s' ∧ Fr s s' ∧ ∀ (E : En) (β : Mp) (w : World) (l : List Value) (vy : Value), Cov E s' → HR E β s.hp s.nx w → L β c l → News C.P w ie m vy l →
    Done C.P E s s' β w y (Builtin.append_ #[t, u] ty #[.slice none 0 0, vy]) := by
  unfold appN at h
  cases hm : Nat.beq m 0 with
  | true =>
    rw [hm] at h
    simp only [cond_true, Option.some.injEq, Prod.mk.injEq] at h
    obtain ⟨rfl, rfl⟩ := h
    have hm := Dp.beqN hm
    refine ⟨Le.refl _, Fr.refl _, fun E β w l vy hc hH hl hN => Done.pure hH (v := .slice none 0 0) ?_ (by simp [R])⟩
    have hf := hN.cells w rfl
    have := run_append_in hC (w := w) (w' := w) (m := 0) (c := 0) (ty := ty) (A := none) hA.t hA.u hA.d hA.e (hN.len w) hf (by omega) (fun a e => by cases e) (fun _ => rfl)
    rw [hm] at this
    exact this
  | false =>
    rw [hm] at h
    simp only [cond_false] at h
    obtain ⟨h1, h⟩ := Dp.bif_some h
    obtain ⟨h1, h2⟩ := Dp.and2 h1
    have h1 := Nat.le_of_ble_eq_true h1
    cases h
    have hm0 : m ≠ 0 := fun e => by subst e; cases hm
    refine ⟨Le.new _ _, Fr.new _ _, fun E β w l vy hc hH hl hN => ?_⟩
    have := out_ok hC (ty := ty) (len := 0) (c0 := 0) (c := c) (A := none) (olds := []) hA hc hH hN (by simp [Builtin.firstCells]) (by simp) (by omega) (by simpa using h1) (by simpa using hl)
    simpa using this

theorem appK_ok (hC : CtxOK C) (hA : AppH C t u e d ie zv) {m id off k len cp : Nat} {c y : CV} (h : appK s e ie m c id off k len cp = some (y, s')) : Le s s' ∧ Fr s s' ∧ ∀ (E : En) (β : Mp) (w : World) (l : List Value) (vx vy : Value), Cov E s' → HR E β s.hp s.nx w → V β (.sl id off k len (some cp)) vx → L β c l → News C.P w ie m vy l →
    Done C.P E s s' β w y (Builtin.append_ #[t, u] ty #[vx, vy]) := by
  unfold appK at h
  cases hroom : Nat.ble (len + m) cp with
  | true =>
    rw [hroom] at h
    simp only [cond_true] at h
    have hroom := Nat.le_of_ble_eq_true hroom
    obtain ⟨h1, h⟩ := Dp.bif_some h
    split at h
    · rename_i s1 hp
      simp only [fN_eq] at h
      cases h
      obtain ⟨p1, p2, p3, p4⟩ := putC_ok (P := C.P) hp
      refine ⟨p1, p2, fun E β w l vx vy hc hH hx hl hN => ?_⟩
      obtain ⟨t', hb, rfl, hle⟩ := hx.sl
      obtain ⟨w', g1, g2, g3⟩ := p4 E β w t' l hc hH hb hl h1
      have := run_append_in hC (w := w) (w' := w') (m := len) (c := cp) (ty := ty) (A := some ⟨t'.blk, off, none⟩) hA.t hA.u hA.d hA.e (hN.len w) (hN.cells w rfl) hroom (fun a e => by
        cases e
        rw [Dp.addr_add]
        exact g1 0 _ (by omega)) (fun e => by cases e)
      exact ⟨_, w', β, this, by simp only [R]; exact ⟨t', hb, rfl, by simpa using hroom⟩, g2, g3⟩
    · cases h
  | false =>
    rw [hroom] at h
    simp only [cond_false] at h
    have hroom : ¬ len + m ≤ cp := fun hle => by
      have : Nat.ble (len + m) cp = true := Nat.ble_eq_true_of_le hle
      rw [this] at hroom; cases hroom
    split at h
    · rename_i c0 s1 hf
      obtain ⟨h1, h⟩ := Dp.bif_some h
      obtain ⟨h1, h3⟩ := Dp.and2 h1
      obtain ⟨h1, h2⟩ := Dp.and2 h1
      have h1 := Nat.le_of_ble_eq_true h1
      simp only [fN_eq] at h
      cases h
      obtain ⟨q1, q2, q3, q4, q5⟩ := firstC_ok (P := C.P) hf
      refine ⟨q1.trans (Le.new _ _), q2.trans (Fr.new _ _), fun E β w l vx vy hc hH hx hl hN => ?_⟩
      obtain ⟨l0, g1, g2, g3⟩ := q5 E β w vx (hc.le (Le.new _ _)) hH hx
      obtain ⟨t', hb, rfl, hle⟩ := hx.sl
      have := out_ok hC (s := s1) (ty := ty) (len := len) (c0 := cp) (c := c) hA hc (by rw [q3, q4]; exact hH) hN (g3 w.drew rfl) g2 hroom h1 (g1.app hl)
      exact this.from q4
    · cases h

theorem appO_ok (hC : CtxOK C) (hA : AppH C t u e d ie zv) {m id len n sz fz : Nat} {cs : Tr CV} {c y : CV} (hO : s.obj id = .cells e cs n (some sz) fz) (h : appO s ie m c id len e cs n sz fz = some (y, s')) : Le s s' ∧ Fr s s' ∧ ∀ (E : En) (β : Mp) (w : World) (l : List Value) (vx vy : Value), Cov E s' → HR E β s.hp s.nx w → V β (.sl id 0 0 len none) vx → L β c l → News C.P w ie m vy l →
    Done C.P E s s' β w y (Builtin.append_ #[t, u] ty #[vx, vy]) := by
  unfold appO at h
  obtain ⟨h1, h⟩ := Dp.bif_some h
  obtain ⟨h1, h5⟩ := Dp.and2 h1
  obtain ⟨h1, h4⟩ := Dp.and2 h1
  obtain ⟨h1, h3⟩ := Dp.and2 h1
  obtain ⟨h1, h2⟩ := Dp.and2 h1
  have h1 := Dp.beqN h1
  have h3 := Nat.le_of_ble_eq_true h3
  have h4 := Dp.beqN h4
  have h5 := Nat.le_of_ble_eq_true h5
  subst h1
  simp only [fN_eq] at h
  cases h
  refine ⟨(Le.put _ _ _ (by rw [show gO s.hp id = _ from hO]; simp)).trans (Le.new _ _), (Fr.put _ _ _).trans (Fr.new _ _), fun E β w l vx vy hc hH hx hl hN => ?_⟩
  have hcp := hc.le (Le.new _ _)
  have hT := put_tch s id .none (hH.lt (by rw [show gO s.hp id = _ from hO]; simp))
  have hS : E.S id := put_cov hcp
  have hT2 : ∀ o : CO, Tch ((s.put id .none).new o) id := fun o => hT.imp (fun e => ⟨e.1, Nat.lt_succ_of_lt e.2⟩) fun e => e
  have hlt : s.nx < E.hi := by have := hc.hi; simp only [St.new] at this; rw [put_nx] at this; exact this
  have hnx := put_nx s id .none
  have hhp := put_hp s id .none
  obtain ⟨t', hb, rfl, hle⟩ := hx.sl
  simp only [Option.getD_none, Nat.sub_zero] at hle ⊢
  have hOb := hH.obj id hS
  rw [show gO s.hp id = _ from hO] at hOb
  have hlive : gO s.hp id ≠ .none := by rw [show gO s.hp id = _ from hO]; simp
  obtain ⟨l0, r1, r2, r3, r4⟩ := read_ok (P := C.P) (m := n) (off := 0) hOb hb (by omega)
  obtain ⟨t'', arr, fr, e1, e2, e3, e4, e6, e7⟩ := hOb
  rw [hb] at e1; cases e1
  obtain ⟨hBt, hfr⟩ : E.B ≤ t'.blk ∧ fr.2 ≤ fz := by
    rcases e4 with e4 | ⟨_, e4⟩ | ⟨_, e4, _⟩
    · exact e4
    · cases e4
    · cases e4
  obtain ⟨f1, f2⟩ := e7 _ rfl
  have hclen := hl.len
  have hf := hH.free _ (Nat.le_refl _) hlt
  -- the cells of the longer row
  have cell : ∀ (β' : Mp), Ext β β' → ∀ j (v : Value), j < n + m * ie.size → (l0 ++ l)[j]? = some v → V β' (gR (wrN cs n c) j) v := by
    intro β' hE j v hj hv
    rw [gR_wr]
    rw [List.getElem?_append, r1] at hv
    by_cases g : j < n
    · rw [if_pos g] at hv
      rw [if_neg (by omega)]
      have g0 : j < l0.length := by omega
      obtain ⟨x, g1, g2⟩ := L.get g0 r2
      rw [rdN_at cs n 0 j (by omega), Nat.zero_add] at g1
      cases g1
      have : l0[j] = v := by rw [List.getElem?_eq_getElem g0] at hv; exact Option.some.inj hv
      rw [← this]; exact g2.mono hE
    · rw [if_neg g] at hv
      have g3 := (List.getElem?_eq_some_iff.1 hv).1
      rw [if_pos (by omega)]
      obtain ⟨x, g1, g2⟩ := L.get g3 hl
      rw [g1]
      have : l[j - n] = v := by rw [List.getElem?_eq_getElem g3] at hv; exact Option.some.inj hv
      rw [← this]; exact g2.mono hE
  by_cases hroom : len + m ≤ t'.cap
  · -- in its own block
    have hnm : n + m * ie.size ≤ t'.cap * ie.size := by rw [← h4, ← Nat.add_mul]; exact Nat.mul_le_mul_right _ hroom
    obtain ⟨arr', q1, q2, q3, q4, q5, q6, q7, q8⟩ := Dp.setCells_heap t'.blk l n w arr _ fr e2
    have hst : (storeCells (Addr.add ⟨t'.blk, 0, none⟩ (len * ie.size)) l).run C.P w = .ok () (w.setCells t'.blk n l) := by
      rw [Dp.addr_add, Nat.zero_add, h4]
      have := run_storeCells_cells (P := C.P) t'.blk n l 0 w (fun j hj => by
          rw [cell_at e2]
          have : n + j < arr.size := by have := hN.size; omega
          simp [this]) (fun j hj => by
          simp only [World.frozen?, e2]
          simp only [Bool.and_eq_false_iff, decide_eq_false_iff_not]
          exact .inr (by omega)) (leaves_one h2 hl)
      simpa using this
    have hrun := run_append_in hC (w := w) (w' := w.setCells t'.blk n l) (m := len) (c := t'.cap) (ty := ty) (A := some ⟨t'.blk, 0, none⟩) hA.t hA.u hA.d hA.e (hN.len w) (hN.cells w rfl) hroom (fun a e => by cases e; exact hst) (fun e => by cases e)
    refine ⟨_, _, upd β s.nx t', hrun, by simp only [R]; exact ⟨t', upd_at _ _ _, by simp, by simpa using hroom⟩, ?_, ?_⟩
    · have hg := hH.grow (w' := w.setCells t'.blk n l) (o := .cells e (wrN cs n c) (n + m * ie.size) (some ie.size) fz) hS hb hlive hlt q4 q5
        ⟨t', arr', fr, upd_at _ _ _, el_keep q1, by rw [q2]; omega, .inl ⟨hBt, hfr⟩, fun j hj hn => by
          refine cell _ (Ext.upd hf) j _ hn ?_
          have hq := q3 j
          rw [Array.getElem?_eq_getElem hj] at hq
          rw [List.getElem?_append]
          by_cases g : j < n
          · rw [if_pos (by omega)]
            rw [if_neg (by omega), Array.getElem?_eq_getElem (by omega), Option.some.injEq] at hq
            have := r4 j l0[j] (by simp [show j < l0.length by omega])
            rw [Nat.zero_add, cell_at e2, Array.getElem?_eq_getElem (by omega), Option.some.injEq] at this
            rw [List.getElem?_eq_getElem (by omega), hq, this]
          · rw [if_neg (by omega), r1]
            rw [if_pos (by have := hN.size; omega)] at hq
            exact hq.symm, fun z hz => by cases hz; rw [q2]; exact ⟨hnm, f2⟩⟩
      simp only [St.new, hhp, hnx]
      exact hg
    · refine ⟨Ext.upd hf, fun i u hu hn => ?_, fun b hb' hk => q4 b fun e => hk id t' ?_ hb hBt e.symm, by rw [q5]; exact Nat.le_refl _, q6, q7, q8⟩
      · by_cases ei : i = s.nx
        · subst ei
          simp only [upd, if_true, Option.some.injEq] at hu
          subst hu
          exact ⟨Nat.le_refl _, by simp only [St.new, hnx]; exact Nat.lt_succ_self _, .inr ⟨id, t', (hT2 _), hb, hBt, rfl⟩⟩
        · simp only [upd, ei, if_false] at hu; rw [hn] at hu; cases hu
      · exact (hT2 _)
  · -- to a new block
    have ho := r3
    have hofirst : (Builtin.firstCells ie.size len (.slice (some ⟨t'.blk, 0, none⟩) len t'.cap)).run C.P w.drew = .ok l0.toArray w.drew := by
      have : ObjR E.B β w.drew id (.cells e cs n (some ie.size) fz) := ObjR.heap ⟨t', arr, fr, hb, e2, e3, e4, e6, e7⟩ rfl
      obtain ⟨l1, s1, s2, s3, s4⟩ := read_ok (P := C.P) (m := n) (off := 0) this hb (by omega)
      have hll : l1 = l0 := by
        apply List.ext_getElem?
        intro j
        by_cases hj : j < n
        · have a1 := r4 j l0[j] (by simp [show j < l0.length by omega])
          have a2 := s4 j l1[j] (by simp [show j < l1.length by omega])
          have a3 : w.drew.cell? ⟨t'.blk, 0 + j, none⟩ = w.cell? ⟨t'.blk, 0 + j, none⟩ := rfl
          rw [a3, a1] at a2
          simp [show j < l0.length by omega, show j < l1.length by omega, Option.some.inj a2]
        · rw [List.getElem?_eq_none (by omega), List.getElem?_eq_none (by omega)]
      rw [hll, ← h4] at s3
      simpa [Builtin.firstCells] using s3
    have hge := grownCap_ge w (len + m) t'.cap e
    have hrun := run_append_out hC (ty := ty) hA.t hA.u hA.d hA.e hA.z (hN.len w) (hN.cells w.drew rfl) hofirst hroom hA.bytes h3
    have hsize : (l0.toArray ++ l.toArray ++ Builtin.zeroCells zv.cells (grownCap w (len + m) t'.cap e - (len + m))).size = grownCap w (len + m) t'.cap e * ie.size := by
      simp only [Array.size_append, List.size_toArray, size_zeroCells, hA.zs, r1, hN.size, ← h4]
      rw [← Nat.add_mul, ← Nat.add_mul]
      congr 1; omega
    have hnm : n + m * ie.size ≤ grownCap w (len + m) t'.cap e * ie.size := by rw [← h4, ← Nat.add_mul]; exact Nat.mul_le_mul_right _ hge
    have hK := hH.kill id
    have hcv : Cov E ((s.put id .none).new (.cells e (wrN cs n c) (n + m * ie.size) (some ie.size) fz)) := hc
    obtain ⟨g1, g2⟩ := new_ok (s := s.put id .none) (w := w) (w' := w.drew.alloc (.cells (l0.toArray ++ l.toArray ++ Builtin.zeroCells zv.cells (grownCap w (len + m) t'.cap e - (len + m))) e)) (t := ⟨w.heap.size, grownCap w (len + m) t'.cap e⟩) hcv
      (by rw [hhp, hnx]; exact hK) rfl rfl rfl rfl rfl ⟨⟨w.heap.size, grownCap w (len + m) t'.cap e⟩, _, (0, 0), by rw [hnx]; exact upd_at _ _ _, el_put (push_at rfl), by rw [hsize]; exact hnm, .inl ⟨hH.base, Nat.zero_le _⟩, fun j hj hn => by
        refine cell _ (by rw [hnx]; exact Ext.upd hf) j _ hn ?_
        have hlt2 : j < (l0 ++ l).length := by rw [List.length_append, r1, hN.size]; exact hn
        rw [List.getElem?_eq_getElem hlt2]
        congr 1
        simp only [List.append_toArray]
        rw [Array.getElem_append_left (by simpa using hlt2)]
        simp, fun z hz => by cases hz; rw [hsize]; exact ⟨hnm, Nat.le_refl _⟩⟩
    rw [hnx] at g1 g2
    exact ⟨_, _, _, hrun, by simp only [R]; exact ⟨⟨w.heap.size, grownCap w (len + m) t'.cap e⟩, upd_at _ _ _, rfl, by simpa using hge⟩, g1, g2.from hnx⟩
end
end Go.Cm
/- append, copy; maps; strings' iterators. -/
set_option autoImplicit false
set_option linter.unusedVariables false
set_option linter.unusedSimpArgs false
set_option linter.unusedSectionVars false
namespace Go.Cm
open Go

theorem Done.le {P : Program} {E : En} {s s1 s' : St} {β : Mp} {w : World} {x : CV} {m : Sem Value} (h : Done P E s1 s' β w x m) (hn : s1.nx = s.nx) : Done P E s s' β w x m := h.from hn

section
variable {C : Ctx} {s s' : St}

theorem appendC_ok (hC : CtxOK C) {t u ty : Nat} {x y z : CV} (h : appendC C s t u x y = some (z, s')) : Ok C.P s s' z fun β m => ∃ vx vy, V β x vx ∧ V β y vy ∧ m = Builtin.append_ #[t, u] ty #[vx, vy] := by
  unfold appendC at h
  split at h
  · rename_i e d hu hu'
    split at h
    · rename_i m ie z0 hlen hi hz
      obtain ⟨h1, h⟩ := Dp.bif_some h
      obtain ⟨h1, h4⟩ := Dp.and2 h1
      obtain ⟨h1, h3⟩ := Dp.and2 h1
      obtain ⟨h1, h2⟩ := Dp.and2 h1
      have h2 := Dp.bltN h2
      have h3 := Dp.bltN h3
      split at h4
      · rename_i zc hzc
        have h4 := Dp.beqN h4
        obtain ⟨zv, i, z1, z2, z3, z4, z5, z6⟩ := zero_cells hC hz hzc
        rw [hi] at z2; cases z2
        have hA : AppH C t u e d ie zv := ⟨hu, hu', h1, hi, z3, by rw [z6, h4], h2, h3⟩
        split at h
        · rename_i c s1 hf
          obtain ⟨q1, q2, q3, q4, q5⟩ := firstC_ok (P := C.P) hf
          have news : ∀ (E : En) (β : Mp) (w : World) (vy : Value), Cov E s1 → HR E β s.hp s.nx w → V β y vy → ∃ l, L β c l ∧ News C.P w ie m vy l := by
            intro E β w vy hc hH hy
            obtain ⟨l, g1, g2, g3⟩ := q5 E β w vy hc hH hy
            exact ⟨l, g1, fun w => lenOf_ok hlen hy w, g2, g3⟩
          split at h
          · obtain ⟨p1, p2, p3⟩ := appN_ok hC (ty := ty) hA h
            refine ⟨q1.trans p1, q2.trans p2, fun E β w mm hc hH ⟨vx, vy, hx, hy, hm⟩ => ?_⟩
            subst hm
            obtain ⟨l, g1, g2⟩ := news E β w vy (hc.le p1) hH hy
            rw [hx.ns]
            exact (p3 E β w l vy hc (by rw [q3, q4]; exact hH) g1 g2).from q4
          · obtain ⟨p1, p2, p3⟩ := appK_ok hC (ty := ty) hA h
            refine ⟨q1.trans p1, q2.trans p2, fun E β w mm hc hH ⟨vx, vy, hx, hy, hm⟩ => ?_⟩
            subst hm
            obtain ⟨l, g1, g2⟩ := news E β w vy (hc.le p1) hH hy
            exact (p3 E β w l vx vy hc (by rw [q3, q4]; exact hH) hx g1 g2).from q4
          · split at h
            · rename_i el cs n sz fz hO
              obtain ⟨he, h'⟩ := Dp.bif_some h
              clear h
              obtain rfl := Dp.beqN he
              obtain ⟨p1, p2, p3⟩ := appO_ok hC (ty := ty) hA hO h'
              refine ⟨q1.trans p1, q2.trans p2, fun E β w mm hc hH ⟨vx, vy, hx, hy, hm⟩ => ?_⟩
              subst hm
              obtain ⟨l, g1, g2⟩ := news E β w vy (hc.le p1) hH hy
              exact (p3 E β w l vx vy hc (by rw [q3, q4]; exact hH) hx g1 g2).from q4
            · cases h
          · cases h
        · cases h
      · cases h4
    · cases h
  · cases h

theorem copyC_ok (hC : CtxOK C) {t u ty : Nat} {x y z : CV} (h : copyC C s t x y = some (z, s')) : Ok C.P s s' z fun β m => ∃ vx vy, V β x vx ∧ V β y vy ∧ m = Builtin.copy_ #[t, u] ty #[vx, vy] := by
  unfold copyC at h
  split at h
  · rename_i e n m hu hn hm
    split at h
    · rename_i c s1 hf
      obtain ⟨q1, q2, q3, q4, q5⟩ := firstC_ok (P := C.P) hf
      split at h
      · rename_i id off k len cp
        obtain ⟨h1, h⟩ := Dp.bif_some h
        obtain ⟨h1, h2⟩ := Dp.and2 h1
        obtain ⟨ii, hi⟩ := sz_pos hC h1
        split at h
        · rename_i s2 hp
          rw [pI_eq] at h
          cases h
          obtain ⟨p1, p2, p3, p4⟩ := putC_ok (P := C.P) hp
          refine ⟨q1.trans p1, q2.trans p2, fun E β w mm hc hH ⟨vx, vy, hx, hy, hm'⟩ => ?_⟩
          subst hm'
          obtain ⟨l, g1, g2, g3⟩ := q5 E β w vy (hc.le p1) hH hy
          have hln := lenOf_ok (P := C.P) hm hy w
          obtain ⟨t', hb, rfl, hle⟩ := hx.sl
          simp only [lenOf, Option.some.injEq] at hn
          subst hn
          obtain ⟨w', r1, r2, r3⟩ := p4 E β w t' l hc (by rw [q3, q4]; exact hH) hb g1 h2
          refine ⟨.int .i64 ((min m len : Nat) : Int), w', β, ?_, by simp [R], r2, r3.from q4⟩
          have hfw := g3 w rfl
          have hst := r1 0 off (by omega)
          have hmin : Nat.min m len = min m len := rfl
          simp [Builtin.copy_, und_run hC hu, hln, sz_run hC hi, hmin, hfw, hst, goInt]
        · cases h
      · cases h
    · cases h
  · cases h

/-! Maps. -/
theorem keyEq_now (hC : CtxOK C) {β : Mp} {kt : Nat} {d : TypeDesc} {k a : CV} {vk va : Value} {b : Bool} (hk : keyOK C kt k = true) (hd : C.und kt = some d) (h : keyEq k a = some b) (hvk : V β k vk) (hva : V β a va) : Instr.sameNow d vk va = some b := by
  unfold keyOK at hk
  split at hk
  · rename_i hu
    rw [hd] at hu; cases hu
    unfold keyEq at h
    split at h
    · rename_i x y e
      cases e; cases h
      rw [hvk.str, hva.str]
      simp only [Instr.sameNow, Dp.beq_bytes, sEq_ok]
    · rename_i e; cases e
    · cases h
  · rename_i j k' n hu
    rw [hd] at hu; cases hu
    unfold keyEq at h
    split at h
    · rename_i e; cases e
    · rename_i x k2 y e
      cases e
      obtain ⟨h1, h⟩ := Dp.bif_some h
      cases h
      have h1 := Dp.decT h1
      subst h1
      rw [hvk.int, hva.int]
      simp only [Instr.sameNow, if_true, Dp.beq_int]
    · cases h
  · cases hk

theorem keyOK_und (hC : CtxOK C) {kt : Nat} {k : CV} (hk : keyOK C kt k = true) : ∃ d, C.und kt = some d := by
  unfold keyOK at hk
  split at hk
  · rename_i e; exact ⟨_, e⟩
  · rename_i e; exact ⟨_, e⟩
  · cases hk

theorem checkKey_ok (hC : CtxOK C) {β : Mp} {w : World} {kt : Nat} {k : CV} {vk : Value} (hk : keyOK C kt k = true) (hvk : V β k vk) (e : Bool) : (Instr.checkKey e 10000 kt vk).run C.P w = .ok () w := by
  unfold keyOK at hk
  split at hk
  · rename_i x hu
    rw [hvk.str]
    show (Instr.checkKey e (9999 + 1) kt _).run C.P w = .ok () w
    unfold Instr.checkKey
    simp only [Sem.run_bind, und_run hC hu, Result.andThen_ok, Sem.run_pure]
  · rename_i j k' n hu
    rw [hvk.int]
    show (Instr.checkKey e (9999 + 1) kt _).run C.P w = .ok () w
    unfold Instr.checkKey
    simp only [Sem.run_bind, und_run hC hu, Result.andThen_ok, Sem.run_pure]
  · cases hk

theorem sameBits_ok (hC : CtxOK C) {β : Mp} {kt : Nat} {k a : CV} {vk va : Value} (hk : keyOK C kt k = true) (h : keyEq k a = some true) (hvk : V β k vk) (hva : V β a va) : Instr.sameBits 10000 va vk = true := by
  unfold keyEq at h
  split at h
  · rename_i x y
    rw [sEq_ok] at h
    have : x = y := by simpa using h
    subst this
    rw [hvk.str, hva.str]
    show Instr.sameBits (9999 + 1) _ _ = true
    simp [Instr.sameBits, Dp.beq_bytes]
  · rename_i k1 x k2 y
    obtain ⟨h1, h⟩ := Dp.bif_some h
    have h1 := Dp.decT h1
    subst h1
    have : x = y := by simpa using h
    subst this
    rw [hvk.int, hva.int]
    show Instr.sameBits (9999 + 1) _ _ = true
    simp [Instr.sameBits]
  · cases h

/-- Entries one by one. -/
def EsR (β : Mp) (es : List (CV × CV)) (ea : List MapEntry) : Prop := ea.length = es.length ∧ ∀ i (h : i < ea.length) (h' : i < es.length), V β es[i].1 ea[i].key ∧ V β es[i].2 ea[i].val

theorem mfind_ok (hC : CtxOK C) {β : Mp} {kt : Nat} {d : TypeDesc} {k : CV} {vk : Value} (hk : keyOK C kt k = true) (hd : C.und kt = some d) (hvk : V β k vk) : ∀ (es : List (CV × CV)) (ea : List MapEntry) (i0 : Nat) (r : Option (Nat × CV)), EsR β es ea → mfind k es i0 = some r →
    (r = none ∧ Instr.findNow d vk ea i0 = some none) ∨ ∃ j x, r = some (i0 + j, x) ∧ ∃ (h : j < ea.length) (h' : j < es.length), es[j].2 = x ∧ keyEq k es[j].1 = some true ∧ Instr.findNow d vk ea i0 = some (some (i0 + j, ea[j].val)) := by
  intro es
  induction es with
  | nil =>
    intro ea i0 r hE h
    have : ea = [] := List.eq_nil_of_length_eq_zero (by simpa using hE.1)
    subst this
    simp only [mfind] at h
    cases h
    exact .inl ⟨rfl, rfl⟩
  | cons p es ih =>
    obtain ⟨a, b⟩ := p
    intro ea i0 r hE h
    cases ea with
    | nil => have := hE.1; simp at this
    | cons en ea =>
      have h0 := hE.2 0 (by simp) (by simp)
      have hE' : EsR β es ea := ⟨by have := hE.1; simpa using this, fun i g g' => by have := hE.2 (i + 1) (by simpa using g) (by simpa using g'); simpa using this⟩
      simp only [mfind] at h
      split at h
      · rename_i hq
        cases h
        have hs := keyEq_now hC hk hd hq hvk (show V β a en.key from h0.1)
        refine .inr ⟨0, b, rfl, by simp, by simp, rfl, hq, ?_⟩
        simp only [Instr.findNow, hs]
        rfl
      · rename_i hq
        have hs := keyEq_now hC hk hd hq hvk (show V β a en.key from h0.1)
        rcases ih ea (i0 + 1) r hE' h with ⟨h1, h2⟩ | ⟨j, x, h1, g, g', h2, h3, h4⟩
        · refine .inl ⟨h1, ?_⟩
          simp only [Instr.findNow, hs]
          exact h2
        · refine .inr ⟨j + 1, x, by rw [h1, show i0 + 1 + j = i0 + (j + 1) by omega], by simpa using g, by simpa using g', by simpa using h2, by simpa using h3, ?_⟩
          simp only [Instr.findNow, hs]
          rw [h4, show i0 + 1 + j = i0 + (j + 1) by omega]
          simp
      · cases h

theorem withOk_ok (hC : CtxOK C) {β : Mp} {ok b : Bool} {x : CV} {v : Value} (h : V β x v) : V β (withOk ok x b) (if ok then .tuple #[v, .bool b] else v) := by
  cases ok with
  | false => exact h
  | true =>
    simp only [withOk, R, if_true]
    exact ⟨_, rfl, v, _, rfl, h, .bool b, _, rfl, rfl, rfl⟩

theorem lookupC_ok (hC : CtxOK C) {t : Nat} {x k z : CV} {ok : Bool} (h : lookupC C s t x k ok = some (z, s')) : Ok C.P s s' z fun β m => ∃ vx vk, V β x vx ∧ V β k vk ∧ m = Instr.lookup t vx vk ok := by
  unfold lookupC at h
  split at h
  · rename_i kt et hu
    obtain ⟨hk, h'⟩ := Dp.bif_some h
    clear h
    have h := h'
    clear h'
    split at h
    · rename_i z0 hz
      obtain ⟨zv, z1, z2, _⟩ := zero_run hC hz
      have hzv : ∀ β : Mp, V β z0 zv := fun β => by rw [z2]; exact ofV_ok zv
      obtain ⟨d, hd⟩ := keyOK_und hC hk
      split at h
      · refine Ok.val h fun E β w m _ _ ⟨vx, vk, hx, hvk, hm⟩ => ?_
        subst hm
        rw [hx.nm]
        refine ⟨_, ?_, withOk_ok hC (hzv β)⟩
        simp only [Instr.lookup, Sem.run_bind, und_run hC hu, Result.andThen_ok, Sem.run_pure, checkKey_ok hC hk hvk, Instr.findKey, und_run hC hd]
        simp [Instr.findNow, z1]
      · rename_i id
        split at h
        · rename_i es ho
          have open_ : ∀ (E : En) (β : Mp) (w : World) (vx : Value), E.S id → HR E β s.hp s.nx w → V β (.m id) vx → ∃ (t' : Bt) (ea : Array MapEntry) (ck : Nat), vx = .map (some t'.blk) ∧ w.heap[t'.blk]? = some (.map ea ck) ∧ EsR β es ea.toList := by
            intro E β w vx hS hH hx
            obtain ⟨t', hb, e⟩ := hx.m
            have hO := hH.obj id hS
            rw [show gO s.hp id = _ from ho] at hO
            obtain ⟨t'', ea, ck, g1, g2, g3, g4, g5⟩ := hO
            rw [hb] at g1; cases g1
            exact ⟨t', ea, ck, e, g2, by simpa using g4, fun i q q' => by simpa using g5 i (by simpa using q) q'⟩
          split at h
          · rename_i j v hf
            cases h
            refine Ok.lr fun E β w m hS hH ⟨vx, vk, hx, hvk, hm⟩ => ?_
            subst hm
            obtain ⟨t', ea, ck, rfl, g2, g3⟩ := open_ E β w vx hS hH hx
            rcases mfind_ok hC hk hd hvk es ea.toList 0 _ g3 hf with ⟨e, _⟩ | ⟨j', x', e, q, q', r1, r2, r3⟩
            · cases e
            · cases e
              refine ⟨_, ?_, withOk_ok hC (v := ea.toList[j'].val) (by rw [← r1]; exact (g3.2 j' q q').2)⟩
              simp only [Instr.lookup, Sem.run_bind, und_run hC hu, Result.andThen_ok, getObj, Sem.run, g2, checkKey_ok hC hk hvk, Instr.findKey, und_run hC hd, r3, Sem.run_pure]
          · rename_i hf
            cases h
            refine Ok.lr fun E β w m hS hH ⟨vx, vk, hx, hvk, hm⟩ => ?_
            subst hm
            obtain ⟨t', ea, ck, rfl, g2, g3⟩ := open_ E β w vx hS hH hx
            rcases mfind_ok hC hk hd hvk es ea.toList 0 _ g3 hf with ⟨_, r3⟩ | ⟨j', x', e, _⟩
            · refine ⟨_, ?_, withOk_ok hC (hzv β)⟩
              simp only [Instr.lookup, Sem.run_bind, und_run hC hu, Result.andThen_ok, getObj, Sem.run, g2, checkKey_ok hC hk hvk, Instr.findKey, und_run hC hd, r3, Sem.run_pure, z1]
            · cases e
          · cases h
        · cases h
      · cases h
    · cases h
  · cases h
end
end Go.Cm
/- Maps are written; strings are ranged over; the least and the greatest. -/
set_option autoImplicit false
set_option linter.unusedVariables false
set_option linter.unusedSimpArgs false
set_option linter.unusedSectionVars false
namespace Go.Cm
open Go

/-- An object that is no row is replaced. -/
theorem put_obj {E : En} {β : Mp} {w : World} {s : St} {id : Nat} {t : Bt} {o : CO} {ob : Obj} (hc : Cov E (s.put id o)) (hH : HR E β s.hp s.nx w) (hb : β id = some t) (hl : gO s.hp id ≠ .none) (hB : E.B ≤ t.blk)
    (ho : ObjR E.B β { w with heap := w.heap.setIfInBounds t.blk ob } id o) : HR E β (s.put id o).hp (s.put id o).nx { w with heap := w.heap.setIfInBounds t.blk ob } ∧ Adv E s (s.put id o) β β w { w with heap := w.heap.setIfInBounds t.blk ob } := by
  have hT := put_tch s id o (hH.lt hl)
  have hw : ∀ b, b ≠ t.blk → ({ w with heap := w.heap.setIfInBounds t.blk ob } : World).heap[b]? = w.heap[b]? := fun b hb => Array.getElem?_setIfInBounds_ne (by omega)
  have hz : ({ w with heap := w.heap.setIfInBounds t.blk ob } : World).heap.size = w.heap.size := by simp
  refine ⟨?_, Adv.write hb hB hT hw hz rfl rfl rfl⟩
  rw [put_hp, put_nx]
  exact hH.write (put_cov hc) hb hl hw hz ho

section
variable {C : Ctx} {s s' : St}

theorem mapUpdateC_ok (hC : CtxOK C) {t : Nat} {x k v : CV} (h : mapUpdateC C s t x k v = some s') : Le s s' ∧ Fr s s' ∧ ∀ (E : En) (β : Mp) (w : World) (vx vk vv : Value), Cov E s' → HR E β s.hp s.nx w → V β x vx → V β k vk → V β v vv →
    ∃ w', (Instr.mapUpdate t vx vk vv).run C.P w = .ok () w' ∧ HR E β s'.hp s'.nx w' ∧ Adv E s s' β β w w' := by
  unfold mapUpdateC at h
  split at h
  · rename_i kt et id hu
    obtain ⟨hk, h'⟩ := Dp.bif_some h
    clear h
    have h := h'
    clear h'
    obtain ⟨d, hd⟩ := keyOK_und hC hk
    split at h
    · rename_i es ho
      have open_ : ∀ (E : En) (β : Mp) (w : World) (vx : Value), E.S id → HR E β s.hp s.nx w → V β (.m id) vx → ∃ (t' : Bt) (ea : Array MapEntry) (ck : Nat), β id = some t' ∧ E.B ≤ t'.blk ∧ t'.blk < w.heap.size ∧ vx = .map (some t'.blk) ∧ w.heap[t'.blk]? = some (.map ea ck) ∧ EsR β es ea.toList := by
        intro E β w vx hS hH hx
        obtain ⟨t', hb, e⟩ := hx.m
        have hO := hH.obj id hS
        rw [show gO s.hp id = _ from ho] at hO
        obtain ⟨t'', ea, ck, g1, g2, g3, g4, g5⟩ := hO
        rw [hb] at g1; cases g1
        exact ⟨t', ea, ck, hb, g3, hH.dom _ _ hb, e, g2, by simpa using g4, fun i q q' => by simpa using g5 i (by simpa using q) q'⟩
      have hlive : gO s.hp id ≠ .none := by rw [show gO s.hp id = _ from ho]; simp
      split at h
      · rename_i i b hf
        cases h
        refine ⟨Le.put _ _ _ hlive, Fr.put _ _ _, fun E β w vx vk vv hc hH hx hvk hvv => ?_⟩
        have hS := put_cov hc
        obtain ⟨t', ea, ck, hb, hB, hlt, rfl, g2, g3⟩ := open_ E β w vx hS hH hx
        rcases mfind_ok hC hk hd hvk es ea.toList 0 _ g3 hf with ⟨e, _⟩ | ⟨j', x', e, q, q', r1, r2, r3⟩
        · cases e
        · rw [Nat.zero_add] at e r3
          cases e
          have hsb := sameBits_ok hC hk r2 hvk (g3.2 i q q').1
          have hi : ea[i]? = some ea.toList[i] := by
            have : i < ea.size := by simpa using q
            simp [this]
          obtain ⟨p1, p2⟩ := put_obj (o := .map (es.set i (k, v))) (ob := .map (ea.modify i fun e => { e with key := vk, val := vv }) ck) hc hH hb hlive hB
            ⟨t', ea.modify i (fun e => { e with key := vk, val := vv }), ck, hb, by simp [hlt], hB, by simp; simpa using g3.1, fun j h1 h2 => by
              have hjs : j < ea.size := by simpa using h1
              have hjl : j < es.length := by simpa using h2
              rw [Array.getElem_modify, List.getElem_set]
              by_cases hji : i = j
              · subst hji
                simp only [if_true]
                exact ⟨hvk, hvv⟩
              · simp only [hji, if_false]
                have := g3.2 j (by simpa using hjs) hjl
                simpa using this⟩
          refine ⟨_, ?_, p1, p2⟩
          simp only [Instr.mapUpdate, Sem.run_bind, und_run hC hu, Result.andThen_ok, getObj, Sem.run, g2, checkKey_ok hC hk hvk, Instr.findKey, und_run hC hd, r3, Sem.run_pure, Instr.keyThatStays, hi, Option.map_some, Option.getD_some, hsb, if_true, setObj]
      · rename_i hf
        cases h
        refine ⟨Le.put _ _ _ hlive, Fr.put _ _ _, fun E β w vx vk vv hc hH hx hvk hvv => ?_⟩
        have hS := put_cov hc
        obtain ⟨t', ea, ck, hb, hB, hlt, rfl, g2, g3⟩ := open_ E β w vx hS hH hx
        rcases mfind_ok hC hk hd hvk es ea.toList 0 _ g3 hf with ⟨_, r3⟩ | ⟨j', x', e, _⟩
        · obtain ⟨p1, p2⟩ := put_obj (o := .map (es ++ [(k, v)])) (ob := .map (ea.push { key := vk, val := vv, born := ck }) (ck + 1)) hc hH hb hlive hB
            ⟨t', ea.push { key := vk, val := vv, born := ck }, ck + 1, hb, by simp [hlt], hB, by simp; simpa using g3.1, fun j h1 h2 => by
              have hle : ea.size = es.length := by simpa using g3.1
              rw [Array.getElem_push, List.getElem_append]
              by_cases hj : j < es.length
              · rw [dif_pos hj]
                have hj' : j < ea.size := by omega
                rw [dif_pos hj']
                have := g3.2 j (by simpa using hj') hj
                simpa using this
              · rw [dif_neg hj]
                have hj' : ¬ j < ea.size := by omega
                rw [dif_neg hj']
                have : j - es.length = 0 := by simp at h2; omega
                simp [this]
                exact ⟨hvk, hvv⟩⟩
          refine ⟨_, ?_, p1, p2⟩
          simp only [Instr.mapUpdate, Sem.run_bind, und_run hC hu, Result.andThen_ok, getObj, Sem.run, g2, checkKey_ok hC hk hvk, Instr.findKey, und_run hC hd, r3, Sem.run_pure, setObj]
        · cases e
      · cases h
    · cases h
  · cases h

theorem newMap_ok (hC : CtxOK C) : Ok C.P s (s.new (.map [])) (.m s.nx) fun _ m => ∃ t, m = Instr.makeMap t none := by
  refine ⟨Le.new _ _, Fr.new _ _, fun E β w m hc hH ⟨t, hm⟩ => ?_⟩
  subst hm
  obtain ⟨g1, g2⟩ := new_ok (s := s) (w := w) (w' := w.alloc (.map #[] 0)) (t := ⟨w.heap.size, 0⟩) hc hH rfl rfl rfl rfl rfl
    ⟨⟨w.heap.size, 0⟩, #[], 0, upd_at _ _ _, push_at rfl, hH.base, rfl, fun i h => by simp at h⟩
  exact ⟨.map (some w.heap.size), _, _, rfl, by simp only [R]; exact ⟨_, upd_at _ _ _, rfl⟩, g1, g2⟩

theorem newIt_ok (hC : CtxOK C) {t : Nat} {b : List UInt8} (hu : C.und t = some .string) : Ok C.P s (s.new (.it b 0)) (.p s.nx 0) fun β m => ∃ vx, V β (.s b) vx ∧ m = Instr.range t vx := by
  refine ⟨Le.new _ _, Fr.new _ _, fun E β w m hc hH ⟨vx, hx, hm⟩ => ?_⟩
  subst hm
  rw [hx.str]
  obtain ⟨g1, g2⟩ := new_ok (s := s) (w := w) (w' := w.alloc (.stringIter ⟨b.toArray⟩ 0)) (t := ⟨w.heap.size, 0⟩) hc hH rfl rfl rfl rfl rfl
    ⟨⟨w.heap.size, 0⟩, upd_at _ _ _, push_at rfl, hH.base⟩
  refine ⟨.pointer (some ⟨w.heap.size, 0, none⟩), _, _, ?_, by simp only [R]; exact ⟨_, upd_at _ _ _, rfl⟩, g1, g2⟩
  simp only [Instr.range, Sem.run_bind, und_run hC hu, Result.andThen_ok, Sem.run_pure]
  rfl

theorem nextC_ok (hC : CtxOK C) {ty : TypeId} {x z : CV} (h : nextC s x = some (z, s')) : Ok C.P s s' z fun β m => ∃ vx, V β x vx ∧ m = Instr.next vx true ty := by
  unfold nextC at h
  split at h
  · rename_i id
    split at h
    · rename_i b pos ho
      have open_ : ∀ (E : En) (β : Mp) (w : World) (vx : Value), E.S id → HR E β s.hp s.nx w → V β (.p id 0) vx → ∃ t' : Bt, β id = some t' ∧ E.B ≤ t'.blk ∧ t'.blk < w.heap.size ∧ vx = .pointer (some ⟨t'.blk, 0, none⟩) ∧ w.heap[t'.blk]? = some (.stringIter ⟨b.toArray⟩ pos) := by
        intro E β w vx hS hH hx
        obtain ⟨t', hb, e⟩ := hx.p
        have hO := hH.obj id hS
        rw [show gO s.hp id = _ from ho] at hO
        obtain ⟨t'', g1, g2, g3⟩ := hO
        rw [hb] at g1; cases g1
        exact ⟨t', hb, g3, hH.dom _ _ hb, e, g2⟩
      have hlive : gO s.hp id ≠ .none := by rw [show gO s.hp id = _ from ho]; simp
      have hsz : (⟨b.toArray⟩ : ByteArray).size = b.length := by simp [ByteArray.size]
      cases hd : Nat.blt pos b.length with
      | true =>
        rw [hd] at h
        simp only [cond_true, fN_eq] at h
        cases h
        have hd := Dp.bltN hd
        refine ⟨Le.put _ _ _ hlive, Fr.put _ _ _, fun E β w m hc hH ⟨vx, hx, hm⟩ => ?_⟩
        subst hm
        have hS := put_cov hc
        obtain ⟨t', hb, hB, hlt, rfl, g2⟩ := open_ E β w vx hS hH hx
        obtain ⟨p1, p2⟩ := put_obj (o := .it b (pos + (Utf8.decode ⟨b.toArray⟩ pos).2)) (ob := .stringIter ⟨b.toArray⟩ (pos + (Utf8.decode ⟨b.toArray⟩ pos).2)) hc hH hb hlive hB
          ⟨t', hb, by simp [hlt], hB⟩
        refine ⟨.tuple #[.bool true, .int .i64 (pos : Int), .int .i32 ((Utf8.decode ⟨b.toArray⟩ pos).1 : Int)], _, β, ?_, ?_, p1, p2⟩
        · simp only [Instr.next, getObj, setObj, Sem.run_bind, Sem.run, g2, Result.andThen_ok, hsz, hd, if_true, Sem.run_pure, goInt]
        · simp only [R]
          exact ⟨_, rfl, _, _, rfl, rfl, _, _, rfl, rfl, _, _, rfl, rfl, rfl⟩
      | false =>
        rw [hd] at h
        simp only [cond_false] at h
        cases h
        have hd : ¬ pos < b.length := fun e => by
          have : Nat.blt pos b.length = true := by simpa using e
          rw [this] at hd; cases hd
        refine Ok.lr fun E β w m hS hH ⟨vx, hx, hm⟩ => ?_
        subst hm
        obtain ⟨t', hb, hB, hlt, rfl, g2⟩ := open_ E β w vx hS hH hx
        refine ⟨.tuple #[.bool false], ?_, ?_⟩
        · simp only [Instr.next, getObj, Sem.run_bind, Sem.run, g2, Result.andThen_ok, hsz, hd, if_false, Sem.run_pure]
        · simp only [R]
          exact ⟨_, rfl, _, _, rfl, rfl, rfl⟩
    · cases h
  · cases h
end
end Go.Cm
/- Operations in a frame. -/
set_option autoImplicit false
set_option linter.unusedVariables false
set_option linter.unusedSimpArgs false
set_option linter.unusedSectionVars false
namespace Go.Cm
open Go Go.RowKit

/-- The deferred calls. -/
def DfR (β : Mp) : List CV → List Deferred → Prop
  | [], [] => True
  | c :: l, d :: ds => (∃ g first caps x y, c = .f g first caps ∧ d = { target := .fn (.func g) y, args := x } ∧ L β first x.toList ∧ L β caps y.toList) ∧ DfR β l ds
  | _, _ => False

theorem DfR.mono {β β' : Mp} (hE : Ext β β') : ∀ {l : List CV} {ds : List Deferred}, DfR β l ds → DfR β' l ds := by
  intro l
  induction l with
  | nil => intro ds h; cases ds <;> first | trivial | exact h.elim
  | cons c l ih =>
    intro ds h
    cases ds with
    | nil => exact h.elim
    | cons d ds =>
      obtain ⟨⟨g, f, cp, x, y, h1, h2, h3, h4⟩, h5⟩ := h
      exact ⟨⟨g, f, cp, x, y, h1, h2, h3.mono hE, h4.mono hE⟩, ih h5⟩

/-- A frame beside the machine. -/
structure FR (C : Ctx) (E : En) (n : Nat) (β : Mp) (s : St) (a : Act) (w : World) : Prop where
  size : a.tmps.size = n
  regs : ∀ i, V β (gR s.rg i) (a.tmps.getD i undef)
  dfs : DfR β s.df a.defers
  heap : HR E β s.hp s.nx w
  gl : ∀ g, V β (gl1 C.gl g) (.pointer (some ⟨g, 0, none⟩))

/-- What holds of an operation. -/
def OpP (C : Ctx) (o : Oper) (s : St) (r : Bool × CV × St) : Prop :=
  Le s r.2.2 ∧ r.2.2.rg = s.rg ∧ (∃ l, r.2.2.df = l ++ s.df) ∧ ∀ (E : En) (n : Nat) (β : Mp) (a : Act) (w : World), Cov E r.2.2 → FR C E n β s a w → ∀ (next : Act → World → Prop) (Q : Exit → Act → World → Prop),
    (r.1 = false → ∀ (a1 : Act) (v : Value) (w' : World) (β' : Mp), V β' r.2.1 v → a1.tmps = a.tmps → DfR β' r.2.2.df a1.defers → HR E β' r.2.2.hp r.2.2.nx w' → Adv E s r.2.2 β β' w w' → next (a1.put o.dst v) w') →
    (r.1 = true → ∀ (v : Value) (w' : World) (β' : Mp), V β' r.2.1 v → DfR β' r.2.2.df a.defers → HR E β' r.2.2.hp r.2.2.nx w' → Adv E s r.2.2 β β' w w' → Q (.panic [{ v := v, recovered := false }]) a w') → o.wp C.P a w next Q

section
variable {C : Ctx} {E : En} {n : Nat} {β : Mp} {s s' : St} {a : Act} {w : World} {o : Oper}

theorem ev_ok (h : FR C E n β s a w) (x : Operand) : V β (ev C s x) (a.eval x) := by
  cases x with
  | tmp i => exact h.regs i
  | const v => exact ofV_ok v
  | global g => exact h.gl g
  | func f =>
    show R β false (.f f .nil .nil) [_]
    simp only [R]
    exact ⟨#[], #[], rfl, rfl, rfl⟩

theorem evL_ok (h : FR C E n β s a w) : ∀ l : List Operand, L β (evL C s l) (l.map a.eval) := by
  intro l
  induction l with
  | nil => simp [evL, R]
  | cons x l ih => simp only [evL, List.map_cons, R]; exact ⟨_, _, rfl, ev_ok h x, ih⟩

theorem evO_ok (h : FR C E n β s a w) (x : Option Operand) : OptR β (evO C s x) (x.map a.eval) := by
  cases x with
  | none => trivial
  | some x => exact ev_ok h x

/-- An operation that gives a value. -/
theorem op_val {y : CV} {Φ : Mp → Sem Value → Prop} (h : Ok C.P s s' y Φ) (hx : ∀ (E : En) (n : Nat) (β : Mp) (a : Act) (w : World), FR C E n β s a w → ∃ m : Sem Value, execOp a.eval o = (do pure (.value (← m))) ∧ Φ β m) : OpP C o s (false, y, s') := by
  obtain ⟨h1, h2, h3⟩ := h
  refine ⟨h1, h2.rg, ⟨[], h2.df⟩, fun E n β a w hc hF next Q hn _ => ?_⟩
  obtain ⟨m, hm, hΦ⟩ := hx E n β a w hF
  obtain ⟨v, w', β', g1, g2, g3, g4⟩ := h3 E β w m hc hF.heap hΦ
  unfold Oper.wp
  rw [hm]
  simp only [Sem.run_bind, g1, Result.andThen_ok, Sem.run_pure, Oper.upon_value]
  exact hn rfl a v w' β' g2 rfl (by rw [h2.df]; exact hF.dfs.mono g4.ext) g3 g4

/-- An operation that only does something. -/
theorem op_unit (h1 : Le s s') (h2 : Fr s s') (h : ∀ (E : En) (n : Nat) (β : Mp) (a : Act) (w : World), Cov E s' → FR C E n β s a w → ∃ (m : Sem Unit) (w' : World), execOp a.eval o = (do m; pure .skip) ∧ m.run C.P w = .ok () w' ∧ HR E β s'.hp s'.nx w' ∧ Adv E s s' β β w w') : OpP C o s (false, .tup .nil, s') := by
  refine ⟨h1, h2.rg, ⟨[], h2.df⟩, fun E n β a w hc hF next Q hn _ => ?_⟩
  obtain ⟨m, w', hm, g1, g3, g4⟩ := h E n β a w hc hF
  unfold Oper.wp
  rw [hm]
  simp only [Sem.run_bind, g1, Result.andThen_ok, Sem.run_pure, Oper.upon_skip]
  exact hn rfl a undef w' β (by simp only [R]; exact ⟨#[], rfl, rfl⟩) rfl (by rw [h2.df]; exact hF.dfs) g3 g4

theorem val_some {x : Res} {r : Bool × CV × St} (h : val x = some r) : ∃ y s', x = some (y, s') ∧ r = (false, y, s') := by
  unfold val at h
  split at h
  · cases h; exact ⟨_, _, rfl, rfl⟩
  · cases h
theorem unit_some {x : Option St} {r : Bool × CV × St} (h : unit x = some r) : ∃ s', x = some s' ∧ r = (false, .tup .nil, s') := by
  unfold unit at h
  split at h
  · cases h; exact ⟨_, rfl, rfl⟩
  · cases h
end

/-- What a call of a function is shown to be. -/
def CallOK (C : Ctx) (call : CallT) : Prop := ∀ (f : Nat) (args : CV) (s : St) (r : Bool × CV × St), call f args s = some r →
  Le s r.2.2 ∧ Fr s r.2.2 ∧ Dp.EnterOK C.P f ∧ ∀ (E : En) (β : Mp) (w : World) (vals : Array Value), Cov E r.2.2 → HR E β s.hp s.nx w → (∀ g, V β (gl1 C.gl g) (.pointer (some ⟨g, 0, none⟩))) → L β args vals.toList →
    Calls C.P f vals w fun e w' => ∃ (v : Value) (β' : Mp), V β' r.2.1 v ∧ HR E β' r.2.2.hp r.2.2.nx w' ∧ Adv E s r.2.2 β β' w w' ∧ e = bif r.1 then .panicked [{ v := v, recovered := false }] else .returned v

/-- What is shown of the functions that are not walked. -/
def After (P : Program) (f : Nat) (vals : Array Value) (w : World) (R : Value → World → Prop) : Prop :=
  (∃ u w', (callFunc f vals).run P w = .ok (.value u) w' ∧ R u w') ∨ ((callFunc f vals).run P w = .ok (.enter f vals) w ∧ Calls P f vals w fun e w' => ∃ u, e = .returned u ∧ R u w')
def SpIs (C : Ctx) (f : Nat) : Sp → Prop
  | .pure F => ∀ (args v : CV), F args = some v → ∀ (β : Mp) (w : World) (vals : Array Value), L β args vals.toList → (∀ g, V β (gl1 C.gl g) (.pointer (some ⟨g, 0, none⟩))) → After C.P f vals w fun u w' => V β v u ∧ Below w.heap.size w w'
  | .mkz e => ∀ (w : World) (n : Nat), n ≤ Dp.maxRoom → After C.P f #[.int .i64 (n : Int)] w fun u w' => ∃ c arr, n ≤ c ∧ arr.size = c ∧ u = .slice (some ⟨w.heap.size, 0, none⟩) n c ∧ w'.heap = w.heap.push (.cells arr e) ∧ w'.os = w.os ∧ w'.tape = w.tape ∧ w'.output = w.output
  | .row F => ∀ (bs : List UInt8) (v : CV), F bs = some v → ∀ (w : World) (b off cap : Nat), b < w.heap.size → (∀ j x, bs[j]? = some x → w.cell? ⟨b, off + j, none⟩ = some (.int .u8 (x.toNat : Int))) → bs.length ≤ cap → After C.P f #[.slice (some ⟨b, off, none⟩) bs.length cap] w fun u w' => (∀ β, V β v u) ∧ Below w.heap.size w w'
  | .mkr F => ∀ (args c : CV), F args = some c → ∀ (β : Mp) (w : World) (vals : Array Value), L β args vals.toList → After C.P f vals w fun u w' => Below w.heap.size w w' ∧ ∃ b arr el fr cap, u = .slice (some ⟨b, 0, none⟩) c.len cap ∧ c.len ≤ cap ∧ w.heap.size ≤ b ∧ w'.heap[b]? = some (.cells arr el fr) ∧ c.len ≤ arr.size ∧ (∀ j, j < arr.size → ¬ (fr.1 ≤ j ∧ j < fr.2)) ∧ ∀ j x, c.at j = some x → ∀ (h : j < arr.size) (β : Mp), V β x arr[j]
def SpOK (C : Ctx) : Prop := ∀ f p, Dp.look C.sp f = some p → SpIs C f p

theorem HR.grown {E : En} {β : Mp} {hp : Tr CO} {nx : Nat} {w w' : World} (h : HR E β hp nx w) (hb : Below w.heap.size w w') : HR E β hp nx w' :=
  ⟨fun id t e => Nat.lt_of_lt_of_le (h.dom id t e) hb.size, h.free, fun id hS => (h.obj id hS).same fun t e _ => hb.block _ (h.dom id t e), h.inj, Nat.le_trans h.base hb.size, h.top⟩
theorem Adv.grown {E : En} {s s' : St} {β : Mp} {w w' : World} (hb : Below w.heap.size w w') : Adv E s s' β β w w' :=
  ⟨Ext.refl _, fun id t h1 h2 => (by rw [h2] at h1; cases h1), fun b h _ => hb.block b h, hb.size, hb.os, hb.tape, hb.output⟩

theorem bytesT_ok {β : Mp} : ∀ (c : CV) (b : List UInt8) (l : List Value), bytesT c = some b → L β c l → l = b.map fun x => .int .u8 (x.toNat : Int) := by
  intro c
  induction c with
  | nil => intro b l h hl; simp only [bytesT] at h; cases h; simp only [R] at hl; subst hl; rfl
  | cons a r _ ih =>
    intro b l h hl
    simp only [R] at hl
    obtain ⟨v, l2, rfl, h1, h2⟩ := hl
    unfold bytesT at h
    split at h
    · rename_i n r' heq
      cases heq
      obtain ⟨g, h'⟩ := Dp.bif_some h
      obtain ⟨g1, g2⟩ := Dp.and2 g
      have g1 : (0 : Int) ≤ n := Dp.decT g1
      have g2 := Dp.bltN g2
      split at h'
      · rename_i b' hb
        cases h'
        rw [V.int h1, ih _ _ hb h2]
        have : ((UInt8.ofNat n.toNat).toNat : Int) = n := by
          rw [UInt8.toNat_ofNat', Nat.mod_eq_of_lt (by omega)]
          omega
        rw [List.map_cons, this]
      · cases h'
    · rename_i heq; cases heq
    · cases h
  | _ => intro b l h; simp [bytesT, fl] at h

/-- A row that a callee has made. -/
theorem HR.made {E : En} {β : Mp} {hp : Tr CO} {nx b cap : Nat} {w w' : World} {o : CO} (h : HR E β hp nx w) (hhi : nx < E.hi) (hb : Below w.heap.size w w') (hn : w.heap.size ≤ b) (hl : b < w'.heap.size) (ho : ObjR E.B (upd β nx ⟨b, cap⟩) w' nx o) : HR E (upd β nx ⟨b, cap⟩) (hp.set nx o) (nx + 1) w' := by
  have hf := h.free nx (Nat.le_refl _) hhi
  have hE : Ext β (upd β nx ⟨b, cap⟩) := Ext.upd hf
  have old : ∀ i u, i ≠ nx → upd β nx ⟨b, cap⟩ i = some u → β i = some u := fun i u hne hu => by simpa [upd, hne] using hu
  refine ⟨fun i u hu => ?_, fun i h1 h2 => ?_, fun i hi => ?_, fun i j u v hi hj ni nj hu hv e => ?_, Nat.le_trans h.base hb.size, fun i hi => by rw [gO_set, if_neg (by omega)]; exact h.top i (by omega)⟩
  · by_cases e : i = nx
    · subst e; simp [upd] at hu; subst hu; exact hl
    · exact Nat.lt_of_lt_of_le (h.dom i u (old i u e hu)) hb.size
  · have : i ≠ nx := by omega
    simp only [upd, this, if_false]
    exact h.free i (by omega) h2
  · rw [gO_set]
    split
    · rename_i e; subst e; exact ho
    · exact ((h.obj i hi).same fun u hu _ => hb.block _ (h.dom i u hu)).mono hE
  · rw [gO_set] at ni nj
    by_cases ei : i = nx
    · by_cases ej : j = nx
      · rw [ei, ej]
      · have h1 := h.dom j v (old j v ej hv)
        subst ei; simp [upd] at hu; subst hu; simp only at e; omega
    · by_cases ej : j = nx
      · have h1 := h.dom i u (old i u ei hu)
        subst ej; simp [upd] at hv; subst hv; simp only at e; omega
      · rw [if_neg ei] at ni
        rw [if_neg ej] at nj
        exact h.inj i j u v hi hj ni nj (old i u ei hu) (old j v ej hv) e
theorem Adv.made {E : En} {s s' : St} {β : Mp} {w w' : World} {b cap : Nat} (hf : β s.nx = none) (hn : s.nx < s'.nx) (hb : Below w.heap.size w w') (hnew : w.heap.size ≤ b) : Adv E s s' β (upd β s.nx ⟨b, cap⟩) w w' := by
  refine ⟨Ext.upd hf, fun i u hu hnone => ?_, fun c hc _ => hb.block c hc, hb.size, hb.os, hb.tape, hb.output⟩
  by_cases e : i = s.nx
  · subst e; simp [upd] at hu; subst hu; exact ⟨Nat.le_refl _, hn, .inl hnew⟩
  · simp only [upd, e, if_false] at hu; rw [hnone] at hu; cases hu

section
variable {C : Ctx} {s s' : St} {o : Oper}

/-- An operation that is a call. -/
theorem op_call {f : Nat} {r : Bool × CV × St} (h1 : Le s r.2.2) (h2 : Fr s r.2.2) (h : ∀ (E : En) (n : Nat) (β : Mp) (a : Act) (w : World), Cov E r.2.2 → FR C E n β s a w → ∃ vals : Array Value, execOp a.eval o = callFunc f vals ∧
      ((r.1 = false ∧ After C.P f vals w fun v w' => ∃ β', V β' r.2.1 v ∧ HR E β' r.2.2.hp r.2.2.nx w' ∧ Adv E s r.2.2 β β' w w') ∨
       ((callFunc f vals).run C.P w = .ok (.enter f vals) w ∧ Calls C.P f vals w fun e w' => ∃ (v : Value) (β' : Mp), V β' r.2.1 v ∧ HR E β' r.2.2.hp r.2.2.nx w' ∧ Adv E s r.2.2 β β' w w' ∧ e = bif r.1 then .panicked [{ v := v, recovered := false }] else .returned v))) : OpP C o s r := by
  refine ⟨h1, h2.rg, ⟨[], h2.df⟩, fun E n β a w hc hF next Q hn hp => ?_⟩
  obtain ⟨vals, hm, hk⟩ := h E n β a w hc hF
  have fin : ∀ (v : Value) (w' : World) (β' : Mp), V β' r.2.1 v → HR E β' r.2.2.hp r.2.2.nx w' → Adv E s r.2.2 β β' w w' → r.1 = false → next (a.put o.dst v) w' := fun v w' β' g1 g2 g3 g4 =>
    hn g4 a v w' β' g1 rfl (by rw [h2.df]; exact hF.dfs.mono g3.ext) g2 g3
  unfold Oper.wp
  rw [hm]
  rcases hk with ⟨hf, hk⟩ | ⟨hrun, hk⟩
  · rcases hk with ⟨u, w', hrun, β', g1, g2, g3⟩ | ⟨hrun, hk⟩
    · rw [hrun, Oper.upon_value]; exact fin u w' β' g1 g2 g3 hf
    · rw [hrun, Oper.upon_enter]
      refine hk.mono ?_
      rintro e w' ⟨u, rfl, β', g1, g2, g3⟩
      exact fin u w' β' g1 g2 g3 hf
  · rw [hrun, Oper.upon_enter]
    refine hk.mono ?_
    rintro e w' ⟨v, β', g1, g2, g3, rfl⟩
    cases hb : r.1 with
    | false => exact fin v w' β' g1 g2 g3 hb
    | true => exact hp hb v w' β' g1 (by rw [h2.df]; exact hF.dfs.mono g3.ext) g2 g3

theorem callG_ok (hC : CtxOK C) (hS : SpOK C) {call : CallT} (hK : CallOK C call) {f : Nat} {args : CV} {r : Bool × CV × St} (h : callG C call f args s = some r) (hx : ∀ (E : En) (n : Nat) (β : Mp) (a : Act) (w : World), FR C E n β s a w → ∃ vals : Array Value, execOp a.eval o = callFunc f vals ∧ L β args vals.toList) : OpP C o s r := by
  unfold callG at h
  split at h
  · -- a value is worked out
    rename_i F hl
    unfold spPure at h
    split at h
    · rename_i v hv
      cases h
      refine op_call (f := f) (Le.refl _) (Fr.refl _) fun E n β a w hc hF => ?_
      obtain ⟨vals, g1, g2⟩ := hx E n β a w hF
      refine ⟨vals, g1, .inl ⟨rfl, ?_⟩⟩
      have := hS f _ hl args v hv β w vals g2 hF.gl
      rcases this with ⟨u, w', q1, q2, q3⟩ | ⟨q1, q2⟩
      · exact .inl ⟨u, w', q1, β, q2, hF.heap.grown q3, Adv.grown q3⟩
      · refine .inr ⟨q1, q2.mono ?_⟩
        rintro e w' ⟨u, rfl, q2, q3⟩
        exact ⟨u, rfl, β, q2, hF.heap.grown q3, Adv.grown q3⟩
    · cases h
  · -- a new row
    rename_i e hl
    unfold spMkz at h
    split at h
    · rename_i m
      obtain ⟨q, h⟩ := Dp.bif_some h
      obtain ⟨q1, q2⟩ := Dp.and2 q
      have q1 : (0 : Int) ≤ m := Dp.decT q1
      have q2 := Nat.le_of_ble_eq_true q2
      rw [fN_eq] at h
      cases h
      refine op_call (f := f) (Le.new _ _) (Fr.new _ _) fun E n β a w hc hF => ?_
      obtain ⟨vals, g1, g2⟩ := hx E n β a w hF
      have hv : vals = #[.int .i64 ((m.toNat : Nat) : Int)] := by
        simp only [R] at g2
        obtain ⟨v, l2, e, h2, h3⟩ := g2
        apply Array.ext'
        rw [e, h3]
        have : ((m.toNat : Nat) : Int) = m := by omega
        rw [this]
        simpa using h2
      subst hv
      refine ⟨_, g1, .inl ⟨rfl, ?_⟩⟩
      have step : ∀ (u : Value) (w' : World), (∃ c arr, m.toNat ≤ c ∧ arr.size = c ∧ u = .slice (some ⟨w.heap.size, 0, none⟩) m.toNat c ∧ w'.heap = w.heap.push (.cells arr e) ∧ w'.os = w.os ∧ w'.tape = w.tape ∧ w'.output = w.output) →
          ∃ β', V β' (.sl s.nx 0 0 m.toNat none) u ∧ HR E β' (s.new (.cells e .lf 0 (some 1) 0)).hp (s.new (.cells e .lf 0 (some 1) 0)).nx w' ∧ Adv E s (s.new (.cells e .lf 0 (some 1) 0)) β β' w w' := by
        rintro u w' ⟨c, arr, k1, k2, rfl, k3, k4, k5, k6⟩
        obtain ⟨j1, j2⟩ := new_ok (s := s) (w := w) (w' := w') (t := ⟨w.heap.size, c⟩) (o := .cells e .lf 0 (some 1) 0) hc hF.heap rfl k3 k4 k5 k6
          ⟨⟨w.heap.size, c⟩, arr, (0, 0), upd_at _ _ _, el_put (push_at k3), Nat.zero_le _, .inl ⟨hF.heap.base, Nat.le_refl _⟩, fun j _ h => by omega, fun sz hsz => by cases hsz; exact ⟨Nat.zero_le _, by rw [k2]; exact Nat.le_of_eq (Nat.mul_one c)⟩⟩
        exact ⟨_, by simp only [R]; exact ⟨_, upd_at _ _ _, rfl, by simpa using k1⟩, j1, j2⟩
      rcases hS f _ hl w m.toNat q2 with ⟨u, w', r1, r2⟩ | ⟨r1, r2⟩
      · exact .inl ⟨u, w', r1, step u w' r2⟩
      · refine .inr ⟨r1, r2.mono ?_⟩
        rintro e' w' ⟨u, rfl, r3⟩
        exact ⟨u, rfl, step u w' r3⟩
    · cases h
  · -- a row is looked at
    rename_i F hl
    unfold spRow at h
    split at h
    · rename_i id off k len c
      split at h
      · rename_i el cs n opn fz ho
        obtain ⟨h1, h'⟩ := Dp.bif_some h
        have h1 := Nat.le_of_ble_eq_true h1
        split at h'
        · rename_i b hb
          split at h'
          · rename_i v hv
            cases h'
            refine op_call (f := f) (Le.lr _ _) (Fr.lr _ _) fun E nn β a w hc hF => ?_
            obtain ⟨vals, g1, g2⟩ := hx E nn β a w hF
            have hS' := lr_cov hc
            simp only [R] at g2
            obtain ⟨u, l2, e, g2, g3⟩ := g2
            obtain ⟨t, hbt, e2, hle⟩ := V.sl g2
            obtain ⟨l, r1, r2, r3, r4⟩ := read_ok (P := C.P) (m := len) (off := off) (obj_cells (hF.heap.obj id hS') ho) hbt h1
            have hlb := bytesT_ok _ _ _ hb r2
            have hlen : b.length = len := by have := congrArg List.length hlb; simpa [r1] using this.symm
            have hvals : vals = #[.slice (some ⟨t.blk, off, none⟩) b.length (c.getD (t.cap - k))] := by
              apply Array.ext'
              rw [e, g3, e2, hlen]
            subst hvals
            refine ⟨_, g1, .inl ⟨rfl, ?_⟩⟩
            have hH : ∀ w', Below w.heap.size w w' → HR E β (s.lr id).hp (s.lr id).nx w' := fun w' hb => by rw [lr_hp, lr_nx]; exact hF.heap.grown hb
            rcases hS f _ hl b v hv w t.blk off (c.getD (t.cap - k)) (hF.heap.dom _ _ hbt) (fun j x hj => r4 j _ (by rw [hlb, List.getElem?_map, hj]; rfl)) (by rw [hlen]; exact hle) with ⟨u, w', q1, q2, q3⟩ | ⟨q1, q2⟩
            · exact .inl ⟨u, w', q1, β, q2 β, hH w' q3, Adv.grown q3⟩
            · refine .inr ⟨q1, q2.mono ?_⟩
              rintro e w' ⟨u, rfl, q2, q3⟩
              exact ⟨u, rfl, β, q2 β, hH w' q3, Adv.grown q3⟩
          · cases h'
        · cases h'
      · cases h
    · cases h
  · -- a row is made
    rename_i F hl
    unfold spMkr at h
    split at h
    · rename_i c hc0
      rw [fN_eq] at h
      cases h
      refine op_call (f := f) (Le.new _ _) (Fr.new _ _) fun E n β a w hc hF => ?_
      obtain ⟨vals, g1, g2⟩ := hx E n β a w hF
      refine ⟨vals, g1, .inl ⟨rfl, ?_⟩⟩
      have hf := hF.heap.free _ (Nat.le_refl _) (show s.nx < E.hi from hc.hi)
      have step : ∀ (u : Value) (w' : World), (Below w.heap.size w w' ∧ ∃ b arr el fr cap, u = .slice (some ⟨b, 0, none⟩) c.len cap ∧ c.len ≤ cap ∧ w.heap.size ≤ b ∧ w'.heap[b]? = some (.cells arr el fr) ∧ c.len ≤ arr.size ∧ (∀ j, j < arr.size → ¬ (fr.1 ≤ j ∧ j < fr.2)) ∧ ∀ j x, c.at j = some x → ∀ (h : j < arr.size) (β : Mp), V β x arr[j]) →
          ∃ β', V β' (.sl s.nx 0 0 c.len none) u ∧ HR E β' (newC s 0 c none).hp (newC s 0 c none).nx w' ∧ Adv E s (newC s 0 c none) β β' w w' := by
        rintro u w' ⟨k1, b, arr, el, fr, cap, rfl, k2, k3, k4, k5, k6, k7⟩
        refine ⟨upd β s.nx ⟨b, cap⟩, by simp only [R]; exact ⟨_, upd_at _ _ _, rfl, by simpa using k2⟩, hF.heap.made hc.hi k1 k3 (Array.getElem?_eq_some_iff.1 k4).1 ?_, Adv.made hf (Nat.lt_succ_self _) k1 k3⟩
        refine ⟨⟨b, cap⟩, arr, fr, upd_at _ _ _, el_put0 k4, k5, .inr (.inr ⟨Nat.le_trans hF.heap.base k3, rfl, k6⟩), fun j hj hn => ?_, fun sz hsz => by cases hsz⟩
        rw [gR_eq, Tr.get_mk, toL_at]
        cases hq : c.at j with
        | none => exact ⟨_, rfl⟩
        | some x => exact k7 j x hq hj _
      rcases hS f _ hl args c hc0 β w vals g2 with ⟨u, w', r1, r2⟩ | ⟨r1, r2⟩
      · exact .inl ⟨u, w', r1, step u w' r2⟩
      · refine .inr ⟨r1, r2.mono ?_⟩
        rintro e' w' ⟨u, rfl, r3⟩
        exact ⟨u, rfl, step u w' r3⟩
    · cases h
  · -- a function that is walked
    obtain ⟨p1, p2, p3, p4⟩ := hK f args s r h
    refine op_call (f := f) p1 p2 fun E n β a w hc hF => ?_
    obtain ⟨vals, g1, g2⟩ := hx E n β a w hF
    exact ⟨vals, g1, .inr ⟨p3 vals w, p4 E β w vals hc hF.heap hF.gl g2⟩⟩
end
end Go.Cm
/- What every operation is shown to be. -/
set_option autoImplicit false
set_option linter.unusedVariables false
set_option linter.unusedSimpArgs false
set_option linter.unusedSectionVars false
namespace Go.Cm
open Go Go.RowKit

theorem parts_list (a : Operand → Value) (ps : Array (Nat × Operand)) : (ps.map fun (i, x) => (i, a x)) = (ps.toList.map fun p => (p.1, a p.2)).toArray := by
  apply Array.ext'
  simp

theorem minMax_ok {P : Program} {w : World} {β : Mp} (mx : Bool) : ∀ (l x z : CV) (vs : List Value) (vx : Value), minMaxC mx x l = some z → V β x vx → L β l vs → ∃ v, (vs.foldlM (bif mx then Builtin.max2 else Builtin.min2) vx).run P w = .ok v w ∧ V β z v := by
  intro l
  induction l with
  | nil =>
    intro x z vs vx h hx hl
    simp only [R] at hl
    subst hl
    have : x = z := by unfold minMaxC at h; cases x <;> simpa using h
    subst this
    exact ⟨vx, by simp, hx⟩
  | cons y l _ ih =>
    intro x z vs vx h hx hl
    simp only [R] at hl
    obtain ⟨v, l2, rfl, h1, h2⟩ := hl
    unfold minMaxC at h
    split at h
    · rename_i heq; cases heq
    · rename_i a x0 b y0 l0 heq
      cases heq
      obtain ⟨g, h'⟩ := Dp.bif_some h
      have g := Dp.decT g
      subst g
      obtain ⟨u, g1, g2⟩ := ih _ _ _ (.int a (bif mx then (if y0 > x0 then y0 else x0) else (if y0 < x0 then y0 else x0))) h' (by simp [R]) h2
      refine ⟨u, ?_, g2⟩
      rw [hx.int, V.int h1]
      cases mx
      · simp only [cond_false, List.foldlM_cons, Builtin.min2] at g1 ⊢
        simpa using g1
      · simp only [cond_true, List.foldlM_cons, Builtin.max2] at g1 ⊢
        simpa using g1
    · cases h
  | _ => intro x z vs vx h hx hl; simp only [R] at hl

section
variable {C : Ctx} {s s' : St} {call : CallT}

theorem bUS_ok (hC : CtxOK C) {pt it ty : Nat} {x y z : CV} (h : bUS C s pt x y = some (z, s')) : Ok C.P s s' z fun β m => ∃ vx vy, V β x vx ∧ V β y vy ∧ m = Builtin.unsafeString_ #[pt, it] ty #[vx, vy] := by
  unfold bUS at h
  split at h
  · rename_i n
    obtain ⟨g, h'⟩ := Dp.bif_some h
    clear h
    have g := Dp.decT g
    subst g
    cases h'
    refine Ok.pure fun E β w m _ _ ⟨vx, vy, hx, hy, hm⟩ => ?_
    subst hm
    rw [hx.np, hy.int]
    exact ⟨.string ⟨#[]⟩, Lib.run_unsafeString_none w pt it ty none, by simp [R]⟩
  · rename_i id n
    cases hn : decide (n = 0) with
    | true =>
      rw [hn] at h
      cases h
      have hn := Dp.decT hn
      subst hn
      refine Ok.pure fun E β w m _ _ ⟨vx, vy, hx, hy, hm⟩ => ?_
      subst hm
      obtain ⟨t, _, e⟩ := hx.p
      rw [e, hy.int]
      exact ⟨.string ⟨#[]⟩, Lib.run_unsafeString_none w pt it ty _, by simp [R]⟩
    | false =>
      rw [hn] at h
      simp only [cond_false] at h
      split at h
      · rename_i e hu
        split at h
        · rename_i el cs m sz fz ho
          obtain ⟨g, h'⟩ := Dp.bif_some h
          clear h
          obtain ⟨g, g6⟩ := Dp.and2 g
          obtain ⟨g, g5⟩ := Dp.and2 g
          obtain ⟨g, g4⟩ := Dp.and2 g
          obtain ⟨g, g3⟩ := Dp.and2 g
          obtain ⟨g1, g2⟩ := Dp.and2 g
          have g1 : (0 : Int) ≤ n := Dp.decT g1
          have g2 := Nat.le_of_ble_eq_true g2
          have g3 := Dp.beqN g3
          have g4 := Dp.beqN g4
          have g5 := Nat.le_of_ble_eq_true g5
          subst g3
          split at h'
          · rename_i b hb
            rw [fS_eq, fN_eq] at h'
            cases h'
            refine ⟨Le.put _ _ _ (by rw [show gO s.hp id = _ from ho]; simp), Fr.put _ _ _, fun E β w mm hc hH ⟨vx, vy, hx, hy, hm⟩ => ?_⟩
            subst hm
            obtain ⟨t, hbt, e⟩ := hx.p
            rw [e, hy.int]
            have hS := put_cov hc
            have hO := obj_cells (hH.obj id hS) ho
            obtain ⟨l, r1, r2, r3, r4⟩ := read_ok (P := C.P) (m := n.toNat) (off := 0) hO hbt (by omega)
            have hlive : gO s.hp id ≠ .none := by rw [show gO s.hp id = _ from ho]; simp
            obtain ⟨t', arr, fr, e1, e2, e3, e4, e6, e7⟩ := hO
            rw [hbt] at e1; cases e1
            rw [elR_pos (Dp.bltN g6)] at e2
            obtain ⟨hB, hfr⟩ : E.B ≤ t.blk ∧ fr.2 ≤ fz := by
              rcases e4 with e4 | ⟨_, e4⟩ | ⟨_, e4, _⟩
              · exact e4
              · cases e4
              · cases e4
            have hl := bytesT_ok _ _ _ hb r2
            have hbl : b.length = n.toNat := by have := congrArg List.length hl; simpa [r1] using this.symm
            have hnn : n = (b.length : Int) := by omega
            have hne : b ≠ [] := by
              intro e0
              subst e0
              have : decide (n = 0) = true := by simp at hbl; simp; omega
              rw [this] at hn; cases hn
            obtain ⟨ie, hie⟩ := sz_pos hC (t := el) (by rw [g4]; rfl)
            have hcells : C.P.cellsOf el = 1 := by
              unfold Program.cellsOf
              rw [hC.tt el ie hie]
              have : C.sz el = ie.size := by simp [Ctx.sz, hie]
              simp [← this, g4]
            have hrun := Lib.run_unsafeString_row (P := C.P) w pt it ty el (und_ok hC hu).1 hcells t.blk arr.size (by simp [World.shape?, e2]) b hne (by omega) (by unfold Dp.maxRoom at g5; omega) (fun j x hj => by
              rw [Dp.addr_add]
              refine r4 j _ ?_
              rw [hl, List.getElem?_map, hj]
              rfl)
            rw [← hnn] at hrun
            have hfz0 : ¬ b.length = 0 := fun e0 => hne (List.eq_nil_of_length_eq_zero e0)
            have hblk : (w.freeze ⟨t.blk, 0, none⟩ b.length).heap[t.blk]? = some (.cells arr el (if fr.1 == fr.2 then (0, b.length) else (min fr.1 0, max fr.2 b.length))) := by
              unfold World.freeze
              rw [if_neg hfz0]
              simp [Array.getElem?_modify, e2]
            have hoth : ∀ c, c ≠ t.blk → (w.freeze ⟨t.blk, 0, none⟩ b.length).heap[c]? = w.heap[c]? := by
              intro c hcne
              unfold World.freeze
              rw [if_neg hfz0]
              simp [Array.getElem?_modify, Ne.symm hcne]
            have hsize : (w.freeze ⟨t.blk, 0, none⟩ b.length).heap.size = w.heap.size := by
              unfold World.freeze
              rw [if_neg hfz0]
              simp
            have hrest : (w.freeze ⟨t.blk, 0, none⟩ b.length).os = w.os ∧ (w.freeze ⟨t.blk, 0, none⟩ b.length).tape = w.tape ∧ (w.freeze ⟨t.blk, 0, none⟩ b.length).output = w.output := by
              unfold World.freeze
              rw [if_neg hfz0]
              exact ⟨rfl, rfl, rfl⟩
            refine ⟨_, _, β, hrun, by simp [R], ?_, Adv.write hbt hB (put_tch _ _ _ (hH.lt hlive)) hoth hsize hrest.1 hrest.2.1 hrest.2.2⟩
            rw [put_hp, put_nx]
            refine hH.write hS hbt hlive hoth hsize ⟨t, arr, _, hbt, el_put hblk, e3, .inl ⟨hB, ?_⟩, e6, e7⟩
            split <;> (simp only; omega)
          · cases h'
        · cases h
      · cases h
  · cases h
end
end Go.Cm
/- Every operation. -/
set_option autoImplicit false
set_option linter.unusedVariables false
set_option linter.unusedSimpArgs false
set_option linter.unusedSectionVars false
namespace Go.Cm
open Go Go.RowKit

theorem op_panic {C : Ctx} {s : St} {o : Oper} {v : CV} (h : ∀ (E : En) (n : Nat) (β : Mp) (a : Act) (w : World), FR C E n β s a w → ∃ u, (execOp a.eval o).run C.P w = .halt (.panic u) w ∧ V β v u) : OpP C o s (true, v, s) := by
  refine ⟨Le.refl _, rfl, ⟨[], rfl⟩, fun E n β a w hc hF next Q _ hp => ?_⟩
  obtain ⟨u, g1, g2⟩ := h E n β a w hF
  unfold Oper.wp
  rw [g1, Oper.upon_panic]
  exact hp rfl u w β g2 hF.dfs hF.heap (Adv.refl _ _ _ _ _)

section
variable {C : Ctx} {s : St} {call : CallT} {dst : Option Tmp} {ty : TypeId} {pos : String} {after : Array Edge} {guard : Option (Nat × Bool)} {r : Bool × CV × St}

theorem oMove_ok (hC : CtxOK C) {op : Op} {x : Operand} (hop : ∀ a : Act, execOp a.eval ⟨dst, op, ty, pos, after, guard⟩ = pure (.value (a.eval x))) (h : oMove C s x = some r) : OpP C ⟨dst, op, ty, pos, after, guard⟩ s r := by
  cases h
  refine op_val (Φ := fun β m => ∃ vx, V β (ev C s x) vx ∧ m = pure vx) (Ok.pure fun E β w m _ _ ⟨vx, hx, hm⟩ => ⟨vx, by rw [hm]; rfl, hx⟩) fun E n β a w hF => ⟨pure (a.eval x), by rw [hop]; rfl, _, ev_ok hF x, rfl⟩

theorem oPick_ok (hC : CtxOK C) {c x y : Operand} (h : oPick C s c x y = some r) : OpP C ⟨dst, .pick c x y, ty, pos, after, guard⟩ s r := by
  unfold oPick at h
  split at h
  · rename_i hc
    cases h
    refine op_val (Φ := fun β m => ∃ vx, V β (ev C s x) vx ∧ m = pure vx) (Ok.pure fun E β w m _ _ ⟨vx, hx, hm⟩ => ⟨vx, by rw [hm]; rfl, hx⟩) fun E n β a w hF => ⟨pure (a.eval x), ?_, _, ev_ok hF x, rfl⟩
    have hb : a.eval c = .bool true := by have := ev_ok hF c; rw [hc] at this; exact this.bool
    show (do pure (.value (if ← asBool (a.eval c) then a.eval x else a.eval y)) : Sem Next) = _
    rw [hb]; rfl
  · rename_i hc
    cases h
    refine op_val (Φ := fun β m => ∃ vx, V β (ev C s y) vx ∧ m = pure vx) (Ok.pure fun E β w m _ _ ⟨vx, hx, hm⟩ => ⟨vx, by rw [hm]; rfl, hx⟩) fun E n β a w hF => ⟨pure (a.eval y), ?_, _, ev_ok hF y, rfl⟩
    have hb : a.eval c = .bool false := by have := ev_ok hF c; rw [hc] at this; exact this.bool
    show (do pure (.value (if ← asBool (a.eval c) then a.eval x else a.eval y)) : Sem Next) = _
    rw [hb]; rfl
  · cases h

theorem oNil_ok (hC : CtxOK C) {x : Operand} (h : oNil C s x = some r) : OpP C ⟨dst, .nilCheck x, ty, pos, after, guard⟩ s r := by
  have go : ∀ (y : CV), ev C s x = y → (∀ (β : Mp) (v : Value), V β y v → execOp (fun _ => v) ⟨dst, .nilCheck x, ty, pos, after, guard⟩ = pure (.value v)) → OpP C ⟨dst, .nilCheck x, ty, pos, after, guard⟩ s (false, y, s) := by
    intro y hy hv
    refine op_val (Φ := fun β m => ∃ vx, V β y vx ∧ m = pure vx) (Ok.pure fun E β w m _ _ ⟨vx, hx, hm⟩ => ⟨vx, by rw [hm]; rfl, hx⟩) fun E n β a w hF => ⟨pure (a.eval x), ?_, _, by rw [← hy]; exact ev_ok hF x, rfl⟩
    have := hv β (a.eval x) (by rw [← hy]; exact ev_ok hF x)
    exact this
  unfold oNil at h
  split at h
  · rename_i id off hx
    cases h
    refine go _ hx fun β v hv => ?_
    obtain ⟨t, _, rfl⟩ := hv.p
    rfl
  · rename_i g a b hx
    cases h
    refine go _ hx fun β v hv => ?_
    obtain ⟨x, y, rfl, _⟩ := hv.f
    rfl
  · rename_i t u1 hx
    cases h
    refine go _ hx fun β v hv => ?_
    obtain ⟨y, rfl, _⟩ := hv.ifc
    rfl
  · cases h

theorem oIfc_ok (hC : CtxOK C) {t : Nat} {x : Operand} (h : oIfc C s t x = some r) : OpP C ⟨dst, .makeInterface t x, ty, pos, after, guard⟩ s r := by
  unfold oIfc at h
  split at h
  · cases h
  · rename_i d hni hu
    cases h
    refine op_val (Φ := fun β m => ∃ vx, V β (ev C s x) vx ∧ m = Instr.makeInterface t vx) (Ok.pure fun E β w m _ _ ⟨vx, hx, hm⟩ => ⟨.iface t vx, ?_, by simp only [R]; exact ⟨vx, rfl, hx⟩⟩) fun E n β a w hF => ⟨_, rfl, _, ev_ok hF x, rfl⟩
    rw [hm]
    simp only [Instr.makeInterface, Sem.run_bind, und_run hC hu, Result.andThen_ok]
    cases d <;> first | rfl | exact absurd rfl (hni _)
  · cases h

theorem oFunc_ok (hC : CtxOK C) {f : Fn} {x y : Array Operand} (h : oFunc C s f x y = some r) : OpP C ⟨dst, .makeFunc f x y, ty, pos, after, guard⟩ s r := by
  unfold oFunc at h
  split at h
  · rename_i g
    cases h
    refine op_val (Φ := fun β m => ∃ u v : Array Value, L β (evL C s x.toList) u.toList ∧ L β (evL C s y.toList) v.toList ∧ m = Instr.makeFunc (.func g) u v) (Ok.pure fun E β w m _ _ ⟨u, v, hu, hv, hm⟩ => ⟨.func (.func g) u v, by rw [hm]; rfl, by simp only [R]; exact ⟨u, v, rfl, hu, hv⟩⟩) fun E n β a w hF => ⟨_, rfl, x.map a.eval, y.map a.eval, by rw [Array.toList_map]; exact evL_ok hF _, by rw [Array.toList_map]; exact evL_ok hF _, rfl⟩
  · cases h

theorem oExtract_ok (hC : CtxOK C) {x : Operand} {i : Nat} (h : oExtract C s x i = some r) : OpP C ⟨dst, .extract x i, ty, pos, after, guard⟩ s r := by
  unfold oExtract at h
  split at h
  · rename_i c hx
    split at h
    · rename_i v hv
      cases h
      refine op_val (Φ := fun β m => ∃ vx, V β (.tup c) vx ∧ m = Instr.extract vx i) (Ok.pure fun E β w m _ _ ⟨vx, hx, hm⟩ => ?_) fun E n β a w hF => ⟨_, rfl, _, by rw [← hx]; exact ev_ok hF x, rfl⟩
      obtain ⟨vs, rfl, hl⟩ := hx.tup
      obtain ⟨u, g1, g2⟩ := hl.at hv
      have g1 : vs[i]? = some u := by simpa using g1
      exact ⟨u, by rw [hm]; simp [Instr.extract, g1], g2⟩
    · cases h
  · cases h

theorem oPanic_ok (hC : CtxOK C) {x : Operand} (h : oPanic C s x = some r) : OpP C ⟨dst, .panic x, ty, pos, after, guard⟩ s r := by
  unfold oPanic at h
  split at h
  · rename_i t v hx
    cases h
    refine op_panic fun E n β a w hF => ⟨a.eval x, ?_, by rw [← hx]; exact ev_ok hF x⟩
    have := ev_ok hF x
    rw [hx] at this
    obtain ⟨y, e, _⟩ := this.ifc
    simp only [execOp, e]
    rfl
  · cases h

theorem oAssert_ok (hC : CtxOK C) {x : Operand} {xt t : Nat} {ok : Bool} (h : oAssert C s x t ok = some r) : OpP C ⟨dst, .typeAssert x xt t ok, ty, pos, after, guard⟩ s r := by
  unfold oAssert at h
  split at h
  · cases h
  · rename_i d hni hu
    split at h
    · rename_i u v hx
      cases hb : Nat.beq u t with
      | true =>
        rw [hb] at h
        cases h
        obtain rfl := Dp.beqN hb
        refine op_val (Φ := fun β m => ∃ vx, V β (.ifc u v) vx ∧ m = Instr.typeAssert vx xt u true) (Ok.pure fun E β w m _ _ ⟨vx, hx, hm⟩ => ?_) fun E n β a w hF => ⟨_, rfl, _, by rw [← hx]; exact ev_ok hF x, rfl⟩
        obtain ⟨y, rfl, hy⟩ := hx.ifc
        refine ⟨.tuple #[y, .bool true], ?_, by simp only [R]; exact ⟨_, rfl, _, _, rfl, hy, _, _, rfl, rfl, rfl⟩⟩
        rw [hm]
        simp only [Instr.typeAssert, Sem.run_bind, und_run hC hu, Result.andThen_ok]
        cases d <;> first | exact absurd rfl (hni _) | simp
      | false =>
        rw [hb] at h
        simp only [cond_false] at h
        have hne : u ≠ t := fun e => by subst e; rw [Nat.beq_refl] at hb; cases hb
        split at h
        · rename_i z hz
          cases h
          obtain ⟨zv, z1, z2, _⟩ := zero_run hC hz
          refine op_val (Φ := fun β m => ∃ vx, V β (.ifc u v) vx ∧ m = Instr.typeAssert vx xt t true) (Ok.pure fun E β w m _ _ ⟨vx, hx, hm⟩ => ?_) fun E n β a w hF => ⟨_, rfl, _, by rw [← hx]; exact ev_ok hF x, rfl⟩
          obtain ⟨y, rfl, hy⟩ := hx.ifc
          refine ⟨.tuple #[zv, .bool false], ?_, by simp only [R]; exact ⟨_, rfl, _, _, rfl, by rw [z2]; exact ofV_ok zv, _, _, rfl, rfl, rfl⟩⟩
          rw [hm]
          simp only [Instr.typeAssert, Sem.run_bind, und_run hC hu, Result.andThen_ok]
          cases d <;> first | exact absurd rfl (hni _) | simp [hne, z1]
        · cases h
    · cases h
  · cases h

theorem oDefer_ok (hC : CtxOK C) {c : Call} (h : oDefer C s c = some r) : OpP C ⟨dst, .defer c, ty, pos, after, guard⟩ s r := by
  unfold oDefer at h
  obtain ⟨callee, args, ats⟩ := c
  split at h
  · rename_i f hcal hargs
    split at h
    · rename_i g first caps hf
      cases h
      simp only at hcal hargs
      refine ⟨Le.of rfl rfl rfl rfl rfl, rfl, ⟨[_], rfl⟩, fun E n β a w hc hF next Q hn _ => ?_⟩
      have hv := ev_ok hF f
      rw [hf] at hv
      obtain ⟨x, y, e, hx, hy⟩ := hv.f
      have ha : args = #[] := by apply Array.ext'; simpa using hargs
      subst ha
      have hrun : (execOp a.eval ⟨dst, .defer ⟨callee, #[], ats⟩, ty, pos, after, guard⟩).run C.P w = .ok (.defer { target := .fn (.func g) y, args := x }) w := by
        simp only [execOp, resolve, hcal, e, Deferred.ofValue, Sem.run_bind, Sem.run_pure, Result.andThen_ok]
        simp
      unfold Oper.wp
      rw [hrun, Oper.upon_defer]
      exact hn rfl { a with defers := { target := .fn (.func g) y, args := x } :: a.defers } undef w β (by simp only [R]; exact ⟨#[], rfl, rfl⟩) rfl ⟨⟨g, first, caps, x, y, rfl, rfl, hx, hy⟩, hF.dfs⟩ hF.heap (Adv.refl _ _ _ _ _)
    · cases h
  · cases h
end
end Go.Cm
/- Every operation, joined. -/
set_option autoImplicit false
set_option linter.unusedVariables false
set_option linter.unusedSimpArgs false
set_option linter.unusedSectionVars false
namespace Go.Cm
open Go Go.RowKit

section
variable {C : Ctx} {s : St} {call : CallT} {dst : Option Tmp} {ty : TypeId} {pos : String} {after : Array Edge} {guard : Option (Nat × Bool)} {r : Bool × CV × St}

theorem callB_ok (hC : CtxOK C) {b : Builtin} {args : Array Operand} {ts : Array TypeId} {y : CV} {s' : St} {Φ : Mp → Sem Value → Prop} (h : Ok C.P s s' y Φ)
    (hx : ∀ (E : En) (n : Nat) (β : Mp) (a : Act) (w : World), FR C E n β s a w → ∃ m : Sem Value, builtin b ts ty (args.map fun | .const _ => true | _ => false) (args.map a.eval) = (do pure (.value (← m))) ∧ Φ β m) :
    OpP C ⟨dst, .call ⟨.builtin b, args, ts⟩, ty, pos, after, guard⟩ s (false, y, s') :=
  op_val h fun E n β a w hF => by
    obtain ⟨m, h1, h2⟩ := hx E n β a w hF
    exact ⟨m, h1, h2⟩

theorem oBuiltin_ok (hC : CtxOK C) {b : Builtin} {args : Array Operand} {ts : Array TypeId} (h : oBuiltin C s b args.toList ts.toList = some r) : OpP C ⟨dst, .call ⟨.builtin b, args, ts⟩, ty, pos, after, guard⟩ s r := by
  have arr : ∀ {α : Type} (x : Array α) (l : List α), x.toList = l → x = l.toArray := fun x l h => by rw [← h]
  unfold oBuiltin at h
  split at h
  · -- len
    split at h
    · rename_i x t hx ht
      obtain ⟨y, s', h1, rfl⟩ := val_some h
      obtain rfl := arr _ _ hx
      obtain rfl := arr _ _ ht
      exact callB_ok hC (lenC_ok hC (ty := ty) h1) fun E n β a w hF => ⟨_, rfl, _, ev_ok hF x, by simp⟩
    · cases h
  · -- append
    split at h
    · rename_i x y t u hx ht
      obtain ⟨z, s', h1, rfl⟩ := val_some h
      obtain rfl := arr _ _ hx
      obtain rfl := arr _ _ ht
      exact callB_ok hC (appendC_ok hC (ty := ty) h1) fun E n β a w hF => ⟨_, rfl, _, _, ev_ok hF x, ev_ok hF y, by simp⟩
    · cases h
  · -- cap
    split at h
    · rename_i x t hx ht
      obtain ⟨y, s', h1, rfl⟩ := val_some h
      obtain rfl := arr _ _ hx
      obtain rfl := arr _ _ ht
      exact callB_ok hC (capC_ok hC (ty := ty) h1) fun E n β a w hF => ⟨_, rfl, _, ev_ok hF x, by simp⟩
    · cases h
  · -- copy
    split at h
    · rename_i x y t u hx ht
      obtain ⟨z, s', h1, rfl⟩ := val_some h
      obtain rfl := arr _ _ hx
      obtain rfl := arr _ _ ht
      exact callB_ok hC (copyC_ok hC (u := u) (ty := ty) h1) fun E n β a w hF => ⟨_, rfl, _, _, ev_ok hF x, ev_ok hF y, by simp⟩
    · cases h
  · -- min
    split at h
    · rename_i x l hx
      unfold bMin at h
      split at h
      · rename_i k m hm
        obtain ⟨z, s', h1, rfl⟩ := val_some h
        rw [pI_eq] at h1
        cases h1
        obtain rfl := arr _ _ hx
        refine callB_ok hC (Φ := fun β m => ∃ vx vs, V β (ev C s x) vx ∧ L β (evL C s l) vs ∧ m = vs.foldlM Builtin.min2 vx) (Ok.pure fun E β w mm _ _ ⟨vx, vs, h1, h2, h3⟩ => ?_) fun E n β a w hF => ⟨_, ?_, _, _, ev_ok hF x, evL_ok hF l, rfl⟩
        · obtain ⟨v, g1, g2⟩ := minMax_ok (P := C.P) (w := w) false _ _ _ vs vx hm h1 h2
          exact ⟨v, by rw [h3]; exact g1, g2⟩
        · simp [builtin, Builtin.min_]
      · cases h
    · cases h
  · -- max
    split at h
    · rename_i x l hx
      unfold bMin at h
      split at h
      · rename_i k m hm
        obtain ⟨z, s', h1, rfl⟩ := val_some h
        rw [pI_eq] at h1
        cases h1
        obtain rfl := arr _ _ hx
        refine callB_ok hC (Φ := fun β m => ∃ vx vs, V β (ev C s x) vx ∧ L β (evL C s l) vs ∧ m = vs.foldlM Builtin.max2 vx) (Ok.pure fun E β w mm _ _ ⟨vx, vs, h1, h2, h3⟩ => ?_) fun E n β a w hF => ⟨_, ?_, _, _, ev_ok hF x, evL_ok hF l, rfl⟩
        · obtain ⟨v, g1, g2⟩ := minMax_ok (P := C.P) (w := w) true _ _ _ vs vx hm h1 h2
          exact ⟨v, by rw [h3]; exact g1, g2⟩
        · simp [builtin, Builtin.max_]
      · cases h
    · cases h
  ·
    split at h
    · rename_i x t hx ht
      obtain rfl := arr _ _ hx
      obtain rfl := arr _ _ ht
      unfold bSD at h
      split at h
      · rename_i hv
        cases h
        refine callB_ok hC (Φ := fun β m => ∃ vx, V β .ns vx ∧ m = Builtin.unsafeSliceData_ #[t] ty #[vx]) (Ok.pure fun E β w m _ _ ⟨vx, h1, h2⟩ => ⟨.pointer none, ?_, by simp [R]⟩) fun E n β a w hF => ⟨_, rfl, _, by rw [← hv]; exact ev_ok hF x, by simp⟩
        rw [h2, h1.ns]
        exact Lib.run_unsafeSliceData_nil w _ _ _ _
      · rename_i id off k len c hv
        obtain ⟨g, h'⟩ := Dp.bif_some h
        clear h
        cases h'
        have g := Dp.bltN g
        refine callB_ok hC (Φ := fun β m => ∃ vx, V β (.sl id off k len c) vx ∧ m = Builtin.unsafeSliceData_ #[t] ty #[vx]) (Ok.pure fun E β w m _ _ ⟨vx, h1, h2⟩ => ?_) fun E n β a w hF => ⟨_, rfl, _, by rw [← hv]; exact ev_ok hF x, by simp⟩
        obtain ⟨t', hb, rfl, hle⟩ := h1.sl
        refine ⟨.pointer (some ⟨t'.blk, off, none⟩), ?_, by simp only [R]; exact ⟨t', hb, rfl⟩⟩
        rw [h2]
        exact Lib.run_unsafeSliceData_row w _ _ _ _ _ (by omega)
      · cases h
    · cases h
  ·
    split at h
    · rename_i x y pt it hx ht
      obtain rfl := arr _ _ hx
      obtain rfl := arr _ _ ht
      obtain ⟨z, s', h1, rfl⟩ := val_some h
      exact callB_ok hC (bUS_ok hC (it := it) (ty := ty) h1) fun E n β a w hF => ⟨_, rfl, _, _, ev_ok hF x, ev_ok hF y, by simp⟩
    · cases h
  · cases h

theorem oCall_ok (hC : CtxOK C) (hS : SpOK C) (hK : CallOK C call) {c : Call} (h : oCall C call s c = some r) : OpP C ⟨dst, .call c, ty, pos, after, guard⟩ s r := by
  obtain ⟨callee, args, ats⟩ := c
  unfold oCall at h
  split at h
  · rename_i f hcal
    simp only at hcal h
    subst hcal
    unfold callV at h
    split at h
    · rename_i g first caps hf
      refine callG_ok hC hS hK h fun E n β a w hF => ?_
      have hv := ev_ok hF f
      rw [hf] at hv
      obtain ⟨x, y, e, hx, hy⟩ := hv.f
      refine ⟨x ++ args.map a.eval ++ y, ?_, ?_⟩
      · simp only [execOp, resolve, e, Deferred.ofValue]
        rfl
      · have := hx.app ((evL_ok hF args.toList).app hy)
        simpa [List.append_assoc] using this
    · cases h
  · cases h
  · rename_i b hcal
    simp only at hcal h
    subst hcal
    exact oBuiltin_ok hC h

theorem opC_ok (hC : CtxOK C) (hS : SpOK C) (hK : CallOK C call) {o : Oper} (h : opC C call o s = some r) : OpP C o s r := by
  obtain ⟨dst, op, ty, pos, after, guard⟩ := o
  cases op with
  | move x => exact oMove_ok hC (fun _ => rfl) h
  | assign x => exact oMove_ok hC (fun _ => rfl) h
  | pick c x y => exact oPick_ok hC h
  | alloc e =>
    have h : oAlloc C s e = some r := h
    unfold oAlloc at h
    split at h
    · rename_i z hz
      obtain ⟨zv, z1, z2, _⟩ := zero_run hC hz
      obtain ⟨y, s', h1, rfl⟩ := val_some h
      refine op_val (allocC_ok h1) fun E n β a w hF => ⟨_, rfl, zv, by rw [z2]; exact ofV_ok zv, fun w => ?_⟩
      simp only [Instr.alloc, Sem.run_bind, z1, Result.andThen_ok, Dp.run_newVar, Sem.run_pure]
    · cases h
  | box e x =>
    have h : oBox C s e x = some r := h
    unfold oBox at h
    obtain ⟨y, s', h1, rfl⟩ := val_some h
    refine op_val (allocC_ok h1) fun E n β a w hF => ⟨_, rfl, a.eval x, ev_ok hF x, fun w => ?_⟩
    simp only [Instr.box, Sem.run_bind, Result.andThen_ok, Dp.run_newVar, Sem.run_pure]
  | build t ps =>
    obtain ⟨y, s', h1, rfl⟩ := val_some (x := buildC C s t ps.toList) h
    exact op_val (buildC_ok hC h1) fun E n β a w hF => ⟨_, rfl, a.eval, fun x => ev_ok hF x, by rw [← parts_list]⟩
  | buildSlice t len ps =>
    obtain ⟨y, s', h1, rfl⟩ := val_some (x := buildSliceC C s t len ps.toList) h
    exact op_val (buildSliceC_ok hC h1) fun E n β a w hF => ⟨_, rfl, a.eval, fun x => ev_ok hF x, by rw [← parts_list]⟩
  | insert t m k x =>
    obtain ⟨s', hu, rfl⟩ := unit_some (x := mapUpdateC C s t (ev C s m) (ev C s k) (ev C s x)) h
    obtain ⟨h1, h2, h3⟩ := mapUpdateC_ok hC hu
    refine op_unit h1 h2 fun E n β a w hc hF => ?_
    obtain ⟨w', g1, g2, g3⟩ := h3 E β w _ _ _ hc hF.heap (ev_ok hF m) (ev_ok hF k) (ev_ok hF x)
    exact ⟨_, w', rfl, g1, g2, g3⟩
  | load t x =>
    obtain ⟨y, s', h1, rfl⟩ := val_some (x := loadC C s t (ev C s x)) h
    exact op_val (loadC_ok hC h1) fun E n β a w hF => ⟨_, rfl, _, ev_ok hF x, rfl⟩
  | store t x y =>
    obtain ⟨s', hu, rfl⟩ := unit_some (x := storeC C s t (ev C s x) (ev C s y)) h
    obtain ⟨h1, h2, h3⟩ := storeC_ok hC hu
    refine op_unit h1 h2 fun E n β a w hc hF => ?_
    obtain ⟨w', g1, g2, g3⟩ := h3 E β w _ _ hc hF.heap (ev_ok hF x) (ev_ok hF y)
    exact ⟨_, w', rfl, g1, g2, g3⟩
  | nilCheck x => exact oNil_ok hC h
  | binOp op t x y yt =>
    obtain ⟨z, s', h1, rfl⟩ := val_some (x := binC C s op t (isC x || isC y) (ev C s x) (ev C s y)) h
    exact op_val (binC_ok hC h1) fun E n β a w hF => ⟨_, rfl, _, _, x, y, ev_ok hF x, ev_ok hF y, rfl, rfl⟩
  | unOp op t x =>
    obtain ⟨z, s', h1, rfl⟩ := val_some (x := unC s op (ev C s x)) h
    exact op_val (unC_ok hC h1) fun E n β a w hF => ⟨_, rfl, _, ev_ok hF x, rfl⟩
  | convert src d x =>
    obtain ⟨z, s', h1, rfl⟩ := val_some (x := convC C s src d (ev C s x)) h
    exact op_val (convC_ok hC h1) fun E n β a w hF => ⟨_, rfl, _, ev_ok hF x, rfl⟩
  | makeInterface t x => exact oIfc_ok hC h
  | makeFunc f x y => exact oFunc_ok hC h
  | makeMap t x =>
    have h : oMap s x = some r := h
    unfold oMap at h
    split at h
    · cases h
      exact op_val (newMap_ok hC) fun E n β a w hF => ⟨_, rfl, t, rfl⟩
    · cases h
  | makeSlice t x y =>
    obtain ⟨z, s', h1, rfl⟩ := val_some (x := makeSliceC C s t (ev C s x) (ev C s y)) h
    exact op_val (makeSliceC_ok hC h1) fun E n β a w hF => ⟨_, rfl, _, _, ev_ok hF x, ev_ok hF y, rfl⟩
  | slice t x lo hi mx =>
    obtain ⟨z, s', h1, rfl⟩ := val_some (x := sliceC C s t (ev C s x) (evO C s lo) (evO C s hi) (evO C s mx)) h
    exact op_val (sliceC_ok hC h1) fun E n β a w hF => ⟨_, rfl, _, _, _, _, ev_ok hF x, evO_ok hF lo, evO_ok hF hi, evO_ok hF mx, rfl⟩
  | fieldAddr t x f =>
    obtain ⟨z, s', h1, rfl⟩ := val_some (x := fieldAddrC C s t (ev C s x) f) h
    exact op_val (fieldAddrC_ok hC h1) fun E n β a w hF => ⟨_, rfl, _, ev_ok hF x, rfl⟩
  | field t x f =>
    obtain ⟨z, s', h1, rfl⟩ := val_some (x := fieldC C s t (ev C s x) f) h
    exact op_val (fieldC_ok hC h1) fun E n β a w hF => ⟨_, rfl, _, ev_ok hF x, rfl⟩
  | indexAddr t x i =>
    obtain ⟨z, s', h1, rfl⟩ := val_some (x := indexAddrC C s t (ev C s x) (ev C s i)) h
    exact op_val (indexAddrC_ok hC h1) fun E n β a w hF => ⟨_, rfl, _, _, ev_ok hF x, ev_ok hF i, rfl⟩
  | index t x i =>
    obtain ⟨z, s', h1, rfl⟩ := val_some (x := indexC C s t (ev C s x) (ev C s i)) h
    exact op_val (indexC_ok hC h1) fun E n β a w hF => ⟨_, rfl, _, _, ev_ok hF x, ev_ok hF i, rfl⟩
  | lookup t x k ok =>
    obtain ⟨z, s', h1, rfl⟩ := val_some (x := lookupC C s t (ev C s x) (ev C s k) ok) h
    exact op_val (lookupC_ok hC h1) fun E n β a w hF => ⟨_, rfl, _, _, ev_ok hF x, ev_ok hF k, rfl⟩
  | mapUpdate t m k x =>
    obtain ⟨s', hu, rfl⟩ := unit_some (x := mapUpdateC C s t (ev C s m) (ev C s k) (ev C s x)) h
    obtain ⟨h1, h2, h3⟩ := mapUpdateC_ok hC hu
    refine op_unit h1 h2 fun E n β a w hc hF => ?_
    obtain ⟨w', g1, g2, g3⟩ := h3 E β w _ _ _ hc hF.heap (ev_ok hF m) (ev_ok hF k) (ev_ok hF x)
    exact ⟨_, w', rfl, g1, g2, g3⟩
  | range t x =>
    have h : oRange C s t x = some r := h
    unfold oRange at h
    split at h
    · rename_i b hu hx
      cases h
      exact op_val (newIt_ok hC hu) fun E n β a w hF => ⟨_, rfl, _, by rw [← hx]; exact ev_ok hF x, rfl⟩
    · cases h
  | next it str =>
    have h : oNext C s it str = some r := h
    unfold oNext at h
    split at h
    · obtain ⟨z, s', h1, rfl⟩ := val_some h
      exact op_val (nextC_ok hC (ty := ty) h1) fun E n β a w hF => ⟨_, rfl, _, ev_ok hF it, rfl⟩
    · cases h
  | typeAssert x xt t ok => exact oAssert_ok hC h
  | extract x i => exact oExtract_ok hC h
  | call c => exact oCall_ok hC hS hK h
  | defer c => exact oDefer_ok hC h
  | panic x => exact oPanic_ok hC h
  | _ => cases h
end
end Go.Cm
/- Regions in the order of the text. -/
set_option autoImplicit false
set_option linter.unusedVariables false
set_option linter.unusedSimpArgs false
set_option linter.unusedSectionVars false
namespace Go.Cm
open Go Go.RowKit

theorem gR_set (t : Tr CV) (i j : Nat) (x : CV) : gR (t.set i x) j = if j = i then x else gR t j := by
  rw [gR_eq, Tr.get_set, gR_eq]
  split <;> rfl

section
variable {C : Ctx} {E : En} {n : Nat} {β β' : Mp} {s s' : St} {a a1 : Act} {w w' : World}

theorem FR.step (hF : FR C E n β s a w) (hE : Ext β β') (hr : s'.rg = s.rg) (ht : a1.tmps = a.tmps) (hd : DfR β' s'.df a1.defers) (hH : HR E β' s'.hp s'.nx w') : FR C E n β' s' a1 w' :=
  ⟨by rw [ht]; exact hF.size, fun i => by rw [hr, ht]; exact (hF.regs i).mono hE, hd, hH, fun g => (hF.gl g).mono hE⟩

theorem FR.set (hF : FR C E n β s a w) {d : Nat} {x : CV} {v : Value} (hd : d < n) (hx : V β x v) : FR C E n β (s.set d x) (a.put (some d) v) w := by
  refine ⟨by simp [Act.put, hF.size], fun i => ?_, hF.dfs, hF.heap, hF.gl⟩
  show V β (gR (s.rg.set d x) i) _
  rw [gR_set]
  simp only [Act.put]
  by_cases e : i = d
  · subst e
    rw [if_pos rfl]
    simp [Array.getD_eq_getD_getElem?, Array.getElem?_setIfInBounds, hF.size, hd]
    exact hx
  · rw [if_neg e]
    have := hF.regs i
    simpa [Array.getD_eq_getD_getElem?, Array.getElem?_setIfInBounds_ne (Ne.symm e)] using this

theorem Le.set (s : St) (d : Nat) (x : CV) : Le s (s.set d x) := Le.of rfl rfl rfl rfl rfl

theorem Cov.set {E : En} {s : St} {d : Nat} {x : CV} (h : Cov E (s.set d x)) : Cov E s := ⟨h.lim, h.rl, h.wl, h.hi⟩
theorem Adv.set (h : Adv E s s' β β' w w') (d : Nat) (x : CV) : Adv E s (s'.set d x) β β' w w' := ⟨h.ext, h.fresh, h.keep, h.size, h.os, h.tape, h.output⟩

/-- The state that an operation leaves. -/
def OR.st : OR → St
  | .ok s => s
  | .pan _ s => s

/-- What an operation of a region is shown to be. -/
def StepP (C : Ctx) (n : Nat) (all : Array Oper) (o : Oper) (s : St) (r : OR) : Prop :=
  Le s r.st ∧ (∃ l, r.st.df = l ++ s.df) ∧ ∀ (E : En) (β : Mp) (a : Act) (w : World), Cov E r.st → FR C E n β s a w → ∀ (K : Act → World → Prop) (Q : Exit → Act → World → Prop),
    (∀ (s' : St), r = .ok s' → ∀ (a' : Act) (w' : World) (β' : Mp), FR C E n β' s' a' w' → Adv E s s' β β' w w' → K a' w') →
    (∀ (v : CV) (s' : St), r = .pan v s' → ∀ (u : Value) (w' : World) (β' : Mp), V β' v u → FR C E n β' s' a w' → Adv E s s' β β' w w' → Q (.panic [{ v := u, recovered := false }]) a w') →
    if Region.wanted o (yielded all a.tmps) then o.wp C.P a w K Q else K (a.put o.dst undef) w

theorem setO_some {d : Option Nat} {x : CV} {r : OR} (h : setO n d x s = some r) : (d = none ∧ r = .ok s) ∨ ∃ i, d = some i ∧ i < n ∧ r = .ok (s.set i x) := by
  unfold setO at h
  split at h
  · obtain ⟨h1, h⟩ := Dp.bif_some h
    cases h
    exact .inr ⟨_, rfl, Dp.bltN h1, rfl⟩
  · cases h; exact .inl ⟨rfl, rfl⟩

/-- An answer into its register. -/
theorem FR.put (hF : FR C E n β s a w) {d : Option Nat} {x : CV} {v : Value} {r : OR} (h : setO n d x s = some r) (hx : V β x v) : FR C E n β r.st (a.put d v) w := by
  rcases setO_some h with ⟨rfl, rfl⟩ | ⟨i, rfl, hi, rfl⟩
  · exact hF
  · exact hF.set hi hx

theorem skip_ok {all : Array Oper} {o : Oper} {r : OR} (h : setO n o.dst (.tup .nil) s = some r) (hw : ∀ (E : En) (β : Mp) (a : Act) (w : World), FR C E n β s a w → Region.wanted o (yielded all a.tmps) = false) : StepP C n all o s r := by
  have hle : Le s r.st := by
    rcases setO_some h with ⟨_, rfl⟩ | ⟨i, _, _, rfl⟩
    · exact Le.refl _
    · exact Le.set _ _ _
  refine ⟨hle, by rcases setO_some h with ⟨_, rfl⟩ | ⟨i, _, _, rfl⟩ <;> exact ⟨[], rfl⟩, fun E β a w hc hF K Q hK _ => ?_⟩
  rw [if_neg (by rw [hw E β a w hF]; simp)]
  have hp := hF.put h (v := undef) (by simp only [R]; exact ⟨#[], rfl, rfl⟩)
  rcases setO_some h with ⟨e, rfl⟩ | ⟨i, e, _, rfl⟩
  · exact hK _ rfl _ _ β hp (Adv.refl _ _ _ _ _)
  · exact hK _ rfl _ _ β hp (Adv.refl _ _ _ _ _)

theorem fin1_ok {all : Array Oper} {o : Oper} {x : Option (Bool × CV × St)} {r : OR} (h : fin1 n o.dst x = some r) (hx : ∀ q, x = some q → OpP C o s q) (hw : ∀ (E : En) (β : Mp) (a : Act) (w : World), FR C E n β s a w → Region.wanted o (yielded all a.tmps) = true) : StepP C n all o s r := by
  unfold fin1 at h
  split at h
  · rename_i v s1
    obtain ⟨h1, h2, h4, h3⟩ := hx _ rfl
    simp only at h1 h2 h3 h4
    have hle : Le s1 r.st := by
      rcases setO_some h with ⟨_, rfl⟩ | ⟨i, _, _, rfl⟩
      · exact Le.refl _
      · exact Le.set _ _ _
    refine ⟨h1.trans hle, by rcases setO_some h with ⟨_, rfl⟩ | ⟨i, _, _, rfl⟩ <;> exact h4, fun E β a w hc hF K Q hK _ => ?_⟩
    rw [if_pos (hw E β a w hF)]
    refine h3 E n β a w (hc.le hle) hF K Q (fun _ a1 u w' β' g1 g2 g3 g4 g5 => ?_) (fun e => by cases e)
    have hF1 : FR C E n β' s1 a1 w' := hF.step g5.ext h2 g2 g3 g4
    have hp := hF1.put h g1
    rcases setO_some h with ⟨e, rfl⟩ | ⟨i, e, _, rfl⟩
    · exact hK _ rfl _ _ β' hp g5
    · exact hK _ rfl _ _ β' hp (g5.set _ _)
  · rename_i v s1
    cases h
    obtain ⟨h1, h2, h4, h3⟩ := hx _ rfl
    simp only at h1 h2 h3 h4
    refine ⟨h1, h4, fun E β a w hc hF K Q _ hQ => ?_⟩
    rw [if_pos (hw E β a w hF)]
    exact h3 E n β a w hc hF K Q (fun e => by cases e) (fun _ u w' β' g1 g3 g4 g5 => hQ _ _ rfl u w' β' g1 (hF.step g5.ext h2 rfl g3 g4) g5)
  · cases h

theorem stepC_ok (hC : CtxOK C) (hS : SpOK C) {call : CallT} (hK : CallOK C call) {all : Array Oper} {o : Oper} {r : OR} (h : stepC C call n all o s = some r) : StepP C n all o s r := by
  unfold stepC at h
  split at h
  · rename_i hg
    exact fin1_ok h (fun q hq => opC_ok hC hS hK hq) fun E β a w hF => Dp.wanted_none hg
  · rename_i j want hg
    split at h
    · rename_i oj hj
      split at h
      · rename_i g hd
        have hdst : ((all[j]?).bind (·.dst)) = some g := by rw [hj]; exact hd
        split at h
        · rename_i b hb
          have hy : ∀ (E : En) (β : Mp) (a : Act) (w : World), FR C E n β s a w → yielded all a.tmps j = some b := by
            intro E β a w hF
            have h1 := hF.regs g
            rw [show gR s.rg g = _ from hb] at h1
            have h2 := Dp.getD_bool h1.bool
            unfold yielded
            rw [hdst]
            simp [h2]
          cases hbw : (b == want) with
          | true =>
            rw [hbw] at h
            have e : b = want := by simpa using hbw
            refine fin1_ok h (fun q hq => opC_ok hC hS hK hq) fun E β a w hF => ?_
            rw [Dp.wanted_some hg (hy E β a w hF), e]
            cases want <;> rfl
          | false =>
            rw [hbw] at h
            have e : b ≠ want := by simpa using hbw
            refine skip_ok h fun E β a w hF => ?_
            rw [Dp.wanted_some hg (hy E β a w hF)]
            cases want <;> cases b <;> simp_all
        · rename_i hb
          refine skip_ok h fun E β a w hF => ?_
          refine Dp.wanted_undef hg ?_
          have h1 := hF.regs g
          rw [show gR s.rg g = _ from hb] at h1
          obtain ⟨x, e, hx⟩ := h1.tup
          simp only [R] at hx
          unfold yielded
          rw [hdst]
          rw [Array.getD_eq_getD_getElem?] at e
          cases hq : a.tmps[g]? with
          | none => simp [hq]
          | some v => rw [hq] at e; simp only [Option.getD_some] at e; subst e; simp [hq]
        · cases h
      · cases h
    · cases h

/-- What a straight region leaves. -/
def RegP (C : Ctx) (E : En) (n : Nat) (s : St) (β : Mp) (w : World) (r : OR) : Exit → Act → World → Prop
  | .normal, a', w' => ∃ (s' : St) (β' : Mp), r = .ok s' ∧ FR C E n β' s' a' w' ∧ Adv E s s' β β' w w'
  | .panic chain, a', w' => ∃ (v : CV) (s' : St) (u : Value) (β' : Mp), r = .pan v s' ∧ chain = [{ v := u, recovered := false }] ∧ V β' v u ∧ FR C E n β' s' a' w' ∧ Adv E s s' β β' w w'
  | _, _, _ => False

theorem FR.dom (hF : FR C E n β s a w) : ∀ id t, β id = some t → t.blk < w.heap.size := hF.heap.dom

theorem RegP.after {s1 : St} {β1 : Mp} {w1 : World} {r : OR} (hA : Adv E s s1 β β1 w w1) (l1 : Le s s1) (l2 : Le s1 r.st) (hd : ∀ id t, β id = some t → t.blk < w.heap.size) : ∀ e a' w', RegP C E n s1 β1 w1 r e a' w' → RegP C E n s β w r e a' w' := by
  intro e a' w' h
  cases e with
  | normal =>
    obtain ⟨s', β', h1, h2, h3⟩ := h
    subst h1
    exact ⟨s', β', rfl, h2, hA.trans h3 l1 l2 hd⟩
  | panic c =>
    obtain ⟨v, s', u, β', h1, h2, h3, h4, h5⟩ := h
    subst h1
    exact ⟨v, s', u, β', rfl, h2, h3, h4, hA.trans h5 l1 l2 hd⟩
  | _ => exact h

theorem opsC_ok (hC : CtxOK C) (hS : SpOK C) {call : CallT} (hK : CallOK C call) {all : Array Oper} : ∀ (l : List Oper) (s : St) (r : OR), opsC C call n all l s = some r →
    Le s r.st ∧ ∀ (E : En) (β : Mp) (a : Act) (w : World), Cov E r.st → FR C E n β s a w → ∀ Q : Exit → Act → World → Prop, (∀ e a' w', RegP C E n s β w r e a' w' → Q e a' w') → wpList C.P all Q l a w := by
  intro l
  induction l with
  | nil =>
    intro s r h
    cases h
    exact ⟨Le.refl _, fun E β a w hc hF Q hQ => hQ .normal a w ⟨s, β, rfl, hF, Adv.refl _ _ _ _ _⟩⟩
  | cons o l ih =>
    intro s r h
    have h : oNext1 (stepC C call n all o s) (opsC C call n all l) = some r := h
    cases hs : stepC C call n all o s with
    | none => rw [hs] at h; cases h
    | some q =>
      rw [hs] at h
      obtain ⟨p1, _, p2⟩ := stepC_ok hC hS hK hs
      cases q with
      | ok s1 =>
        have h : opsC C call n all l s1 = some r := h
        obtain ⟨q1, q2⟩ := ih s1 r h
        refine ⟨p1.trans q1, fun E β a w hc hF Q hQ => wpList_step fun K hK => ?_⟩
        refine p2 E β a w (hc.le q1) hF K Q (fun s' e a' w' β' g1 g2 => ?_) (fun v s' e => by cases e)
        cases e
        exact hK _ _ (q2 E β' a' w' hc g1 Q fun e a'' w'' g => hQ _ _ _ (RegP.after g2 p1 q1 hF.dom _ _ _ g))
      | pan v s1 =>
        have h : some (OR.pan v s1) = some r := h
        cases h
        refine ⟨p1, fun E β a w hc hF Q hQ => wpList_step fun K hK => ?_⟩
        refine p2 E β a w hc hF K Q (fun s' e => by cases e) (fun v' s' e u w' β' g1 g2 g3 => ?_)
        cases e
        exact hQ _ _ _ ⟨_, _, u, β', rfl, rfl, g1, g2, g3⟩
end
end Go.Cm
/- Code. -/
set_option autoImplicit false
set_option linter.unusedVariables false
set_option linter.unusedSimpArgs false
set_option linter.unusedSectionVars false
namespace Go.Cm
open Go Go.RowKit

/-- The state that code leaves. -/
def Ex.st : Ex → St
  | .nor s => s
  | .exit _ s => s
  | .ret s => s
  | .pan _ s => s
  | .goto _ s => s

/-- What code leaves. -/
def XP (C : Ctx) (E : En) (n : Nat) (s : St) (β : Mp) (w : World) (e : Ex) : Exit → Act → World → Prop
  | .normal, a', w' => ∃ (s' : St) (β' : Mp), e = .nor s' ∧ FR C E n β' s' a' w' ∧ Adv E s s' β β' w w'
  | .exit id, a', w' => ∃ (s' : St) (β' : Mp), e = .exit id s' ∧ FR C E n β' s' a' w' ∧ Adv E s s' β β' w w'
  | .ret, a', w' => ∃ (s' : St) (β' : Mp), e = .ret s' ∧ FR C E n β' s' a' w' ∧ Adv E s s' β β' w w'
  | .panic chain, a', w' => ∃ (v : CV) (s' : St) (u : Value) (β' : Mp), e = .pan v s' ∧ chain = [{ v := u, recovered := false }] ∧ V β' v u ∧ FR C E n β' s' a' w' ∧ Adv E s s' β β' w w'
  | _, _, _ => False

/-- What is shown of the regions whose order is drawn. -/
def DrawOK (C : Ctx) : Prop := ∀ (call : CallT), CallOK C call → ∀ (n : Nat) (ops : Array Oper) (s : St) (r : OR), drawC C call n ops s = some r →
  Le s r.st ∧ ∀ (E : En) (β : Mp) (a : Act) (w : World), Cov E r.st → FR C E n β s a w → ∀ (id : Nat) (Q : Exit → Act → World → Prop), (∀ e a' w', RegP C E n s β w r e a' w' → Q e a' w') → (Code.region id ops true).wp C.P Q a w

section
variable {C : Ctx} {E : En} {n : Nat} {β β' : Mp} {s s' : St} {a a1 : Act} {w w' : World}

theorem XP.after {s1 : St} {β1 : Mp} {w1 : World} {e : Ex} (hA : Adv E s s1 β β1 w w1) (l1 : Le s s1) (l2 : Le s1 e.st) (hd : ∀ id t, β id = some t → t.blk < w.heap.size) : ∀ x a' w', XP C E n s1 β1 w1 e x a' w' → XP C E n s β w e x a' w' := by
  intro x a' w' h
  cases x with
  | normal =>
    obtain ⟨s', β', h1, h2, h3⟩ := h
    subst h1
    exact ⟨s', β', rfl, h2, hA.trans h3 l1 l2 hd⟩
  | exit id =>
    obtain ⟨s', β', h1, h2, h3⟩ := h
    subst h1
    exact ⟨s', β', rfl, h2, hA.trans h3 l1 l2 hd⟩
  | ret =>
    obtain ⟨s', β', h1, h2, h3⟩ := h
    subst h1
    exact ⟨s', β', rfl, h2, hA.trans h3 l1 l2 hd⟩
  | panic c =>
    obtain ⟨v, s', u, β', h1, h2, h3, h4, h5⟩ := h
    subst h1
    exact ⟨v, s', u, β', rfl, h2, h3, h4, hA.trans h5 l1 l2 hd⟩
  | _ => exact h

/-- Two pieces of code, one behind the other. -/
theorem xSeq_some {r : Option Ex} {k : St → Option Ex} {e : Ex} (h : xSeq r k = some e) : (∃ s1, r = some (.nor s1) ∧ k s1 = some e) ∨ (r = some e ∧ ∀ s1, e ≠ .nor s1) := by
  cases r with
  | none => cases h
  | some x =>
    cases x with
    | nor s1 => exact .inl ⟨s1, rfl, h⟩
    | exit i s1 => have h : some (Ex.exit i s1) = some e := h; cases h; exact .inr ⟨rfl, fun _ e => by cases e⟩
    | ret s1 => have h : some (Ex.ret s1) = some e := h; cases h; exact .inr ⟨rfl, fun _ e => by cases e⟩
    | pan v s1 => have h : some (Ex.pan v s1) = some e := h; cases h; exact .inr ⟨rfl, fun _ e => by cases e⟩
    | goto l s1 => have h : some (Ex.goto l s1) = some e := h; cases h; exact .inr ⟨rfl, fun _ e => by cases e⟩

/-- What a piece of code is shown to be. -/
def CodeP (C : Ctx) (n : Nat) (c : Code) (f : St → Option Ex) : Prop := ∀ (s : St) (e : Ex), f s = some e →
  Le s e.st ∧ ∀ (E : En) (β : Mp) (a : Act) (w : World), Cov E e.st → FR C E n β s a w → c.wp C.P (XP C E n s β w e) a w

theorem now_ok {x : Exit} {e : Ex} (hF : FR C E n β s a w) (hx : (x = .normal ∧ e = .nor s) ∨ (∃ i, x = .exit i ∧ e = .exit i s) ∨ (x = .ret ∧ e = .ret s)) : XP C E n s β w e x a w := by
  rcases hx with ⟨rfl, rfl⟩ | ⟨i, rfl, rfl⟩ | ⟨rfl, rfl⟩ <;> exact ⟨s, β, rfl, hF, Adv.refl _ _ _ _ _⟩

theorem loop_ok {c : Code} {f : St → Option Ex} (hc : CodeP C n c f) : ∀ (m : Nat) (s : St) (e : Ex), loopC f m s = some e →
    Le s e.st ∧ ∀ (E : En) (β : Mp) (a : Act) (w : World), Cov E e.st → FR C E n β s a w → (Code.loop c).wp C.P (XP C E n s β w e) a w := by
  have le : ∀ (m : Nat) (s : St) (e : Ex), loopC f m s = some e → Le s e.st := by
    intro m
    induction m with
    | zero => intro s e h; cases h
    | succ m ih =>
      intro s e h
      have h : xSeq (f s) (loopC f m) = some e := h
      rcases xSeq_some h with ⟨s1, h1, h2⟩ | ⟨h1, _⟩
      · exact (hc s _ h1).1.trans (ih s1 e h2)
      · exact (hc s _ h1).1
  intro m s e h
  refine ⟨le m s e h, fun E β a w hcv hF => ?_⟩
  refine wp_loop_ghost (fun k a' w' => ∃ (s1 : St) (β1 : Mp), loopC f k s1 = some e ∧ FR C E n β1 s1 a' w' ∧ Adv E s s1 β β1 w w' ∧ Le s s1) m ⟨s, β, h, hF, Adv.refl _ _ _ _ _, Le.refl _⟩ ?_
  rintro k a1 w1 ⟨s1, β1, h1, h2, h3, h4⟩
  cases k with
  | zero => cases h1
  | succ k =>
    have h1 : xSeq (f s1) (loopC f k) = some e := h1
    rcases xSeq_some h1 with ⟨s2, q1, q2⟩ | ⟨q1, q2⟩
    · obtain ⟨p1, p2⟩ := hc s1 _ q1
      have l2 := le k s2 e q2
      refine wp_mono (p2 E β1 a1 w1 (hcv.le l2) h2) fun x a' w' hh => ?_
      cases x with
      | normal =>
        obtain ⟨s', β', e1, e2, e3⟩ := hh
        cases e1
        exact ⟨k, Nat.lt_succ_self k, _, β', q2, e2, h3.trans e3 h4 p1 hF.dom, h4.trans p1⟩
      | exit i => obtain ⟨s', β', e1, _⟩ := hh; cases e1
      | ret => obtain ⟨s', β', e1, _⟩ := hh; cases e1
      | panic ch => obtain ⟨v, s', u, β', e1, _⟩ := hh; cases e1
      | _ => exact hh.elim
    · obtain ⟨p1, p2⟩ := hc s1 _ q1
      refine wp_mono (p2 E β1 a1 w1 hcv h2) fun x a' w' hh => ?_
      have hh' := XP.after h3 h4 p1 hF.dom x a' w' hh
      cases x with
      | normal => obtain ⟨s', β', e1, _⟩ := hh; exact absurd e1 (q2 _)
      | exit i => exact hh'
      | ret => exact hh'
      | panic ch => exact hh'
      | _ => exact hh.elim

theorem exec_ok (hC : CtxOK C) (hS : SpOK C) (hD : DrawOK C) {call : CallT} (hK : CallOK C call) : ∀ c : Code, CodeP C n c (exec C call n c) := by
  intro c
  induction c with
  | skip => intro s e h; cases h; exact ⟨Le.refl _, fun E β a w hc hF => wp_skip (now_ok hF (.inl ⟨rfl, rfl⟩))⟩
  | label l => intro s e h; cases h; exact ⟨Le.refl _, fun E β a w hc hF => wp_label (now_ok hF (.inl ⟨rfl, rfl⟩))⟩
  | exit id => intro s e h; cases h; exact ⟨Le.refl _, fun E β a w hc hF => wp_exit (now_ok hF (.inr (.inl ⟨id, rfl, rfl⟩)))⟩
  | ret => intro s e h; cases h; exact ⟨Le.refl _, fun E β a w hc hF => wp_ret (now_ok hF (.inr (.inr ⟨rfl, rfl⟩)))⟩
  | region id ops dr =>
    intro s e h
    have h : toEx (regC C call n ops dr s) = some e := h
    have fin : ∀ (r : OR), toEx (some r) = some e → r.st = e.st ∧ ∀ (E : En) (β : Mp) (w : World) x a' w', RegP C E n s β w r x a' w' → XP C E n s β w e x a' w' := by
      intro r hr
      cases r with
      | ok s1 =>
        cases hr
        refine ⟨rfl, fun E β w x a' w' hh => ?_⟩
        cases x with
        | normal => obtain ⟨s', β', e1, e2, e3⟩ := hh; cases e1; exact ⟨_, β', rfl, e2, e3⟩
        | panic ch => obtain ⟨v, s', u, β', e1, _⟩ := hh; cases e1
        | _ => exact hh.elim
      | pan v s1 =>
        cases hr
        refine ⟨rfl, fun E β w x a' w' hh => ?_⟩
        cases x with
        | normal => obtain ⟨s', β', e1, e2, e3⟩ := hh; cases e1
        | panic ch => obtain ⟨v', s', u, β', e1, e2⟩ := hh; cases e1; exact ⟨_, _, u, β', rfl, e2⟩
        | _ => exact hh.elim
    cases hr : regC C call n ops dr s with
    | none => rw [hr] at h; cases h
    | some r =>
      rw [hr] at h
      obtain ⟨f1, f2⟩ := fin r h
      cases dr with
      | false =>
        obtain ⟨p1, p2⟩ := opsC_ok hC hS hK ops.toList s r hr
        exact ⟨by rw [← f1]; exact p1, fun E β a w hc hF => wp_region_list (p2 E β a w (by rw [f1]; exact hc) hF _ (f2 E β w))⟩
      | true =>
        obtain ⟨p1, p2⟩ := hD call hK n ops s r hr
        exact ⟨by rw [← f1]; exact p1, fun E β a w hc hF => p2 E β a w (by rw [f1]; exact hc) hF id _ (f2 E β w)⟩
  | seq x y ihx ihy =>
    intro s e h
    have h : xSeq (exec C call n x s) (exec C call n y) = some e := h
    rcases xSeq_some h with ⟨s1, q1, q2⟩ | ⟨q1, q2⟩
    · obtain ⟨p1, p2⟩ := ihx s _ q1
      obtain ⟨r1, r2⟩ := ihy s1 e q2
      refine ⟨p1.trans r1, fun E β a w hc hF => wp_seq (wp_mono (p2 E β a w (hc.le r1) hF) fun z a' w' hh => ?_)⟩
      cases z with
      | normal =>
        obtain ⟨s', β', e1, e2, e3⟩ := hh
        cases e1
        exact wp_mono (r2 E β' a' w' hc e2) (XP.after e3 p1 r1 hF.dom)
      | exit i => obtain ⟨s', β', e1, _⟩ := hh; cases e1
      | ret => obtain ⟨s', β', e1, _⟩ := hh; cases e1
      | panic ch => obtain ⟨v, s', u, β', e1, _⟩ := hh; cases e1
      | _ => exact hh.elim
    · obtain ⟨p1, p2⟩ := ihx s _ q1
      refine ⟨p1, fun E β a w hc hF => wp_seq (wp_mono (p2 E β a w hc hF) fun z a' w' hh => ?_)⟩
      cases z with
      | normal => obtain ⟨s', β', e1, _⟩ := hh; exact absurd e1 (q2 _)
      | exit i => exact hh
      | ret => exact hh
      | panic ch => exact hh
      | _ => exact hh.elim
  | cond c x y ihx ihy =>
    intro s e h
    have h : xCond (ev C s c) (exec C call n x) (exec C call n y) s = some e := h
    unfold xCond at h
    split at h
    · rename_i hv
      obtain ⟨p1, p2⟩ := ihx s e h
      refine ⟨p1, fun E β a w hc hF => wp_cond_true ?_ (p2 E β a w hc hF)⟩
      have := ev_ok hF c
      rw [hv] at this
      exact this.bool
    · rename_i hv
      obtain ⟨p1, p2⟩ := ihy s e h
      refine ⟨p1, fun E β a w hc hF => wp_cond_false ?_ (p2 E β a w hc hF)⟩
      have := ev_ok hF c
      rw [hv] at this
      exact this.bool
    · cases h
  | block id b ih =>
    intro s e h
    have h : xBlock id (exec C call n b s) = some e := h
    cases hb : exec C call n b s with
    | none => rw [hb] at h; cases h
    | some x =>
      rw [hb] at h
      obtain ⟨p1, p2⟩ := ih s x hb
      have fin : x.st = e.st ∧ ∀ (E : En) (β : Mp) (w : World) z a' w', XP C E n s β w x z a' w' → Exit.inBlock id (XP C E n s β w e) z a' w' := by
        cases x with
        | nor s1 =>
          have h : some (Ex.nor s1) = some e := h
          cases h
          refine ⟨rfl, fun E β w z a' w' hh => ?_⟩
          cases z with
          | normal => exact hh
          | exit i => obtain ⟨s', β', e1, _⟩ := hh; cases e1
          | ret => obtain ⟨s', β', e1, _⟩ := hh; cases e1
          | panic ch => obtain ⟨v, s', u, β', e1, _⟩ := hh; cases e1
          | _ => exact hh.elim
        | exit j s1 =>
          have h : Bool.rec (some (Ex.exit j s1)) (some (Ex.nor s1)) (Nat.beq j id) = some e := h
          cases hj : Nat.beq j id with
          | true =>
            rw [hj] at h
            have h : some (Ex.nor s1) = some e := h
            cases h
            obtain rfl := Dp.beqN hj
            refine ⟨rfl, fun E β w z a' w' hh => ?_⟩
            cases z with
            | normal => obtain ⟨s', β', e1, _⟩ := hh; cases e1
            | exit i =>
              obtain ⟨s', β', e1, e2, e3⟩ := hh
              cases e1
              simp only [Exit.inBlock, if_true]
              exact ⟨_, β', rfl, e2, e3⟩
            | ret => obtain ⟨s', β', e1, _⟩ := hh; cases e1
            | panic ch => obtain ⟨v, s', u, β', e1, _⟩ := hh; cases e1
            | _ => exact hh.elim
          | false =>
            rw [hj] at h
            have h : some (Ex.exit j s1) = some e := h
            cases h
            have hne : j ≠ id := fun e => by subst e; rw [Nat.beq_refl] at hj; cases hj
            refine ⟨rfl, fun E β w z a' w' hh => ?_⟩
            cases z with
            | normal => obtain ⟨s', β', e1, _⟩ := hh; cases e1
            | exit i =>
              have hh2 := hh
              obtain ⟨s', β', e1, e2, e3⟩ := hh
              cases e1
              simp only [Exit.inBlock, hne, if_false]
              exact hh2
            | ret => obtain ⟨s', β', e1, _⟩ := hh; cases e1
            | panic ch => obtain ⟨v, s', u, β', e1, _⟩ := hh; cases e1
            | _ => exact hh.elim
        | ret s1 =>
          have h : some (Ex.ret s1) = some e := h
          cases h
          refine ⟨rfl, fun E β w z a' w' hh => ?_⟩
          cases z with
          | normal => obtain ⟨s', β', e1, _⟩ := hh; cases e1
          | exit i => obtain ⟨s', β', e1, _⟩ := hh; cases e1
          | ret => exact hh
          | panic ch => obtain ⟨v, s', u, β', e1, _⟩ := hh; cases e1
          | _ => exact hh.elim
        | pan v s1 =>
          have h : some (Ex.pan v s1) = some e := h
          cases h
          refine ⟨rfl, fun E β w z a' w' hh => ?_⟩
          cases z with
          | normal => obtain ⟨s', β', e1, _⟩ := hh; cases e1
          | exit i => obtain ⟨s', β', e1, _⟩ := hh; cases e1
          | ret => obtain ⟨s', β', e1, _⟩ := hh; cases e1
          | panic ch => exact hh
          | _ => exact hh.elim
        | goto l s1 =>
          have h : some (Ex.goto l s1) = some e := h
          cases h
          refine ⟨rfl, fun E β w z a' w' hh => ?_⟩
          cases z with
          | normal => obtain ⟨s', β', e1, _⟩ := hh; cases e1
          | exit i => obtain ⟨s', β', e1, _⟩ := hh; cases e1
          | ret => obtain ⟨s', β', e1, _⟩ := hh; cases e1
          | panic ch => obtain ⟨v, s', u, β', e1, _⟩ := hh; cases e1
          | _ => exact hh.elim
      exact ⟨by rw [← fin.1]; exact p1, fun E β a w hc hF => wp_block (wp_mono (p2 E β a w (by rw [fin.1]; exact hc) hF) (fin.2 E β w))⟩
  | loop b ih => intro s e h; exact loop_ok ih C.K s e h
  | scope b ih =>
    intro s e h
    have h : exec C call n b s = some e := h
    obtain ⟨p1, p2⟩ := ih s e h
    refine ⟨p1, fun E β a w hc hF => wp_scope_straight (wp_mono (p2 E β a w hc hF) fun z a' w' hh => ?_)⟩
    cases z <;> first | exact hh | exact hh.elim
  | _ => intro s e h; cases h
end
end Go.Cm
/- Regions whose order is drawn: the run in the order of the text. -/
set_option autoImplicit false
set_option linter.unusedVariables false
set_option linter.unusedSimpArgs false
set_option linter.unusedSectionVars false
namespace Go.Cm
open Go Go.RowKit

/-! What is there when some operations have come up. -/
open Classical in
noncomputable def mix {X : Type} (f : Nat → Nat → X) (Wr : Nat → Nat → Prop) (L : Nat → Bool) : Nat → Nat → X
  | 0, i => f 0 i
  | j + 1, i => if L j = true ∧ Wr j i then f (j + 1) i else mix f Wr L j i

section
variable {X : Type} {f : Nat → Nat → X} {Wr : Nat → Nat → Prop} {L : Nat → Bool}

theorem mix_low {i j : Nat} : ∀ m, m ≤ j → (∀ k, k < m → ¬ Wr k i → f (k + 1) i = f k i) → (∀ k, k < j → Wr k i → L k = true) → mix f Wr L m i = f m i := by
  intro m
  induction m with
  | zero => intro _ _ _; rfl
  | succ m ih =>
    intro hm hs hw
    unfold mix
    by_cases h : Wr m i
    · rw [if_pos ⟨hw m hm h, h⟩]
    · rw [if_neg fun e => h e.2, ih (Nat.le_of_lt hm) (fun k hk => hs k (Nat.lt_succ_of_lt hk)) hw, hs m (Nat.lt_succ_self m) h]

theorem mix_stay {i j : Nat} : ∀ m, j ≤ m → (∀ k, j ≤ k → k < m → L k = true → ¬ Wr k i) → mix f Wr L m i = mix f Wr L j i := by
  intro m
  induction m with
  | zero => intro h _; obtain rfl : j = 0 := by omega
            rfl
  | succ m ih =>
    intro hm hs
    by_cases e : j = m + 1
    · rw [e]
    · conv => lhs; unfold mix
      rw [if_neg fun e2 => hs m (by omega) (Nat.lt_succ_self m) e2.1 e2.2]
      exact ih (by omega) fun k h1 h2 => hs k h1 (by omega)

theorem mix_at {i j N : Nat} (hj : j ≤ N) (hs : ∀ k, k < N → ¬ Wr k i → f (k + 1) i = f k i) (h1 : ∀ k, k < j → Wr k i → L k = true) (h2 : ∀ k, j ≤ k → k < N → L k = true → ¬ Wr k i) : mix f Wr L N i = f j i := by
  rw [mix_stay N hj h2]
  exact mix_low j (Nat.le_refl _) (fun k hk => hs k (by omega)) h1

open Classical in
theorem mix_set {i j N : Nat} {L' : Nat → Bool} (hj : j < N) (hL : L j = false) (hL' : ∀ k, L' k = if j = k then true else L k) (h2 : ∀ k, j < k → k < N → L k = true → Wr j i → ¬ Wr k i) : mix f Wr L' N i = if Wr j i then f (j + 1) i else mix f Wr L N i := by
  have low : ∀ m, m ≤ j → mix f Wr L' m i = mix f Wr L m i := by
    intro m
    induction m with
    | zero => intro _; rfl
    | succ m ih =>
      intro hm
      unfold mix
      rw [hL' m, if_neg (show ¬ j = m by omega), ih (by omega)]
  by_cases hw : Wr j i
  · rw [if_pos hw, mix_stay (j := j + 1) N hj fun k h3 h4 h5 => h2 k h3 h4 (by rw [hL' k, if_neg (by omega)] at h5; exact h5) hw]
    unfold mix
    rw [hL' j, if_pos rfl, if_pos ⟨rfl, hw⟩]
  · rw [if_neg hw]
    have key : ∀ m, j + 1 ≤ m → mix f Wr L' m i = mix f Wr L m i := by
      intro m
      induction m with
      | zero => intro h; omega
      | succ m ih =>
        intro hm
        by_cases e : m = j
        · subst e
          unfold mix
          rw [if_neg fun e => hw e.2, if_neg fun e => hw e.2]
          exact low m (Nat.le_refl _)
        · unfold mix
          rw [hL' m, if_neg (show ¬ j = m by omega), ih (by omega)]
    exact key N hj
end

theorem apL_spec : ∀ {a b : List Nat}, apL a b = true → ∀ i, i ∈ a → i ∉ b := by
  intro a
  induction a with
  | nil => intro b _ i h; cases h
  | cons x l ih =>
    intro b h i hi hb
    simp only [apL] at h
    obtain ⟨h1, h2⟩ := Dp.and2 h
    rcases List.mem_cons.1 hi with e | hi
    · subst e
      rw [Dp.memN_of hb] at h1; cases h1
    · exact ih h2 i hi hb
theorem offL_spec {lo hi : Nat} : ∀ {a : List Nat}, offL lo hi a = true → ∀ i, i ∈ a → ¬ (lo ≤ i ∧ i < hi) := by
  intro a
  induction a with
  | nil => intro _ i h; cases h
  | cons x l ih =>
    intro h i hm hb
    simp only [offL] at h
    obtain ⟨h1, h2⟩ := Dp.and2 h
    rcases List.mem_cons.1 hm with e | hm
    · subst e
      have g1 : Nat.ble lo i = true := Nat.ble_eq_true_of_le hb.1
      have g2 : Nat.blt i hi = true := by simpa using hb.2
      rw [g1, g2] at h1; cases h1
    · exact ih h2 i hm hb

/-- What two that may come up in either order keep apart. -/
structure Apart (k j : It) : Prop where
  r1 : ∀ d, k.ds = some d → d ∉ j.lk
  r2 : ∀ d, k.ds = some d → j.ds ≠ some d
  r3 : ∀ d, j.ds = some d → d ∉ k.lk
  m1 : ∀ i, i ∈ k.wl → i ∉ j.rl
  m2 : ∀ i, i ∈ k.wl → i ∉ j.wl
  m3 : ∀ i, i ∈ j.wl → i ∉ k.rl
  n1 : ∀ i, i ∈ j.rl → ¬ (k.lo ≤ i ∧ i < k.hi)
  n2 : ∀ i, i ∈ j.wl → ¬ (k.lo ≤ i ∧ i < k.hi)
  n3 : ∀ i, i ∈ k.rl → ¬ (j.lo ≤ i ∧ i < j.hi)
  n4 : ∀ i, i ∈ k.wl → ¬ (j.lo ≤ i ∧ i < j.hi)
theorem apart_spec {k j : It} (h : apart k j = true) : Apart k j := by
  unfold apart at h
  obtain ⟨h, h10⟩ := Dp.and2 h
  obtain ⟨h, h9⟩ := Dp.and2 h
  obtain ⟨h, h8⟩ := Dp.and2 h
  obtain ⟨h, h7⟩ := Dp.and2 h
  obtain ⟨h, h6⟩ := Dp.and2 h
  obtain ⟨h, h5⟩ := Dp.and2 h
  obtain ⟨h, h4⟩ := Dp.and2 h
  obtain ⟨h, h3⟩ := Dp.and2 h
  obtain ⟨h1, h2⟩ := Dp.and2 h
  have nd : ∀ {d : Option Nat} {l : List Nat}, notD d l = true → ∀ e, d = some e → e ∉ l := by
    intro d l h e he hm
    subst he
    simp only [notD, Dp.memN_of hm] at h
    cases h
  refine ⟨nd h1, fun d e1 e2 => ?_, nd h3, apL_spec h4, apL_spec h5, apL_spec h6, offL_spec h7, offL_spec h8, offL_spec h9, offL_spec h10⟩
  rw [e1, e2] at h2
  simp [neD] at h2

theorem pairsC_spec {S : List Nat} {j : It} : ∀ {l : List It}, pairsC S j l = true → ∀ k x, l.reverse[k]? = some x → k ∈ S ∨ Apart x j := by
  intro l
  induction l with
  | nil => intro _ k x h; simp at h
  | cons y l ih =>
    intro h k x hx
    simp only [pairsC] at h
    obtain ⟨h1, h2⟩ := Dp.and2 h
    rw [List.reverse_cons] at hx
    by_cases e : k < l.length
    · rw [List.getElem?_append_left (by simpa using e)] at hx
      exact ih h2 k x hx
    · rw [List.getElem?_append_right (by simpa using e)] at hx
      have hk : k = l.length := by
        have := (List.getElem?_eq_some_iff.1 hx).1
        simp at this
        omega
      subst hk
      simp at hx
      subst hx
      rcases Bool.or_eq_true_iff.1 h1 with h1 | h1
      · exact .inl (memN_in h1)
      · exact .inr (apart_spec h1)

/-- One operation of the run. -/
structure StepAt (C : Ctx) (call : CallT) (n : Nat) (all : Array Oper) (st tt : Nat → St) (it : Nat → It) (j : Nat) (o : Oper) : Prop where
  op : all[j]? = some o
  step : stepC C call n all o (maskS all o (st j)) = some (.ok (tt j))
  df : (tt j).df.length = (st j).df.length
  next : st (j + 1) = unmask o (st j) (tt j)
  iq : it j = itOf all o (st j) (tt j)
  pair : ∀ k, k < j → k ∈ Dp.ancL all.toList j (Dp.edgesAt all.toList j) ∨ Apart (it k) (it j)

theorem drawS_run {C : Ctx} {call : CallT} {n : Nat} {all : Array Oper} : ∀ (l : List Oper) (its : List It) (s : St) (r : OR) (it0 : Nat → It) (st0 tt0 : Nat → St), drawS C call n all l its s = some r → all.toList.drop its.length = l → (∀ k, k < its.length → its.reverse[k]? = some (it0 k)) →
    ∃ (st tt : Nat → St) (it : Nat → It), (∀ k, k < its.length → st k = st0 k ∧ tt k = tt0 k ∧ it k = it0 k) ∧ st its.length = s ∧ r = .ok (st (its.length + l.length)) ∧ ∀ j, its.length ≤ j → j < its.length + l.length → ∃ o, StepAt C call n all st tt it j o := by
  intro l
  induction l with
  | nil =>
    intro its s r it0 st0 tt0 h _ _
    have h : some (OR.ok s) = some r := h
    cases h
    exact ⟨fun j => if j = its.length then s else st0 j, tt0, it0, fun k hk => ⟨if_neg (by omega), rfl, rfl⟩, if_pos rfl, by simp, fun j h1 h2 => by simp at h2; omega⟩
  | cons o l ih =>
    intro its s r it0 st0 tt0 h hd hit
    have h : drawN all o s its (drawS C call n all l) (stepC C call n all o (maskS all o s)) = some r := h
    cases hs : stepC C call n all o (maskS all o s) with
    | none => rw [hs] at h; cases h
    | some q =>
      rw [hs] at h
      cases q with
      | pan v s1 => cases h
      | ok s1 =>
        have h : (bif pairsC (Dp.ancL all.toList its.length (Dp.edgesAt all.toList its.length)) (itOf all o s s1) its && Nat.beq s1.df.length s.df.length then drawS C call n all l (itOf all o s s1 :: its) (unmask o s s1) else fl 240) = some r := h
        obtain ⟨h1, h⟩ := Dp.bif_some h
        obtain ⟨h1, h2⟩ := Dp.and2 h1
        have hlt : its.length < all.toList.length := by
          refine Classical.byContradiction fun hn => ?_
          rw [List.drop_of_length_le (by omega)] at hd
          cases hd
        have ho : all[its.length]? = some o := by
          have := congrArg (fun l => l[0]?) hd
          simpa using this
        obtain ⟨st, tt, it, g1, g2, g3, g4⟩ := ih (itOf all o s s1 :: its) (unmask o s s1) r (fun k => if k = its.length then itOf all o s s1 else it0 k) (fun k => if k = its.length then s else st0 k) (fun k => if k = its.length then s1 else tt0 k) h
          (by
            rw [List.length_cons, ← List.drop_drop, hd]; rfl)
          (fun k hk => by
            rw [List.reverse_cons]
            by_cases e : k < its.length
            · rw [List.getElem?_append_left (by simpa using e), if_neg (by omega)]
              exact hit k e
            · have e : k = its.length := by simp at hk; omega
              subst e
              simp)
        simp only [List.length_cons] at g1 g2 g3 g4
        obtain ⟨q1, q2, q3⟩ := g1 its.length (by omega)
        rw [if_pos rfl] at q1 q2 q3
        have old : ∀ k, k < its.length → st k = st0 k ∧ tt k = tt0 k ∧ it k = it0 k := fun k hk => by
          obtain ⟨a1, a2, a3⟩ := g1 k (by omega)
          rw [if_neg (by omega)] at a1 a2 a3
          exact ⟨a1, a2, a3⟩
        refine ⟨st, tt, it, old, q1, by rw [g3]; congr 2; simp only [List.length_cons]; omega, fun j h3 h4 => ?_⟩
        by_cases e : j = its.length
        · subst e
          refine ⟨o, ho, by rw [q1, q2]; exact hs, by rw [q1, q2]; exact Dp.beqN h2, by rw [q1, q2]; exact g2, by rw [q1, q2, q3], fun k hk => ?_⟩
          rw [q3, (old k hk).2.2]
          exact pairsC_spec h1 k _ (hit k hk)
        · simp only [List.length_cons] at h4
          exact g4 j (by omega) (by omega)
end Go.Cm
/- Regions whose order is drawn: one step. -/
set_option autoImplicit false
set_option linter.unusedVariables false
set_option linter.unusedSimpArgs false
set_option linter.unusedSectionVars false
namespace Go.Cm
open Go Go.RowKit

theorem sub_mem {lim i : Nat} : ∀ {l acc : List Nat}, i ∈ sub lim l acc ↔ i ∈ acc ∨ (i ∈ l ∧ i < lim) := by
  intro l
  induction l with
  | nil => intro acc; simp [sub]
  | cons a l ih =>
    intro acc
    simp only [sub]
    rw [ih]
    cases hb : Nat.blt a lim with
    | true =>
      have h1 : a < lim := Dp.bltN hb
      simp only [cond_true, add_mem, List.mem_cons]
      constructor
      · rintro ((rfl | h) | h)
        · exact .inr ⟨.inl rfl, h1⟩
        · exact .inl h
        · exact .inr ⟨.inr h.1, h.2⟩
      · rintro (h | ⟨rfl | h, h2⟩)
        · exact .inl (.inr h)
        · exact .inl (.inl rfl)
        · exact .inr ⟨h, h2⟩
    | false =>
      have h1 : ¬ a < lim := fun e => by
        have : Nat.blt a lim = true := by simpa using e
        rw [this] at hb; cases hb
      simp only [cond_false, List.mem_cons]
      constructor
      · rintro (h | h)
        · exact .inl h
        · exact .inr ⟨.inr h.1, h.2⟩
      · rintro (h | ⟨rfl | h, h2⟩)
        · exact .inl h
        · exact absurd h2 h1
        · exact .inr ⟨h, h2⟩

theorem gR_mask {rg : Tr CV} {i : Nat} : ∀ l : List Nat, (i ∈ l ∧ gR (maskR rg l) i = gR rg i) ∨ gR (maskR rg l) i = .u := by
  intro l
  induction l with
  | nil => exact .inr rfl
  | cons t l ih =>
    simp only [maskR]
    rw [gR_set]
    by_cases e : i = t
    · subst e; exact .inl ⟨List.mem_cons_self, if_pos rfl⟩
    · rw [if_neg e]
      exact ih.imp (fun h => ⟨List.mem_cons_of_mem _ h.1, h.2⟩) fun h => h

theorem maskS_nx (all : Array Oper) (o : Oper) (s : St) : (maskS all o s).nx = s.nx ∧ (maskS all o s).lim = s.nx ∧ (maskS all o s).hp = s.hp ∧ (maskS all o s).df = s.df ∧ (maskS all o s).rl = [] ∧ (maskS all o s).wl = [] ∧ (maskS all o s).rg = maskR s.rg (looks all o) := by
  obtain ⟨rg, hp, nx, lim, rl, wl, df⟩ := s
  exact ⟨rfl, rfl, rfl, rfl, rfl, rfl, rfl⟩
theorem unmask_eq (o : Oper) (s s' : St) : (unmask o s s').rg = setD s.rg o.dst s'.rg ∧ (unmask o s s').hp = s'.hp ∧ (unmask o s s').nx = s'.nx ∧ (unmask o s s').lim = s.lim ∧ (unmask o s s').rl = sub s.lim s'.rl s.rl ∧ (unmask o s s').wl = sub s.lim s'.wl s.wl ∧ (unmask o s s').df = s.df := by
  obtain ⟨rg, hp, nx, lim, rl, wl, df⟩ := s
  obtain ⟨rg', hp', nx', lim', rl', wl', df'⟩ := s'
  exact ⟨rfl, rfl, rfl, rfl, rfl, rfl, rfl⟩
theorem itOf_eq (all : Array Oper) (o : Oper) (s s' : St) : (itOf all o s s').rl = s'.rl ∧ (itOf all o s s').wl = s'.wl ∧ (itOf all o s s').lo = s.nx ∧ (itOf all o s s').hi = s'.nx ∧ (itOf all o s s').lk = looks all o ∧ (itOf all o s s').ds = o.dst := by
  obtain ⟨rg, hp, nx, lim, rl, wl, df⟩ := s
  obtain ⟨rg', hp', nx', lim', rl', wl', df'⟩ := s'
  exact ⟨rfl, rfl, rfl, rfl, rfl, rfl⟩

noncomputable def hpF (st : Nat → St) (j i : Nat) : CO := gO (st j).hp i
noncomputable def rgF (st : Nat → St) (j r : Nat) : CV := gR (st j).rg r
def WrM (it : Nat → It) (k i : Nat) : Prop := i ∈ (it k).wl ∨ ((it k).lo ≤ i ∧ i < (it k).hi)
def WrR (it : Nat → It) (k r : Nat) : Prop := (it k).ds = some r

/-- What is known of one step of the run. -/
structure Fc (st : Nat → St) (it : Nat → It) (j : Nat) : Prop where
  lo : (it j).lo = (st j).nx
  hi : (it j).hi = (st (j + 1)).nx
  nx : (st j).nx ≤ (st (j + 1)).nx
  lim : (st (j + 1)).lim = (st j).lim
  df : (st (j + 1)).df = (st j).df
  same : ∀ i, i < (st j).nx → i ∉ (it j).wl → gO (st (j + 1)).hp i = gO (st j).hp i
  dead : ∀ i, (i < (st j).nx ∨ (st (j + 1)).nx ≤ i) → gO (st j).hp i = .none → gO (st (j + 1)).hp i = .none
  wlv : ∀ i ∈ (it j).wl, i < (st j).nx ∧ gO (st j).hp i ≠ .none
  reg : ∀ r, (it j).ds ≠ some r → gR (st (j + 1)).rg r = gR (st j).rg r
  rl : ∀ i, i ∈ (st (j + 1)).rl ↔ i ∈ (st j).rl ∨ (i ∈ (it j).rl ∧ i < (st j).lim)
  wl : ∀ i, i ∈ (st (j + 1)).wl ↔ i ∈ (st j).wl ∨ (i ∈ (it j).wl ∧ i < (st j).lim)

section
variable {C : Ctx} {call : CallT} {n : Nat} {all : Array Oper} {st tt : Nat → St} {it : Nat → It} {N : Nat}

theorem StepAt.fc (hC : CtxOK C) (hS : SpOK C) (hK : CallOK C call) {j : Nat} {o : Oper} (h : StepAt C call n all st tt it j o) : Fc st it j := by
  obtain ⟨p1, _, _⟩ := stepC_ok hC hS hK h.step
  obtain ⟨m1, m2, m3, m4, m5, m6, m7⟩ := maskS_nx all o (st j)
  obtain ⟨u1, u2, u3, u4, u5, u6, u7⟩ := unmask_eq o (st j) (tt j)
  obtain ⟨i1, i2, i3, i4, i5, i6⟩ := itOf_eq all o (st j) (tt j)
  rw [← h.iq] at i1 i2 i3 i4 i5 i6
  rw [← h.next] at u1 u2 u3 u4 u5 u6 u7
  have p1 : Le (maskS all o (st j)) (tt j) := p1
  refine ⟨i3, by rw [i4, u3], ?_, u4, u7, fun i h1 h2 => ?_, fun i h1 h2 => ?_, fun i h1 => ?_, fun r hr => ?_, fun i => by rw [u5, sub_mem, i1], fun i => by rw [u6, sub_mem, i2]⟩
  · rw [u3, ← m1]; exact p1.nx
  · rw [u2, p1.hp i (by rw [m2]; exact h1) (by rw [m1]; exact h1) (by rw [← i2]; exact h2), m3]
  · rw [u2]
    exact p1.dead i (by rw [m1, ← u3]; exact h1) (by rw [m3]; exact h2)
  · rcases p1.wlv i (by rw [← i2]; exact h1) with e | ⟨e1, e2⟩
    · rw [m6] at e; cases e
    · rw [m2] at e1
      rw [m1, m3] at e2
      exact ⟨e1, e2.resolve_left (by omega)⟩
  · rw [u1]
    rw [i6] at hr
    unfold setD
    split
    · rename_i d hd
      rw [gR_set, if_neg fun e => hr (by rw [hd, e])]
    · rfl

/-- The run from its beginning. -/
theorem run_le (hF : ∀ j, j < N → Fc st it j) (hlim : (st 0).lim ≤ (st 0).nx) : ∀ j, j ≤ N → Le (st 0) (st j) ∧ (st j).lim = (st 0).lim ∧ (st j).df = (st 0).df := by
  intro j
  induction j with
  | zero => intro _; exact ⟨Le.refl _, rfl, rfl⟩
  | succ j ih =>
    intro hj
    obtain ⟨h1, h2, h3⟩ := ih (by omega)
    have f := hF j (by omega)
    have hl : (st j).lim ≤ (st j).nx := by rw [h2]; exact Nat.le_trans hlim h1.nx
    refine ⟨h1.trans ⟨f.lim, f.nx, fun i e => (f.rl i).2 (.inl e), fun i e => (f.wl i).2 (.inl e), fun i e1 e2 e3 => f.same i e2 fun e => e3 ((f.wl i).2 (.inr ⟨e, e1⟩)), f.dead, fun i e => ?_⟩, f.lim.trans h2, f.df.trans h3⟩
    rcases (f.wl i).1 e with e | ⟨e1, e2⟩
    · exact .inl e
    · exact .inr ⟨e2, .inr (f.wlv i e1).2⟩

theorem run_logs (hF : ∀ j, j < N → Fc st it j) (hlim : (st 0).lim ≤ (st 0).nx) {j i : Nat} (hj : j < N) (hi : i < (st 0).lim) : (i ∈ (it j).rl → i ∈ (st N).rl) ∧ (i ∈ (it j).wl → i ∈ (st N).wl) := by
  have up : ∀ m, j + 1 ≤ m → m ≤ N → (∀ i, i ∈ (st (j + 1)).rl → i ∈ (st m).rl) ∧ ∀ i, i ∈ (st (j + 1)).wl → i ∈ (st m).wl := by
    intro m
    induction m with
    | zero => intro h; omega
    | succ m ih =>
      intro h1 h2
      by_cases e : j = m
      · subst e; exact ⟨fun _ h => h, fun _ h => h⟩
      · obtain ⟨a1, a2⟩ := ih (by omega) (by omega)
        have f := hF m (by omega)
        exact ⟨fun i h => (f.rl i).2 (.inl (a1 i h)), fun i h => (f.wl i).2 (.inl (a2 i h))⟩
  obtain ⟨a1, a2⟩ := up N (by omega) (Nat.le_refl _)
  have f := hF j hj
  have hl := (run_le hF hlim j (by omega)).2.1
  exact ⟨fun h => a1 i ((f.rl i).2 (.inr ⟨h, by rw [hl]; exact hi⟩)), fun h => a2 i ((f.wl i).2 (.inr ⟨h, by rw [hl]; exact hi⟩))⟩

theorem run_nx (hF : ∀ j, j < N → Fc st it j) : ∀ k j, k ≤ j → j ≤ N → (st k).nx ≤ (st j).nx := by
  intro k j
  induction j with
  | zero => intro h _; obtain rfl : k = 0 := by omega
            exact Nat.le_refl _
  | succ j ih =>
    intro h1 h2
    by_cases e : k = j + 1
    · subst e; exact Nat.le_refl _
    · exact Nat.le_trans (ih (by omega) (by omega)) (hF j (by omega)).nx

/-- What holds when some have come up. -/
structure Inv (C : Ctx) (E : En) (n : Nat) (st : Nat → St) (it : Nat → It) (N : Nat) (β0 : Mp) (w0 : World) (L : Nat → Bool) (a : Act) (w : World) (β : Mp) : Prop where
  size : a.tmps.size = n
  regs : ∀ r, V β (mix (rgF st) (WrR it) L N r) (a.tmps.getD r undef)
  dfs : DfR β (st 0).df a.defers
  gl : ∀ g, V β (gl1 C.gl g) (.pointer (some ⟨g, 0, none⟩))
  dom : ∀ id t, β id = some t → t.blk < w.heap.size
  free : ∀ id, ((st N).nx ≤ id ∧ id < E.hi) ∨ (∃ k, k < N ∧ L k = false ∧ (it k).lo ≤ id ∧ id < (it k).hi) → β id = none
  obj : ∀ id, E.S id → ObjR E.B β w id (mix (hpF st) (WrM it) L N id)
  inj : ∀ id id' t t', E.S id → E.S id' → mix (hpF st) (WrM it) L N id ≠ .none → mix (hpF st) (WrM it) L N id' ≠ .none → β id = some t → β id' = some t' → t.blk = t'.blk → id = id'
  base : E.B ≤ w.heap.size
  adv : Adv E (st 0) (st N) β0 β w0 w
end
end Go.Cm
/- Regions whose order is drawn: one step keeps what holds. -/
set_option autoImplicit false
set_option linter.unusedVariables false
set_option linter.unusedSimpArgs false
set_option linter.unusedSectionVars false
namespace Go.Cm
open Go Go.RowKit

structure RunK (C : Ctx) (call : CallT) (n : Nat) (all : Array Oper) (st tt : Nat → St) (it : Nat → It) (N : Nat) (E : En) : Prop where
  steps : ∀ j, j < N → ∃ o, StepAt C call n all st tt it j o
  fc : ∀ j, j < N → Fc st it j
  lim : (st 0).lim ≤ (st 0).nx
  top : ∀ i, (st 0).nx ≤ i → gO (st 0).hp i = .none
  cov : Cov E (st N)

section
variable {C : Ctx} {call : CallT} {n : Nat} {all : Array Oper} {st tt : Nat → St} {it : Nat → It} {N : Nat} {E : En} {β0 β : Mp} {w0 w : World} {a : Act} {L L' : Nat → Bool}

theorem RunK.topj (hR : RunK C call n all st tt it N E) {j : Nat} (hj : j ≤ N) : ∀ i, (st j).nx ≤ i → gO (st j).hp i = .none := fun i hi => by
  have h := (run_le hR.fc hR.lim j hj).1
  exact h.dead i (.inr hi) (hR.top i (Nat.le_trans h.nx hi))

theorem RunK.stab (hR : RunK C call n all st tt it N E) {i : Nat} : ∀ k, k < N → ¬ WrM it k i → hpF st (k + 1) i = hpF st k i := fun k hk hw => by
  have f := hR.fc k hk
  have h1 : i ∉ (it k).wl := fun e => hw (.inl e)
  have h2 : ¬ ((it k).lo ≤ i ∧ i < (it k).hi) := fun e => hw (.inr e)
  rw [f.lo, f.hi] at h2
  unfold hpF
  by_cases e : i < (st k).nx
  · exact f.same i e h1
  · have h3 := hR.topj (Nat.le_of_lt hk) i (Nat.not_lt.1 e)
    rw [h3, f.dead i (.inr (by omega)) h3]

theorem RunK.stabR (hR : RunK C call n all st tt it N E) {r : Nat} : ∀ k, k < N → ¬ WrR it k r → rgF st (k + 1) r = rgF st k r := fun k hk hw => (hR.fc k hk).reg r hw

/-- What an operation looks at is what it is in the order of the text. -/
theorem RunK.look (hR : RunK C call n all st tt it N E) {j : Nat} (hj : j < N) (hL : L j = false) (hlow : ∀ k, k < j → L k = true ∨ Apart (it k) (it j)) (hupp : ∀ k, j < k → k < N → L k = true → Apart (it j) (it k)) :
    (∀ i, i ∈ (it j).rl ∨ i ∈ (it j).wl → mix (hpF st) (WrM it) L N i = gO (st j).hp i) ∧ ∀ r, r ∈ (it j).lk → mix (rgF st) (WrR it) L N r = gR (st j).rg r := by
  constructor
  · intro i hi
    refine mix_at (Nat.le_of_lt hj) hR.stab (fun k hk hw => (hlow k hk).resolve_right fun ap => ?_) fun k h1 h2 h3 hw => ?_
    · rcases hw with hw | hw
      · exact hi.elim (ap.m1 i hw) (ap.m2 i hw)
      · exact hi.elim (fun h => ap.n1 i h hw) fun h => ap.n2 i h hw
    · by_cases e : k = j
      · subst e; rw [hL] at h3; cases h3
      · have ap := hupp k (by omega) h2 h3
        rcases hw with hw | hw
        · exact hi.elim (ap.m3 i hw) fun h => ap.m2 i h hw
        · exact hi.elim (fun h => ap.n3 i h hw) fun h => ap.n4 i h hw
  · intro r hr
    refine mix_at (Nat.le_of_lt hj) hR.stabR (fun k hk hw => (hlow k hk).resolve_right fun ap => ap.r1 r hw hr) fun k h1 h2 h3 hw => ?_
    by_cases e : k = j
    · subst e; rw [hL] at h3; cases h3
    · exact (hupp k (by omega) h2 h3).r3 r hw hr

def enJ (st : Nat → St) (it : Nat → It) (E : En) (j : Nat) : En := ⟨fun id => (st j).nx ≤ id ∨ id ∈ (it j).rl ∨ id ∈ (it j).wl, (st (j + 1)).nx, E.B⟩

theorem RunK.inS (hR : RunK C call n all st tt it N E) {j : Nat} (hj : j < N) : ∀ id, (enJ st it E j).S id → E.S id := by
  intro id h
  have hl := (run_le hR.fc hR.lim N (Nat.le_refl _)).2.1
  by_cases e : id < (st 0).lim
  · obtain ⟨g1, g2⟩ := run_logs hR.fc hR.lim hj e
    rcases h with h | h | h
    · have := (run_le hR.fc hR.lim j (Nat.le_of_lt hj)).1.nx
      have := hR.lim
      omega
    · exact hR.cov.rl id (g1 h)
    · exact hR.cov.wl id (g2 h)
  · exact hR.cov.lim id (by rw [hl]; omega)

theorem Inv.fr (hI : Inv C E n st it N β0 w0 L a w β) (hR : RunK C call n all st tt it N E) {j : Nat} (hj : j < N) {o : Oper} (hst : StepAt C call n all st tt it j o) (hL : L j = false)
    (hlow : ∀ k, k < j → L k = true ∨ Apart (it k) (it j)) (hupp : ∀ k, j < k → k < N → L k = true → Apart (it j) (it k)) : FR C (enJ st it E j) n β (maskS all o (st j)) a w := by
  obtain ⟨hm, hreg⟩ := hR.look hj hL hlow hupp
  obtain ⟨m1, m2, m3, m4, m5, m6, m7⟩ := maskS_nx all o (st j)
  obtain ⟨i1, i2, i3, i4, i5, i6⟩ := itOf_eq all o (st j) (tt j)
  rw [← hst.iq] at i1 i2 i3 i4 i5 i6
  have f := hR.fc j hj
  have htop := hR.topj (Nat.le_of_lt hj)
  have low : ∀ id, gO (st j).hp id ≠ .none → id < (st j).nx := fun id h => Nat.not_le.1 fun e => h (htop id e)
  have logs : ∀ id, (enJ st it E j).S id → id < (st j).nx → id ∈ (it j).rl ∨ id ∈ (it j).wl := fun id h e => h.resolve_left (by omega)
  refine ⟨hI.size, fun i => ?_, by rw [m4, (run_le hR.fc hR.lim j (Nat.le_of_lt hj)).2.2]; exact hI.dfs, ?_, hI.gl⟩
  · rw [m7]
    rcases gR_mask (rg := (st j).rg) (i := i) (looks all o) with ⟨h1, h2⟩ | h2
    · rw [h2, ← hreg i (by rw [i5]; exact h1)]; exact hI.regs i
    · rw [h2]; exact ⟨_, rfl⟩
  · rw [m1, m3]
    refine ⟨hI.dom, fun id h1 h2 => hI.free id (.inr ⟨j, hj, hL, by rw [f.lo]; exact h1, by rw [f.hi]; exact h2⟩), fun id hS => ?_, fun id id' t t' h1 h2 h3 h4 h5 h6 h7 => ?_, hI.base, htop⟩
    · by_cases e : id < (st j).nx
      · rw [← hm id (logs id hS e)]; exact hI.obj id (hR.inS hj id hS)
      · rw [htop id (Nat.not_lt.1 e)]; trivial
    · have g3 := hm id (logs id h1 (low id h3))
      have g4 := hm id' (logs id' h2 (low id' h4))
      exact hI.inj id id' t t' (hR.inS hj id h1) (hR.inS hj id' h2) (by rw [g3]; exact h3) (by rw [g4]; exact h4) h5 h6 h7

theorem Inv.next (hI : Inv C E n st it N β0 w0 L a w β) (hR : RunK C call n all st tt it N E) {j : Nat} (hj : j < N) {o : Oper} (hst : StepAt C call n all st tt it j o) (hL : L j = false) (hL' : ∀ k, L' k = if j = k then true else L k)
    (hlow : ∀ k, k < j → L k = true ∨ Apart (it k) (it j)) (hupp : ∀ k, j < k → k < N → L k = true → Apart (it j) (it k)) (hdf : (tt j).df = (st 0).df) (hle : Le (maskS all o (st j)) (tt j))
    {a' : Act} {w' : World} {β' : Mp} {v : Value} (hv : a'.tmps = (a.put o.dst v).tmps) (hF : FR C (enJ st it E j) n β' (tt j) a' w') (hA : Adv (enJ st it E j) (maskS all o (st j)) (tt j) β β' w w') : Inv C E n st it N β0 w0 L' a' w' β' := by
  obtain ⟨hm, hreg⟩ := hR.look hj hL hlow hupp
  obtain ⟨m1, m2, m3, m4, m5, m6, m7⟩ := maskS_nx all o (st j)
  obtain ⟨i1, i2, i3, i4, i5, i6⟩ := itOf_eq all o (st j) (tt j)
  obtain ⟨u1, u2, u3, u4, u5, u6, u7⟩ := unmask_eq o (st j) (tt j)
  rw [← hst.iq] at i1 i2 i3 i4 i5 i6
  rw [← hst.next] at u1 u2 u3 u4 u5 u6 u7
  have f := hR.fc j hj
  have mem : ∀ i, mix (hpF st) (WrM it) L' N i = @ite _ (WrM it j i) (Classical.propDecidable _) (hpF st (j + 1) i) (mix (hpF st) (WrM it) L N i) := fun i => mix_set hj hL hL' fun k h1 h2 h3 hw hw' => by
    have ap := hupp k h1 h2 h3
    rcases hw with hw | hw
    · rcases hw' with hw' | hw'
      · exact ap.m2 i hw hw'
      · exact ap.n4 i hw hw'
    · rcases hw' with hw' | hw'
      · exact ap.n2 i hw' hw
      · have := run_nx hR.fc (j + 1) k (by omega) (by omega)
        rw [(hR.fc k h2).lo] at hw'
        rw [f.hi] at hw
        omega
  have regs : ∀ r, mix (rgF st) (WrR it) L' N r = @ite _ (WrR it j r) (Classical.propDecidable _) (rgF st (j + 1) r) (mix (rgF st) (WrR it) L N r) := fun r => mix_set hj hL hL' fun k h1 h2 h3 hw hw' => (hupp k h1 h2 h3).r2 r hw hw'
  have inS : ∀ i, WrM it j i → (enJ st it E j).S i := fun i h => h.elim (fun h => .inr (.inr h)) fun h => .inl (by rw [← f.lo]; exact h.1)
  have hnone : ∀ i, (it j).lo ≤ i → i < (it j).hi → β i = none := fun i h1 h2 => hI.free i (.inr ⟨j, hj, hL, h1, h2⟩)
  have touch : ∀ i t, Tch (tt j) i → β i = some t → i ∈ (it j).wl := fun i t h hb => by
    rcases h with h | h
    · rw [hle.lim, m2] at h
      rw [hnone i (by rw [f.lo]; exact h.1) (by rw [i4]; exact h.2)] at hb; cases hb
    · rw [i2]; exact h
  have live : ∀ i, i ∈ (it j).wl → mix (hpF st) (WrM it) L N i ≠ .none := fun i h => by
    rw [hm i (.inr h)]; exact (f.wlv i h).2
  have wlS : ∀ i, i ∈ (it j).wl → E.S i := fun i h => hR.inS hj i (.inr (.inr h))
  have tchN : ∀ i t, i ∈ (it j).wl → β0 i = some t → Tch (st N) i := fun i t h _ => by
    by_cases e : i < (st 0).lim
    · exact .inr ((run_logs hR.fc hR.lim hj e).2 h)
    · exact .inl ⟨by rw [(run_le hR.fc hR.lim N (Nat.le_refl _)).2.1]; omega, Nat.lt_of_lt_of_le (f.wlv i h).1 (run_nx hR.fc j N (Nat.le_of_lt hj) (Nat.le_refl _))⟩
  have hH := hF.heap
  have hj1 : (tt j).hp = (st (j + 1)).hp := u2.symm
  have hn1 : (tt j).nx = (st (j + 1)).nx := u3.symm
  -- an object that is written or made against one that is not
  have cross : ∀ id id' t t', E.S id → E.S id' → WrM it j id → ¬ WrM it j id' → mix (hpF st) (WrM it) L N id' ≠ .none → β' id = some t → β' id' = some t' → t.blk = t'.blk → False := by
    intro id id' t t' s1 s2 w1 w2 l2 b1 b2 e
    obtain ⟨u, x, g1, _⟩ := (hI.obj id' s2).blk l2
    have := hA.ext id' u g1
    rw [b2] at this
    cases this
    cases hb : β id with
    | some t1 =>
      have := hA.ext id t1 hb
      rw [b1] at this
      cases this
      have hw : id ∈ (it j).wl := w1.resolve_right fun h => by rw [hnone id h.1 h.2] at hb; cases hb
      have := hI.inj id id' t t' s1 s2 (live id hw) l2 hb g1 e
      subst this
      exact w2 w1
    | none =>
      obtain ⟨_, _, h⟩ := hA.fresh id t b1 hb
      rcases h with h | ⟨id0, t0, h1, h2, h3, h4⟩
      · have := hI.dom id' t' g1
        omega
      · have hw := touch id0 t0 h1 h2
        have := hI.inj id0 id' t0 t' (wlS id0 hw) s2 (live id0 hw) l2 h2 g1 (h4.trans e)
        subst this
        exact w2 (.inl hw)
  refine ⟨hF.size, fun r => ?_, by rw [← hdf]; exact hF.dfs, fun g => (hI.gl g).mono hA.ext, hH.dom, fun id h => ?_, fun id hS => ?_, fun id id' t t' s1 s2 l1 l2 b1 b2 e => ?_, hH.base, ?_⟩
  · rw [regs]
    split
    · rename_i hw
      have hd : o.dst = some r := by rw [← i6]; exact hw
      unfold rgF
      rw [u1, hd]
      simp only [setD]
      rw [gR_set, if_pos rfl]
      exact hF.regs r
    · rename_i hw
      have hd : o.dst ≠ some r := by rw [← i6]; exact hw
      rw [hv, Dp.getD_put hd]
      exact (hI.regs r).mono hA.ext
  · have hb : β id = none := hI.free id (by
      rcases h with h | ⟨k, h1, h2, h3⟩
      · exact .inl h
      · rw [hL'] at h2
        by_cases e : j = k
        · rw [if_pos e] at h2; cases h2
        · rw [if_neg e] at h2; exact .inr ⟨k, h1, h2, h3⟩)
    cases hb' : β' id with
    | none => rfl
    | some t =>
      obtain ⟨g1, g2, _⟩ := hA.fresh id t hb' hb
      rw [m1] at g1
      rw [hn1] at g2
      exfalso
      rcases h with ⟨h, _⟩ | ⟨k, h1, h2, h3, h4⟩
      · have := run_nx hR.fc (j + 1) N (by omega) (Nat.le_refl _)
        omega
      · have fk := hR.fc k h1
        rw [fk.lo] at h3
        rw [fk.hi] at h4
        rw [hL'] at h2
        by_cases e : j = k
        · rw [if_pos e] at h2; cases h2
        · rcases Nat.lt_or_gt_of_ne e with e | e
          · have := run_nx hR.fc (j + 1) k (by omega) (by omega)
            omega
          · have := run_nx hR.fc (k + 1) j (by omega) (by omega)
            omega
  · rw [mem]
    split
    · rename_i hw
      unfold hpF
      rw [← hj1]
      exact hH.obj id (inS id hw)
    · rename_i hw
      refine ((hI.obj id hS).same fun t hb hl => hA.keep t.blk (hI.dom id t hb) fun id2 t2 h1 h2 h3 h4 => hw ?_).mono hA.ext
      have hw2 := touch id2 t2 h1 h2
      have := hI.inj id2 id t2 t (wlS id2 hw2) hS (live id2 hw2) hl h2 hb h4
      subst this
      exact .inl hw2
  · rw [mem] at l1 l2
    by_cases w1 : WrM it j id
    · rw [if_pos w1] at l1
      by_cases w2 : WrM it j id'
      · rw [if_pos w2] at l2
        unfold hpF at l1 l2
        rw [← hj1] at l1 l2
        exact hH.inj id id' t t' (inS id w1) (inS id' w2) l1 l2 b1 b2 e
      · rw [if_neg w2] at l2
        exact (cross id id' t t' s1 s2 w1 w2 l2 b1 b2 e).elim
    · rw [if_neg w1] at l1
      by_cases w2 : WrM it j id'
      · exact (cross id' id t' t s2 s1 w2 w1 l1 b2 b1 e.symm).elim
      · rw [if_neg w2] at l2
        obtain ⟨p, _, g1, _⟩ := (hI.obj id s1).blk l1
        obtain ⟨q, _, g2, _⟩ := (hI.obj id' s2).blk l2
        have q1 := hA.ext id p g1
        have q2 := hA.ext id' q g2
        rw [b1] at q1
        rw [b2] at q2
        cases q1
        cases q2
        exact hI.inj id id' t t' s1 s2 l1 l2 g1 g2 e
  · have hadv := hI.adv
    refine ⟨hadv.ext.trans hA.ext, fun id t b b0 => ?_, fun b hb hk => ?_, Nat.le_trans hadv.size hA.size, hA.os.trans hadv.os, hA.tape.trans hadv.tape, hA.output.trans hadv.output⟩
    · cases h1 : β id with
      | some t1 =>
        have := hA.ext id t1 h1
        rw [b] at this
        cases this
        exact hadv.fresh id t h1 b0
      | none =>
        obtain ⟨g1, g2, g3⟩ := hA.fresh id t b h1
        rw [m1] at g1
        rw [hn1] at g2
        have a1 := run_nx hR.fc 0 j (by omega) (by omega)
        have a2 := run_nx hR.fc (j + 1) N (by omega) (Nat.le_refl _)
        refine ⟨by omega, by omega, ?_⟩
        rcases g3 with g3 | ⟨id0, t0, h2, h3, h4, h5⟩
        · exact .inl (Nat.le_trans hadv.size g3)
        · have hw := touch id0 t0 h2 h3
          cases hb0 : β0 id0 with
          | some t1 =>
            have := hadv.ext id0 t1 hb0
            rw [h3] at this
            cases this
            exact .inr ⟨id0, t0, tchN id0 t0 hw hb0, hb0, h4, h5⟩
          | none =>
            obtain ⟨_, _, q⟩ := hadv.fresh id0 t0 h3 hb0
            rcases q with q | ⟨i, t1, d1, d2, d3, d4⟩
            · exact .inl (by rw [← h5]; exact q)
            · exact .inr ⟨i, t1, d1, d2, d3, d4.trans h5⟩
    · rw [hA.keep b (Nat.lt_of_lt_of_le hb hadv.size) ?_, hadv.keep b hb hk]
      intro id t h1 h2 h3
      have hw := touch id t h1 h2
      cases hb0 : β0 id with
      | some t1 =>
        have := hadv.ext id t1 hb0
        rw [h2] at this
        cases this
        exact hk id t (tchN id t hw hb0) hb0 h3
      | none =>
        obtain ⟨_, _, q⟩ := hadv.fresh id t h2 hb0
        rcases q with q | ⟨i, t1, d1, d2, d3, d4⟩
        · omega
        · rw [← d4]; exact hk i t1 d1 d2 d3

theorem Inv.step (hC : CtxOK C) (hS : SpOK C) (hK : CallOK C call) (hI : Inv C E n st it N β0 w0 L a w β) (hR : RunK C call n all st tt it N E) {j : Nat} (hj : j < N) {o : Oper} (hst : StepAt C call n all st tt it j o) (hL : L j = false) (hL' : ∀ k, L' k = if j = k then true else L k)
    (hlow : ∀ k, k < j → L k = true ∨ Apart (it k) (it j)) (hupp : ∀ k, j < k → k < N → L k = true → Apart (it j) (it k)) {K : Act → World → Prop} {Q : Exit → Act → World → Prop}
    (hk : ∀ a' w' β', Inv C E n st it N β0 w0 L' a' w' β' → K a' w') : if Region.wanted o (yielded all a.tmps) then o.wp C.P a w K Q else K (a.put o.dst undef) w := by
  obtain ⟨p1, ⟨l, p2⟩, p3⟩ := stepC_ok hC hS hK hst.step
  have p1 : Le (maskS all o (st j)) (tt j) := p1
  have p2 : (tt j).df = l ++ (maskS all o (st j)).df := p2
  obtain ⟨m1, m2, m3, m4, m5, m6, m7⟩ := maskS_nx all o (st j)
  obtain ⟨i1, i2, i3, i4, i5, i6⟩ := itOf_eq all o (st j) (tt j)
  obtain ⟨u1, u2, u3, u4, u5, u6, u7⟩ := unmask_eq o (st j) (tt j)
  rw [← hst.iq] at i1 i2 i3 i4 i5 i6
  rw [← hst.next] at u1 u2 u3 u4 u5 u6 u7
  have hdf : (tt j).df = (st 0).df := by
    have h1 := hst.df
    rw [p2, List.length_append, m4] at h1
    have h2 : l = [] := List.eq_nil_of_length_eq_zero (by omega)
    rw [p2, h2, List.nil_append, m4]
    exact (run_le hR.fc hR.lim j (Nat.le_of_lt hj)).2.2
  have hcov : Cov (enJ st it E j) (tt j) := ⟨fun id h => .inl (by rw [p1.lim, m2] at h; exact h), fun id h => .inr (.inl (by rw [i1]; exact h)), fun id h => .inr (.inr (by rw [i2]; exact h)), Nat.le_of_eq u3.symm⟩
  have hF := hI.fr hR hj hst hL hlow hupp
  have main := p3 (enJ st it E j) β a w hcov hF (fun a' w' => ∃ β', FR C (enJ st it E j) n β' (tt j) a' w' ∧ Adv (enJ st it E j) (maskS all o (st j)) (tt j) β β' w w') Q
    (fun s' e a' w' β' g1 g2 => by cases e; exact ⟨β', g1, g2⟩) (fun v s' e => by cases e)
  have fin : ∀ a' w', (∃ β', FR C (enJ st it E j) n β' (tt j) a' w' ∧ Adv (enJ st it E j) (maskS all o (st j)) (tt j) β β' w w') → (∃ v, a'.tmps = (a.put o.dst v).tmps) → K a' w' := by
    rintro a' w' ⟨β', g1, g2⟩ ⟨v, hv⟩
    exact hk a' w' β' (hI.next hR hj hst hL hL' hlow hupp hdf p1 hv g1 g2)
  split
  · rename_i hw
    rw [if_pos hw] at main
    exact Oper.wp_mono (fun a' w' hh => fin a' w' hh.1 hh.2) (Dp.wp_put main)
  · rename_i hw
    rw [if_neg hw] at main
    exact fin _ _ main ⟨undef, rfl⟩
end
end Go.Cm
/- Regions whose order is drawn. -/
set_option autoImplicit false
set_option linter.unusedVariables false
set_option linter.unusedSimpArgs false
set_option linter.unusedSectionVars false
namespace Go.Cm
open Go Go.RowKit

section
variable {C : Ctx} {call : CallT} {n : Nat} {all : Array Oper} {st tt : Nat → St} {it : Nat → It} {E : En} {β0 : Mp} {w0 : World}

theorem below_spec {all0 : List Oper} : ∀ (l : List Oper) (m : Nat), Dp.belowAll all0 m l = true → ∀ i o, l[i]? = some o → ∀ e ∈ o.after, Region.binds .any e = true → e.on < m + i := by
  intro l
  induction l with
  | nil => intro m _ i o hi; simp at hi
  | cons o l ih =>
    intro m hb i o' hi e he hbi
    simp only [Dp.belowAll] at hb
    obtain ⟨g1, g2⟩ := Dp.and2 hb
    cases i with
    | zero =>
      obtain rfl : o = o' := by simpa using hi
      unfold Dp.edgesBelow at g1
      have h3 := List.all_eq_true.1 g1 e (Array.mem_toList_iff.2 he)
      rw [hbi] at h3
      exact Dp.bltN (show Nat.blt e.on m = true by simpa using h3)
    | succ i =>
      have := ih (m + 1) g2 i o' (by simpa using hi) e he hbi
      omega

theorem draw_run (hC : CtxOK C) (hS : SpOK C) (hK : CallOK C call) (hR : RunK C call n all st tt it all.size E) {Q : Exit → Act → World → Prop}
    (hbel : ∀ (i : Nat) (o : Oper), all.toList[i]? = some o → ∀ e ∈ o.after, Region.binds .any e = true → e.on < i)
    (hq : ∀ a w β, Inv C E n st it all.size β0 w0 (fun _ => true) a w β → Q .normal a w) :
    ∀ (fuel : Nat) (listed : Array Bool) (a : Act) (w : World) (β : Mp), listed.size = all.size → Dp.unl listed all.size = fuel →
      (∀ (j : Nat) (o : Oper), all.toList[j]? = some o → listed.getD j false = true → ∀ e ∈ o.after, Region.binds .any e = true → listed.getD e.on false = true) →
      Inv C E n st it all.size β0 w0 (fun j => listed.getD j false) a w β → wpAny C.P .any all Q fuel listed a w := by
  have full : ∀ (listed : Array Bool) (a : Act) (w : World) (β : Mp), Dp.unl listed all.size = 0 → Inv C E n st it all.size β0 w0 (fun j => listed.getD j false) a w β → Inv C E n st it all.size β0 w0 (fun _ => true) a w β := by
    intro listed a w β h0 hI
    have hall := Dp.unl_zero _ h0
    have e : ∀ {X : Type} (f : Nat → Nat → X) (Wr : Nat → Nat → Prop) (i : Nat) (m : Nat), m ≤ all.size → mix f Wr (fun _ => true) m i = mix f Wr (fun j => listed.getD j false) m i := by
      intro X f Wr i m
      induction m with
      | zero => intro _; rfl
      | succ m ih =>
        intro hm
        unfold mix
        rw [hall m (by omega), ih (by omega)]
    exact ⟨hI.size, fun r => by rw [e _ _ _ _ (Nat.le_refl _)]; exact hI.regs r, hI.dfs, hI.gl, hI.dom, fun id h => hI.free id (h.imp (fun h => h) fun ⟨k, h1, h2, h3⟩ => by cases h2), fun id h => by rw [e _ _ _ _ (Nat.le_refl _)]; exact hI.obj id h,
      fun id id' t t' h1 h2 h3 h4 => by rw [e _ _ _ _ (Nat.le_refl _)] at h3 h4; exact hI.inj id id' t t' h1 h2 h3 h4, hI.base, hI.adv⟩
  intro fuel
  induction fuel with
  | zero =>
    intro listed a w β hsz hun hcl hI
    refine ⟨?_, hq a w β (full listed a w β hun hI)⟩
    have := Dp.ready_none (all := all.toList) (listed := listed) (by simpa using hsz) (by simpa using hun)
    simpa using this
  | succ fuel ih =>
    intro listed a w β hsz hun hcl hI
    refine ⟨fun hr => ?_, fun i hi => ?_⟩
    · obtain ⟨j, h1, h2, h3⟩ := Dp.unl_first (listed := listed) all.size (by omega)
      have hj : j ∈ Region.ready .any all listed := by
        rw [mem_ready]
        have hj : all.toList[j]? = some all[j] := by simp [h1]
        refine ⟨?_, all[j], by simp [h1], fun e he hb => h3 _ (hbel j _ hj e he hb)⟩
        rw [Array.getD_eq_getD_getElem?, Array.getElem?_eq_getElem (by omega)] at h2 ⊢
        simpa using h2
      rw [hr] at hj
      cases hj
    · obtain ⟨h1, o, ho, hready⟩ := mem_ready.1 hi
      have hlt := (Array.getElem?_eq_some_iff.1 ho).1
      have hia : all.toList[i]? = some o := by simpa using ho
      have hif : listed.getD i false = false := by
        rw [Array.getD_eq_getD_getElem?, Array.getElem?_eq_getElem (by omega)] at h1 ⊢
        simpa using h1
      have hcl2 : ∀ j, listed.getD j false = true → ∀ m ∈ Dp.edgesAt all.toList j, listed.getD m false = true := by
        intro j hj m hm
        unfold Dp.edgesAt at hm
        split at hm
        · rename_i oj hoj
          obtain ⟨e, he, hb, rfl⟩ := Dp.bindsL_spec.1 hm
          exact hcl j oj hoj hj e he hb
        · cases hm
      obtain ⟨o2, hst⟩ := hR.steps i hlt
      have : o2 = o := by have := hst.op; rw [ho] at this; exact (Option.some.inj this).symm
      subst this
      have anc : ∀ k, k ∈ Dp.ancL all.toList i (Dp.edgesAt all.toList i) → listed.getD k false = true := by
        refine Dp.anc_listed (L := fun j => listed.getD j false = true) hcl2 _ _ fun m hm => ?_
        unfold Dp.edgesAt at hm
        rw [hia] at hm
        obtain ⟨e, he, hb, rfl⟩ := Dp.bindsL_spec.1 hm
        exact hready e he hb
      have hL' : ∀ k, (listed.setIfInBounds i true).getD k false = if i = k then true else listed.getD k false := fun k => Dp.getD_set (by omega)
      have := hI.step hC hS hK hR hlt hst hif hL' (fun k hk => (hst.pair k hk).imp (fun h => anc k h) fun h => h)
        (fun k h1 h2 h3 => by
          obtain ⟨ok, hk⟩ := hR.steps k h2
          refine (hk.pair i h1).resolve_left fun hm => ?_
          have := Dp.anc_listed (L := fun j => listed.getD j false = true) hcl2 k (Dp.edgesAt all.toList k) (fun m hm => hcl2 k h3 m hm) i hm
          have this : listed.getD i false = true := this
          rw [hif] at this; cases this)
        (K := wpAny C.P .any all Q fuel (listed.setIfInBounds i true)) (Q := Q) (fun a' w' β' hI' => by
          refine ih (listed.setIfInBounds i true) a' w' β' (by simpa using hsz) ?_ ?_ hI'
          · have := Dp.unl_set (i := i) (by omega) hif all.size
            rw [if_pos hlt] at this
            omega
          · intro j oj hj hl e he hb
            rw [hL'] at hl
            rw [hL']
            split
            · rfl
            · by_cases hji : i = j
              · subst hji
                rw [hia] at hj; cases hj
                exact hready e he hb
              · rw [if_neg hji] at hl
                exact hcl j oj hj hl e he hb)
      unfold wpOp
      rw [ho]
      simp only
      split
      · rename_i hw; rw [if_pos hw] at this; exact .inl this
      · rename_i hw; rw [if_neg hw] at this; exact this
end

theorem drawC_ok {C : Ctx} (hC : CtxOK C) (hS : SpOK C) (hm : C.P.follows .mixedOrders = true) : DrawOK C := by
  intro call hK n ops s r h
  unfold drawC at h
  obtain ⟨h0, h⟩ := Dp.bif_some h
  obtain ⟨hb0, h2⟩ := Dp.and2 h0
  have hlim := Nat.le_of_ble_eq_true h2
  obtain ⟨st, tt, it, _, g2, g3, g4⟩ := drawS_run ops.toList [] s r (fun _ => ⟨[], [], 0, 0, [], none⟩) (fun _ => s) (fun _ => s) h rfl (fun k hk => by simp at hk)
  simp only [List.length_nil, Nat.zero_add] at g2 g3 g4
  have hsz : ops.toList.length = ops.size := by simp
  rw [hsz] at g3 g4
  have steps : ∀ j, j < ops.size → ∃ o, StepAt C call n ops st tt it j o := fun j hj => g4 j (Nat.zero_le _) hj
  have fc : ∀ j, j < ops.size → Fc st it j := fun j hj => by
    obtain ⟨o, ho⟩ := steps j hj
    exact ho.fc hC hS hK
  subst g2
  subst g3
  have hle := run_le fc hlim ops.size (Nat.le_refl _)
  refine ⟨hle.1, fun E β a w hc hF id Q hQ => ?_⟩
  have hc : Cov E (st ops.size) := hc
  have hR : RunK C call n ops st tt it ops.size E := ⟨steps, fc, hlim, hF.heap.top, hc⟩
  have hbel : ∀ (i : Nat) (o : Oper), ops.toList[i]? = some o → ∀ e ∈ o.after, Region.binds .any e = true → e.on < i := fun i o hi e he hb => by
    have := below_spec ops.toList 0 hb0 i o hi e he hb
    omega
  refine wp_region_any hm (draw_run (β0 := β) (w0 := { w with drawn := w.drawn + 1 }) hC hS hK hR hbel (fun a' w' β' hI => ?_) ops.size _ a _ β (by simp) (Dp.unl_false _) (fun j o hj hl => ?_) ?_)
  · refine hQ .normal a' w' ⟨st ops.size, β', rfl, ?_, ?_⟩
    · have hall : ∀ {X : Type} (f : Nat → Nat → X) (Wr : Nat → Nat → Prop) (i : Nat), (∀ k, k < ops.size → ¬ Wr k i → f (k + 1) i = f k i) → mix f Wr (fun _ => true) ops.size i = f ops.size i := fun f Wr i hs =>
        mix_at (Nat.le_refl _) hs (fun _ _ _ => rfl) fun k h3 h4 => by omega
      have hm : ∀ i, mix (hpF st) (WrM it) (fun _ => true) ops.size i = gO (st ops.size).hp i := fun i => hall _ _ i hR.stab
      have hr : ∀ i, mix (rgF st) (WrR it) (fun _ => true) ops.size i = gR (st ops.size).rg i := fun i => hall _ _ i hR.stabR
      refine ⟨hI.size, fun r => by rw [← hr r]; exact hI.regs r, by rw [hle.2.2]; exact hI.dfs, ⟨hI.dom, fun i h1 h2 => hI.free i (.inl ⟨h1, h2⟩), fun i hi => by rw [← hm i]; exact hI.obj i hi, fun i i' t t' h1 h2 h3 h4 => ?_, hI.base, hR.topj (Nat.le_refl _)⟩, hI.gl⟩
      rw [← hm i] at h3
      rw [← hm i'] at h4
      exact hI.inj i i' t t' h1 h2 h3 h4
    · have := hI.adv
      exact ⟨this.ext, this.fresh, this.keep, this.size, this.os, this.tape, this.output⟩
  · exfalso
    have hlt := (List.getElem?_eq_some_iff.1 hj).1
    have hlt : j < ops.size := by simpa using hlt
    rw [Array.getD_eq_getD_getElem?, Array.getElem?_eq_getElem (by simpa using hlt)] at hl
    simp at hl
  · have hf : ∀ j, (Array.replicate ops.size false).getD j false = false := fun j => by
      rw [Array.getD_eq_getD_getElem?]
      by_cases hj : j < ops.size
      · rw [Array.getElem?_eq_getElem (by simpa using hj)]; simp
      · rw [Array.getElem?_eq_none (by simpa using hj)]; rfl
    have none : ∀ {X : Type} (f : Nat → Nat → X) (Wr : Nat → Nat → Prop) (i : Nat) (m : Nat), mix f Wr (fun j => (Array.replicate ops.size false).getD j false) m i = f 0 i := by
      intro X f Wr i m
      induction m with
      | zero => rfl
      | succ m ih => unfold mix; rw [hf m, if_neg (by simp)]; exact ih
    have hH := hF.heap
    refine ⟨hF.size, fun r => by rw [none]; exact hF.regs r, hF.dfs, hF.gl, hH.dom, fun i h => ?_, fun i hi => by rw [none]; exact (hH.obj i hi).same fun _ _ _ => rfl, fun i i' t t' h1 h2 h3 h4 => by rw [none] at h3 h4; exact hH.inj i i' t t' h1 h2 h3 h4, hH.base, Adv.refl _ _ _ _ _⟩
    rcases h with ⟨h1, h2⟩ | ⟨k, h1, _, h2, h3⟩
    · exact hH.free i (Nat.le_trans hle.1.nx h1) h2
    · have f := fc k h1
      rw [f.lo] at h2
      rw [f.hi] at h3
      refine hH.free i (Nat.le_trans (run_nx fc 0 k (by omega) (by omega)) h2) (Nat.lt_of_lt_of_le h3 (Nat.le_trans (run_nx fc (k + 1) ops.size (by omega) (Nat.le_refl _)) hc.hi))
end Go.Cm
/- Calls. -/
set_option autoImplicit false
set_option linter.unusedVariables false
set_option linter.unusedSimpArgs false
set_option linter.unusedSectionVars false
namespace Go.Cm
open Go Go.RowKit

section
variable {C : Ctx} {E : En} {n : Nat} {β : Mp} {s s' : St} {a : Act} {w : World}

theorem lr_back {s : St} {id : Nat} : (s.lr id).hp = s.hp ∧ (s.lr id).nx = s.nx := ⟨lr_hp s id, lr_nx s id⟩

theorem loadC_run (hC : CtxOK C) {t : Nat} {x y : CV} (h : loadC C s t x = some (y, s')) : Le s s' ∧ Fr s s' ∧ s'.hp = s.hp ∧ s'.nx = s.nx ∧ ∀ (E : En) (β : Mp) (w : World) (vx : Value), Cov E s' → HR E β s.hp s.nx w → V β x vx → ∃ v, (Instr.loadAt t vx).run C.P w = .ok v w ∧ V β y v := by
  unfold loadC at h
  split at h
  · rename_i id off
    split at h
    · rename_i el cs n opn fz ho
      split at h
      · rename_i ha
        obtain ⟨h1, h⟩ := Dp.bif_some h
        cases h
        refine ⟨Le.lr _ _, Fr.lr _ _, lr_hp _ _, lr_nx _ _, fun E β w vx hc hH hx => ?_⟩
        have hS := lr_cov hc
        obtain ⟨t', hb, rfl⟩ := hx.p
        obtain ⟨l, g1, g2, g3, _⟩ := read_ok (P := C.P) (obj_cells (hH.obj id hS) ho) hb (Nat.le_of_ble_eq_true h1)
        refine ⟨.agg l.toArray, ?_, by simp only [R]; exact ⟨_, rfl, g2⟩⟩
        obtain ⟨a1, i, a2⟩ := ag_ok hC (w := w) ha
        simp only [Instr.loadAt, Instr.sureAddr, loadVar, Sem.run_bind, Sem.run_pure, Result.andThen_ok, a1, if_true, sz_run hC a2, g3]
      · rename_i ha
        obtain ⟨h1, h⟩ := Dp.bif_some h
        cases h
        refine ⟨Le.lr _ _, Fr.lr _ _, lr_hp _ _, lr_nx _ _, fun E β w vx hc hH hx => ?_⟩
        have hS := lr_cov hc
        obtain ⟨t', hb, rfl⟩ := hx.p
        obtain ⟨l, g1, g2, g3, g4⟩ := read_ok (P := C.P) (m := 1) (off := off) (obj_cells (hH.obj id hS) ho) hb (by have := Dp.bltN h1; omega)
        obtain ⟨v, rfl⟩ := List.length_eq_one_iff.1 g1
        have g5 := g4 0 v rfl
        refine ⟨v, ?_, ?_⟩
        · obtain ⟨a1, i, a2⟩ := ag_ok hC (w := w) ha
          simp only [Instr.loadAt, Instr.sureAddr, loadVar, Sem.run_bind, Sem.run_pure, Result.andThen_ok, a1, Bool.false_eq_true, if_false]
          simp [run_load]
          simp at g5
          rw [g5]
        · simp only [rdN, R] at g2
          obtain ⟨v', l2, e, g6, _⟩ := g2
          cases e
          exact g6
      · cases h
    · cases h
  · cases h

theorem FR.mem (hF : FR C E n β s a w) (h1 : s'.rg = s.rg) (h2 : s'.df = s.df) (h3 : s'.hp = s.hp) (h4 : s'.nx = s.nx) : FR C E n β s' a w :=
  ⟨hF.size, fun i => by rw [h1]; exact hF.regs i, by rw [h2]; exact hF.dfs, by rw [h3, h4]; exact hF.heap, hF.gl⟩

/-- A call's answers. -/
theorem resC_ok (hC : CtxOK C) : ∀ (l : List ResultVar) (s s' : St) (c : CV), resC C l s = some (c, s') → Le s s' ∧ Fr s s' ∧ s'.hp = s.hp ∧ s'.nx = s.nx ∧ ∀ (E : En) (n : Nat) (β : Mp) (a : Act) (w : World), Cov E s' → FR C E n β s a w →
    ∃ vs : List Value, L β c vs ∧ ∀ f : ResultVar → Sem Value, (∀ t, f (.tmp t) = pure (a.tmps.getD t undef)) → (∀ a' t, f (.cell a' t) = do loadVar t (← asAddr (a.tmps.getD a' undef))) → (l.mapM f).run C.P w = .ok vs w := by
  intro l
  induction l with
  | nil => intro s s' c h; cases h; exact ⟨Le.refl _, Fr.refl _, rfl, rfl, fun E n β a w _ _ => ⟨[], rfl, fun f _ _ => by simp⟩⟩
  | cons x l ih =>
    intro s s' c h
    cases x with
    | tmp t =>
      simp only [resC] at h
      split at h
      · rename_i r s1 h1
        cases h
        obtain ⟨g1, g2, g3, g4, g5⟩ := ih _ _ _ h1
        refine ⟨g1, g2, g3, g4, fun E n β a w hc hF => ?_⟩
        obtain ⟨vs, q1, q2⟩ := g5 E n β a w hc hF
        refine ⟨a.tmps.getD t undef :: vs, by simp only [R]; exact ⟨_, _, rfl, hF.regs t, q1⟩, fun f f1 f2 => ?_⟩
        simp only [List.mapM_cons, f1, Sem.run_bind, Sem.run_pure, Result.andThen_ok, q2 f f1 f2]
      · cases h
    | cell b t =>
      simp only [resC] at h
      split at h
      · rename_i v s1 h1
        split at h
        · rename_i r s2 h2
          cases h
          obtain ⟨p1, p2, p3, p4, p5⟩ := loadC_run hC h1
          obtain ⟨g1, g2, g3, g4, g5⟩ := ih _ _ _ h2
          refine ⟨p1.trans g1, p2.trans g2, g3.trans p3, g4.trans p4, fun E n β a w hc hF => ?_⟩
          obtain ⟨u, q1, q2⟩ := p5 E β w _ (hc.le g1) hF.heap (hF.regs b)
          obtain ⟨vs, r1, r2⟩ := g5 E n β a w hc (hF.mem p2.rg p2.df p3 p4)
          refine ⟨u :: vs, by simp only [R]; exact ⟨_, _, rfl, q2, r1⟩, fun f f1 f2 => ?_⟩
          have h3' : (do loadVar t (← asAddr (a.tmps.getD b undef)) : Sem Value).run C.P w = .ok u w := Dp.load_asAddr q1
          rw [List.mapM_cons, f2, Sem.run_bind, h3']
          simp only [Result.andThen_ok, Sem.run_bind, r2 f f1 f2, Sem.run_pure]
        · cases h
      · cases h

theorem one_ok {c : CV} {vs : List Value} (h : L β c vs) : V β (one c) (if h : vs.toArray.size = 1 then vs.toArray[0] else .tuple vs.toArray) := by
  have hl := h.len
  by_cases h1 : vs.length = 1
  · rw [dif_pos (by simpa using h1)]
    cases c with
    | cons x r =>
      cases r with
      | nil =>
        simp only [R] at h
        obtain ⟨v, l2, e, g1, g2⟩ := h
        subst e
        exact g1
      | cons y r => simp only [CV.len] at hl; omega
      | _ => simp only [R] at h; obtain ⟨_, _, _, _, h⟩ := h; exact h.elim
    | nil => simp only [CV.len] at hl; omega
    | _ => simp only [R] at h
  · rw [dif_neg (by simpa using h1)]
    have e : one c = .tup c := by
      unfold one
      split
      · simp only [CV.len] at hl; omega
      · rfl
    rw [e]
    simp only [R]
    exact ⟨vs.toArray, rfl, by simpa using h⟩

theorem retC_ok (hC : CtxOK C) {fn : Func} {s0 : St} {r : Bool × CV × St} (h : retC C fn s0 s = some r) : ∃ c s1, r = (false, one c, back s0 s1) ∧ Le s s1 ∧ s1.hp = s.hp ∧ s1.nx = s.nx ∧ ∀ (E : En) (n : Nat) (β : Mp) (a : Act) (w : World), Cov E s1 → FR C E n β s a w → ∃ v, (results fn a.tmps).run C.P w = .ok v w ∧ V β (one c) v := by
  unfold retC at h
  split at h
  · rename_i c s1 h1
    cases h
    obtain ⟨g1, g2, g3, g4, g5⟩ := resC_ok hC _ _ _ _ h1
    refine ⟨c, s1, rfl, g1, g3, g4, fun E n β a w hc hF => ?_⟩
    obtain ⟨vs, q1, q2⟩ := g5 E n β a w hc hF
    refine ⟨_, ?_, one_ok q1⟩
    unfold results
    rw [← Array.toArray_toList (xs := fn.results), List.mapM_toArray]
    simp only [Sem.run_bind, Sem.run_map]
    rw [q2 _ (fun _ => rfl) (fun _ _ => rfl)]
    rfl
  · cases h

theorem argR_ok : ∀ (args : CV) (m : Nat) (t : Tr CV) (l : List Value), L β args l → ∀ j, (∀ v, m ≤ j → l[j - m]? = some v → V β (gR (argR m args t) j) v) ∧ (j < m ∨ m + l.length ≤ j → gR (argR m args t) j = gR t j) := by
  intro args
  induction args with
  | nil => intro m t l h j; simp only [R] at h; subst h; exact ⟨fun v _ e => by simp at e, fun _ => rfl⟩
  | cons x r _ ih =>
    intro m t l h j
    simp only [R] at h
    obtain ⟨v, l2, rfl, h1, h2⟩ := h
    simp only [argR]
    obtain ⟨g1, g2⟩ := ih (m + 1) (t.set m x) l2 h2 j
    refine ⟨fun u hj e => ?_, fun hj => ?_⟩
    · by_cases ej : j = m
      · subst ej
        rw [g2 (.inl (by omega)), gR_set, if_pos rfl]
        simp at e
        subst e
        exact h1
      · refine g1 u (by omega) ?_
        rw [show j - m = (j - (m + 1)) + 1 by omega] at e
        simpa using e
    · simp only [List.length_cons] at hj
      rw [g2 (by omega), gR_set, if_neg (by omega)]
  | _ => intro m t l h; simp only [R] at h

/-- A call's beginning. -/
theorem FR.enter {args : CV} {vals : Array Value} (hH : HR E β s.hp s.nx w) (hg : ∀ g, V β (gl1 C.gl g) (.pointer (some ⟨g, 0, none⟩))) (ha : L β args vals.toList) (hn : args.len ≤ n) :
    FR C E n β (into (argR 0 args .lf) s) { tmps := vals ++ Array.replicate (n - vals.size) undef, defers := [] } w := by
  obtain ⟨rg, hp, nx, lim, rl, wl, df⟩ := s
  have hl := ha.len
  simp at hl
  refine ⟨by simp; omega, fun i => ?_, trivial, hH, hg⟩
  show V β (gR (argR 0 args .lf) i) _
  obtain ⟨g1, g2⟩ := argR_ok args 0 .lf vals.toList ha i
  by_cases hi : i < vals.size
  · refine g1 _ (Nat.zero_le _) ?_
    rw [Array.getD_eq_getD_getElem?, Array.getElem?_append_left hi]
    simp [hi]
  · rw [g2 (.inr (by simp; omega))]
    exact ⟨_, rfl⟩
end
end Go.Cm
/- Calls: a function is walked. -/
set_option autoImplicit false
set_option linter.unusedVariables false
set_option linter.unusedSimpArgs false
set_option linter.unusedSectionVars false
namespace Go.Cm
open Go Go.RowKit

/-- All that is shown once of a program. -/
structure ProgOK (C : Ctx) : Prop where
  ctx : CtxOK C
  sp : SpOK C
  mixed : C.P.follows .mixedOrders = true
  enter : ∀ f fn c, C.ft.get f = some fn → fn.body = some c → Dp.EnterOK C.P f

section
variable {C : Ctx} {E : En} {n : Nat} {β : Mp} {s s' : St} {a : Act} {w : World} {call : CallT}

theorem into_eq (rg : Tr CV) (s : St) : (into rg s).rg = rg ∧ (into rg s).hp = s.hp ∧ (into rg s).nx = s.nx ∧ (into rg s).lim = s.lim ∧ (into rg s).rl = s.rl ∧ (into rg s).wl = s.wl ∧ (into rg s).df = [] := by
  obtain ⟨_, hp, nx, lim, rl, wl, df⟩ := s
  exact ⟨rfl, rfl, rfl, rfl, rfl, rfl, rfl⟩
theorem back_eq (s s' : St) : (back s s').rg = s.rg ∧ (back s s').hp = s'.hp ∧ (back s s').nx = s'.nx ∧ (back s s').lim = s'.lim ∧ (back s s').rl = s'.rl ∧ (back s s').wl = s'.wl ∧ (back s s').df = s.df := by
  obtain ⟨rg, _, _, _, _, _, df⟩ := s
  obtain ⟨_, hp, nx, lim, rl, wl, _⟩ := s'
  exact ⟨rfl, rfl, rfl, rfl, rfl, rfl, rfl⟩
theorem Le.into (rg : Tr CV) (s : St) : Le s (into rg s) := by
  obtain ⟨_, h2, h3, h4, h5, h6, _⟩ := into_eq rg s
  exact Le.of h4 h3 h5 h6 h2
theorem Le.back (s0 s : St) : Le s (back s0 s) := by
  obtain ⟨_, h2, h3, h4, h5, h6, _⟩ := back_eq s0 s
  exact Le.of h4 h3 h5 h6 h2

/-- What holds from one moment to a later one counts the memory alone. -/
theorem Adv.same {E : En} {s s1 s' s1' : St} {β β' : Mp} {w w' : World} (h : Adv E s s1 β β' w w') (h1 : s'.nx = s.nx) (h2 : s1'.nx = s1.nx) (h3 : s1'.lim = s1.lim) (h4 : s1'.wl = s1.wl) : Adv E s' s1' β β' w w' := by
  have ht : ∀ i, Tch s1' i ↔ Tch s1 i := fun i => by unfold Tch; rw [h2, h3, h4]
  refine ⟨h.ext, fun i t b b0 => ?_, fun b hb hk => h.keep b hb fun i t h5 => hk i t ((ht i).2 h5), h.size, h.os, h.tape, h.output⟩
  obtain ⟨g1, g2, g3⟩ := h.fresh i t b b0
  exact ⟨by rw [h1]; exact g1, by rw [h2]; exact g2, g3.imp (fun h => h) fun ⟨i0, t0, q1, q2⟩ => ⟨i0, t0, (ht i0).2 q1, q2⟩⟩

theorem isRec_run {o : Oper} (h : isRec o = true) (ρ : Operand → Value) (P : Program) (w : World) : (execOp ρ o).run P w = .ok .recover w ∧ o.guard = none := by
  unfold isRec at h
  split at h
  · rename_i c hc
    split at h
    · rename_i hb
      obtain ⟨dst, op, ty, pos, after, guard⟩ := o
      simp only at hc
      subst hc
      obtain ⟨callee, args, ats⟩ := c
      simp only at hb
      subst hb
      refine ⟨?_, by simpa using h⟩
      rfl
    · cases h
  · cases h

/-- The mode in which a deferred call begins; what recover answers it. -/
def ModeR (β : Mp) (rc : CV) (u : FrameMode) : Prop := (rc = .ni ∧ u = .returning) ∨ ∃ v, V β rc v ∧ u = .panicking [{ v := v, recovered := false }]

theorem runD_ok (hP : ProgOK C) (hD : DrawOK C) (hK : CallOK C call) {clo rc : CV} (h : runD C call clo rc s = some s') : Le s s' ∧ ∀ (E : En) (β : Mp) (w : World) (u : FrameMode) (d : Deferred), Cov E s' → HR E β s.hp s.nx w → (∀ g, V β (gl1 C.gl g) (.pointer (some ⟨g, 0, none⟩))) → DfR β [clo] [d] → ModeR β rc u →
    ∃ (fv : Fn) (cap : Array Value) (f : Nat) (args : Array Value), d.target = .fn fv cap ∧ (invoke d.target d.args).run C.P w = .ok (.enter f args) w ∧ CallsD C.P f args u w fun e u' w' => ∃ v, e = .returned v ∧ settle u' = .returning ∧ ∃ β', HR E β' s'.hp s'.nx w' ∧ Adv E s s' β β' w w' := by
  unfold runD at h
  split at h
  · rename_i g first caps
    split at h
    · rename_i fn hfn
      split at h
      · rename_i ri ops c hb
        split at h
        · rename_i o hops
          split at h
          · rename_i dd hdst
            obtain ⟨h1, h⟩ := Dp.bif_some h
            obtain ⟨h1, hres⟩ := Dp.and2 h1
            obtain ⟨h1, hlen⟩ := Dp.and2 h1
            obtain ⟨hrec, hdn⟩ := Dp.and2 h1
            have hdn := Dp.bltN hdn
            have hlen := Nat.le_of_ble_eq_true hlen
            have key : ∃ e, exec C call fn.ntmps c ((into (argR 0 (first.app caps) .lf) s).set dd rc) = some e ∧ (e = .nor s' ∨ e = .ret s') ∧ s'.df = [] := by
              split at h
              · rename_i s1 hx
                obtain ⟨h2, h⟩ := Dp.bif_some h
                cases h
                exact ⟨_, hx, .inl rfl, by simpa using h2⟩
              · rename_i s1 hx
                obtain ⟨h2, h⟩ := Dp.bif_some h
                cases h
                exact ⟨_, hx, .inr rfl, by simpa using h2⟩
              · cases h
            obtain ⟨e, hx, he, hdf⟩ := key
            have hst : e.st = s' := by rcases he with rfl | rfl <;> rfl
            obtain ⟨p1, p2⟩ := exec_ok hP.ctx hP.sp hD hK c _ e hx
            obtain ⟨q1, q2, q3, q4, q5, q6, q7⟩ := into_eq (argR 0 (first.app caps) .lf) s
            have hle0 : Le s ((into (argR 0 (first.app caps) .lf) s).set dd rc) := (Le.into _ s).trans (Le.set _ _ _)
            rw [hst] at p1
            refine ⟨hle0.trans p1, fun E β w u d hc hH hg hd hm => ?_⟩
            simp only [DfR, and_true] at hd
            obtain ⟨g', first', caps', x, y, e1, rfl, hx1, hy1⟩ := hd
            cases e1
            refine ⟨_, _, g, x ++ y, rfl, hP.enter g fn _ hfn hb (x ++ y) w, ?_⟩
            have hbody : C.P.funcs[g]? = some fn := hP.ctx.ft g fn hfn
            refine callsD_of_wpS hbody hb fun c0 cs hc0 => ?_
            have hargs : L β (first.app caps) (x ++ y).toList := by rw [Array.toList_append]; exact hx1.app hy1
            have hE := FR.enter (C := C) hH hg hargs hlen
            have hsz : ops.size = 1 := by rw [← Array.length_toList, hops]; rfl
            have ho : ops[0]? = some o := by
              have := congrArg (fun l => l[0]?) hops
              simpa using this
            refine wpS_seq (wpS_region ?_)
            rw [hsz]
            show wpOpsS C.P ops _ [0] _ _ _
            simp only [wpOpsS, ho]
            obtain ⟨r1, r2⟩ := isRec_run hrec (Act.eval { tmps := (x ++ y) ++ Array.replicate (fn.ntmps - (x ++ y).size) undef, defers := [] }) C.P w
            rw [if_pos (Dp.wanted_none r2), r1]
            -- what is left of it
            have rest : ∀ (v : Value) (c1 : Frame), V β rc v → c1 = { c0 with mode := c1.mode } → settle c1.mode = .returning →
                c.wpS C.P (bodyPostS C.P fn c0 cs fun e u' w' => ∃ v, e = .returned v ∧ settle u' = .returning ∧ ∃ β', HR E β' s'.hp s'.nx w' ∧ Adv E s s' β β' w w')
                  (Act.put { tmps := (x ++ y) ++ Array.replicate (fn.ntmps - (x ++ y).size) undef, defers := [] } o.dst v) (c1 :: cs) w := by
              intro v c1 hv hc1 hse
              refine wpS_of_wp ?_
              have hF := hE.set (d := dd) (x := rc) (v := v) hdn hv
              rw [hdst]
              refine wp_mono (p2 E β _ w (by rw [hst]; exact hc) hF) fun z a' w' hh => ?_
              have fin : ∀ (β' : Mp), FR C E fn.ntmps β' s' a' w' → Adv E ((into (argR 0 (first.app caps) .lf) s).set dd rc) s' β β' w w' → a'.defers = [] ∧ ∃ u', (c1 :: cs) = { c0 with mode := u' } :: cs ∧ ∃ v, (results fn a'.tmps).run C.P w' = .ok v w' ∧ ∃ v', Ending.returned v = .returned v' ∧ settle u' = .returning ∧ ∃ β', HR E β' s'.hp s'.nx w' ∧ Adv E s s' β β' w w' := by
                intro β' g1 g2
                have hdd : a'.defers = [] := by
                  have := g1.dfs
                  rw [hdf] at this
                  cases hq : a'.defers with
                  | nil => rfl
                  | cons _ _ => rw [hq] at this; exact this.elim
                refine ⟨hdd, c1.mode, by rw [← hc1], .tuple #[], ?_, _, rfl, hse, β', g1.heap, g2.same q3.symm rfl rfl rfl⟩
                have hre : fn.results = #[] := by simpa using hres
                unfold results
                rw [hre]
                simp
              cases z with
              | normal => obtain ⟨s2, β', e1, e2, e3⟩ := hh; subst e1; cases hst; exact fin β' e2 e3
              | ret => obtain ⟨s2, β', e1, e2, e3⟩ := hh; subst e1; cases hst; exact fin β' e2 e3
              | panic ch => obtain ⟨v, s2, u, β', e1, _⟩ := hh; subst e1; rcases he with he | he <;> cases he
              | exit i => obtain ⟨s2, β', e1, _⟩ := hh; subst e1; rcases he with he | he <;> cases he
              | _ => exact hh.elim
            rcases hm with ⟨rfl, rfl⟩ | ⟨v, hv, rfl⟩
            · have hr : recoverD (c0 :: cs) = none := by simp only [recoverD, hc0]
              simp only [hr]
              exact rest .nilIface c0 (by simp [R]) rfl (by rw [hc0]; rfl)
            · have hr : recoverD (c0 :: cs) = some (v, { c0 with mode := .panicking [{ v := v, recovered := true }] } :: cs) := by simp only [recoverD, hc0]
              simp only [hr]
              exact rest v { c0 with mode := .panicking [{ v := v, recovered := true }] } hv rfl rfl
          · cases h
        · cases h
      · cases h
    · cases h
  · cases h

/-- What a call answers, when its deferred one has been run. -/
theorem ret_done (hP : ProgOK C) {fn : Func} {s0 s1 : St} {r : Bool × CV × St} (h : retC C fn s0 s1 = some r) : Le s1 r.2.2 ∧ r.1 = false ∧ r.2.2.rg = s0.rg ∧ r.2.2.df = s0.df ∧ r.2.2.hp = s1.hp ∧ r.2.2.nx = s1.nx ∧ r.2.2.lim = s1.lim ∧ r.2.2.wl = s1.wl ∧
    ∀ (E : En) (n : Nat) (β : Mp) (a : Act) (w : World), Cov E r.2.2 → FR C E n β s1 a w → ∃ v, (results fn a.tmps).run C.P w = .ok v w ∧ V β r.2.1 v := by
  obtain ⟨c, s2, rfl, g1, g2, g3, g4⟩ := retC_ok hP.ctx h
  obtain ⟨q1, q2, q3, q4, q5, q6, q7⟩ := back_eq s0 s2
  have hwl : s2.wl = s1.wl := by
    have : ∀ (l : List ResultVar) (s s' : St) (c : CV), resC C l s = some (c, s') → s'.wl = s.wl := by
      intro l
      induction l with
      | nil => intro s s' c h; cases h; rfl
      | cons x l ih =>
        intro s s' c h
        cases x with
        | tmp t =>
          simp only [resC] at h
          split at h
          · rename_i r s1 h1
            cases h
            exact ih _ _ _ h1
          · cases h
        | cell b t =>
          simp only [resC] at h
          split at h
          · rename_i v s1 h1
            split at h
            · rename_i r s2 h2
              cases h
              rw [ih _ _ _ h2]
              have lrw : ∀ (s : St) id, (s.lr id).wl = s.wl := fun s id => by obtain ⟨rg, hp, nx, lim, rl, wl, df⟩ := s; unfold St.lr; dsimp only; cases Nat.blt id lim <;> rfl
              unfold loadC at h1
              split at h1
              · split at h1
                · split at h1
                  · obtain ⟨_, h1⟩ := Dp.bif_some h1; cases h1; exact lrw _ _
                  · obtain ⟨_, h1⟩ := Dp.bif_some h1; cases h1; exact lrw _ _
                  · cases h1
                · cases h1
              · cases h1
            · cases h
          · cases h
    unfold retC at h
    split at h
    · rename_i c' s3 h3
      simp only [Option.some.injEq, Prod.mk.injEq, true_and] at h
      obtain ⟨_, h⟩ := h
      have e6 := congrArg St.wl h
      rw [(back_eq s0 s3).2.2.2.2.2.1, q6] at e6
      rw [← e6]
      exact this _ _ _ _ h3
    · cases h
  refine ⟨g1.trans (Le.back _ _), rfl, q1, q7, by show (back s0 s2).hp = _; rw [q2, g2], by show (back s0 s2).nx = _; rw [q3, g3], by show (back s0 s2).lim = _; rw [q4, g1.lim], by show (back s0 s2).wl = _; rw [q6, hwl], fun E n β a w hc hF => ?_⟩
  exact g4 E n β a w (hc.le (Le.back _ _)) hF

/-- The end of a function's run. -/
theorem endF_ok (hP : ProgOK C) (hD : DrawOK C) (hK : CallOK C call) {fn : Func} {s0 : St} {e : Ex} {r : Bool × CV × St} (h : endF C call fn s0 (some e) = some r) :
    Le e.st r.2.2 ∧ r.2.2.rg = s0.rg ∧ r.2.2.df = s0.df ∧ ∀ (E : En) (s1 : St) (β1 : Mp) (w1 : World), Cov E r.2.2 → Le s1 e.st → (∀ id t, β1 id = some t → t.blk < w1.heap.size) → ∀ z a w, XP C E fn.ntmps s1 β1 w1 e z a w →
      bodyPostD C.P fn (fun e' w' => ∃ (v : Value) (β' : Mp), V β' r.2.1 v ∧ HR E β' r.2.2.hp r.2.2.nx w' ∧ Adv E s1 r.2.2 β1 β' w1 w' ∧ e' = bif r.1 then .panicked [{ v := v, recovered := false }] else .returned v) z a w := by
  -- without a deferred call
  have plain : ∀ (s : St), s.df = [] → retC C fn s0 s = some r → Le s r.2.2 ∧ r.2.2.rg = s0.rg ∧ r.2.2.df = s0.df ∧ ∀ (E : En) (s1 : St) (β1 β : Mp) (w1 : World), Cov E r.2.2 → Le s1 s → ∀ a w, FR C E fn.ntmps β s a w → Adv E s1 s β1 β w1 w →
      Leaves C.P fn a.tmps (fun e' w' => ∃ (v : Value) (β' : Mp), V β' r.2.1 v ∧ HR E β' r.2.2.hp r.2.2.nx w' ∧ Adv E s1 r.2.2 β1 β' w1 w' ∧ e' = bif r.1 then .panicked [{ v := v, recovered := false }] else .returned v) a.defers .returning w := by
    intro s hdf hr
    obtain ⟨g1, g2, g3, g4, g5, g6, g7, g8, g9⟩ := ret_done hP hr
    refine ⟨g1, g3, g4, fun E s1 β1 β w1 hc hl a w hF hA => ?_⟩
    have hd := hF.dfs
    rw [hdf] at hd
    obtain ⟨v, q1, q2⟩ := g9 E _ β a w hc hF
    cases hq : a.defers with
    | cons _ _ => rw [hq] at hd; exact hd.elim
    | nil => exact ⟨v, q1, v, β, q2, by rw [g5, g6]; exact hF.heap, hA.same rfl g6 g7 g8, by rw [g2]; rfl⟩
  -- with one
  have one : ∀ (s s' : St) (clo rc : CV), s.df = [clo] → runD C call clo rc s = some s' → retC C fn s0 (back s s') = some r → Le s r.2.2 ∧ r.2.2.rg = s0.rg ∧ r.2.2.df = s0.df ∧ ∀ (E : En) (s1 : St) (β1 β : Mp) (w1 : World) (u : FrameMode), Cov E r.2.2 → Le s1 s → (∀ id t, β1 id = some t → t.blk < w1.heap.size) → ModeR β rc u → u ≠ .run → ∀ a w, FR C E fn.ntmps β s a w → Adv E s1 s β1 β w1 w →
      Leaves C.P fn a.tmps (fun e' w' => ∃ (v : Value) (β' : Mp), V β' r.2.1 v ∧ HR E β' r.2.2.hp r.2.2.nx w' ∧ Adv E s1 r.2.2 β1 β' w1 w' ∧ e' = bif r.1 then .panicked [{ v := v, recovered := false }] else .returned v) a.defers u w := by
    intro s s' clo rc hdf hrun hr
    obtain ⟨g1, g2, g3, g4, g5, g6, g7, g8, g9⟩ := ret_done hP hr
    obtain ⟨p1, p2⟩ := runD_ok hP hD hK hrun
    obtain ⟨b1, b2, b3, b4, b5, b6, b7⟩ := back_eq s s'
    have hl2 := (Le.back s s').trans g1
    refine ⟨p1.trans hl2, g3, g4, fun E s1 β1 β w1 u hc hl hdom hm hu a w hF hA => ?_⟩
    have hd := hF.dfs
    rw [hdf] at hd
    cases hq : a.defers with
    | nil => rw [hq] at hd; exact hd.elim
    | cons d ds =>
      rw [hq] at hd
      cases ds with
      | cons _ _ => exact hd.2.elim
      | nil =>
        obtain ⟨fv, cap, f, args, r1, r2, r3⟩ := p2 E β w u d (hc.le hl2) hF.heap hF.gl hd hm
        refine ⟨hu, fv, cap, f, args, r1, r2, fun c cs hcm => ?_⟩
        obtain ⟨e', u', w', fr, ⟨v, he, hse, β', hH', hA'⟩, hcomes⟩ := r3 c cs hcm
        subst he
        refine ⟨.returned v, u', w', fr, ?_, hcomes⟩
        show Leaves C.P fn a.tmps _ [] (settle u') w'
        rw [hse]
        have hF' : FR C E fn.ntmps β' (back s s') a w' :=
          ⟨hF.size, fun i => by rw [b1]; exact (hF.regs i).mono hA'.ext, by rw [b7]; exact hF.dfs.mono hA'.ext, by rw [b2, b3]; exact hH', fun g => (hF.gl g).mono hA'.ext⟩
        obtain ⟨v2, q1, q2⟩ := g9 E _ β' _ w' hc hF'
        have hA2 : Adv E s1 s' β1 β' w1 w' := hA.trans hA' hl p1 hdom
        exact ⟨v2, q1, v2, β', q2, by rw [g5, g6]; exact hF'.heap, hA2.same rfl (g6.trans b3) (g7.trans b4) (g8.trans b6), by rw [g2]; rfl⟩
  -- an end that is no panic
  have calm : ∀ (s : St), endR C call fn s0 s = some r → Le s r.2.2 ∧ r.2.2.rg = s0.rg ∧ r.2.2.df = s0.df ∧ ∀ (E : En) (s1 : St) (β1 β : Mp) (w1 : World), Cov E r.2.2 → Le s1 s → (∀ id t, β1 id = some t → t.blk < w1.heap.size) → ∀ a w, FR C E fn.ntmps β s a w → Adv E s1 s β1 β w1 w →
      Leaves C.P fn a.tmps (fun e' w' => ∃ (v : Value) (β' : Mp), V β' r.2.1 v ∧ HR E β' r.2.2.hp r.2.2.nx w' ∧ Adv E s1 r.2.2 β1 β' w1 w' ∧ e' = bif r.1 then .panicked [{ v := v, recovered := false }] else .returned v) a.defers .returning w := by
    intro s hr
    unfold endR at hr
    split at hr
    · rename_i hdf
      obtain ⟨g1, g2, g3, g4⟩ := plain s hdf hr
      exact ⟨g1, g2, g3, fun E s1 β1 β w1 hc hl _ a w hF hA => g4 E s1 β1 β w1 hc hl a w hF hA⟩
    · rename_i clo hdf
      split at hr
      · rename_i s' hrun
        obtain ⟨g1, g2, g3, g4⟩ := one s s' clo .ni hdf hrun hr
        exact ⟨g1, g2, g3, fun E s1 β1 β w1 hc hl hdom a w hF hA => g4 E s1 β1 β w1 .returning hc hl hdom (.inl ⟨rfl, rfl⟩) (by simp) a w hF hA⟩
      · cases hr
    · cases hr
  cases e with
  | nor s =>
    obtain ⟨g1, g2, g3, g4⟩ := calm s h
    refine ⟨g1, g2, g3, fun E s1 β1 w1 hc hl hdom z a w hz => ?_⟩
    cases z with
    | normal => obtain ⟨s', β', e1, e2, e3⟩ := hz; cases e1; exact g4 E s1 β1 β' w1 hc hl hdom a w e2 e3
    | exit i => obtain ⟨s', β', e1, _⟩ := hz; cases e1
    | ret => obtain ⟨s', β', e1, _⟩ := hz; cases e1
    | panic c => obtain ⟨v, s', u, β', e1, _⟩ := hz; cases e1
    | _ => exact hz.elim
  | ret s =>
    obtain ⟨g1, g2, g3, g4⟩ := calm s h
    refine ⟨g1, g2, g3, fun E s1 β1 w1 hc hl hdom z a w hz => ?_⟩
    cases z with
    | ret => obtain ⟨s', β', e1, e2, e3⟩ := hz; cases e1; exact g4 E s1 β1 β' w1 hc hl hdom a w e2 e3
    | exit i => obtain ⟨s', β', e1, _⟩ := hz; cases e1
    | normal => obtain ⟨s', β', e1, _⟩ := hz; cases e1
    | panic c => obtain ⟨v, s', u, β', e1, _⟩ := hz; cases e1
    | _ => exact hz.elim
  | pan v s =>
    have h : endP C call fn v s0 s = some r := h
    unfold endP at h
    split at h
    · rename_i hdf
      cases h
      obtain ⟨b1, b2, b3, b4, b5, b6, b7⟩ := back_eq s0 s
      refine ⟨Le.back _ _, b1, b7, fun E s1 β1 w1 hc hl hdom z a w hz => ?_⟩
      cases z with
      | panic c =>
        obtain ⟨v', s', u, β', e1, rfl, e2, e3, e4⟩ := hz
        cases e1
        have hd := e3.dfs
        rw [hdf] at hd
        show Leaves C.P fn a.tmps _ a.defers _ w
        cases hq : a.defers with
        | cons _ _ => rw [hq] at hd; exact hd.elim
        | nil => exact ⟨u, β', e2, by rw [b2, b3]; exact e3.heap, e4.same rfl b3 b4 b6, rfl⟩
      | exit i => obtain ⟨s', β', e1, _⟩ := hz; cases e1
      | normal => obtain ⟨s', β', e1, _⟩ := hz; cases e1
      | ret => obtain ⟨s', β', e1, _⟩ := hz; cases e1
      | _ => exact hz.elim
    · rename_i clo hdf
      split at h
      · rename_i s' hrun
        obtain ⟨g1, g2, g3, g4⟩ := one s s' clo v hdf hrun h
        refine ⟨g1, g2, g3, fun E s1 β1 w1 hc hl hdom z a w hz => ?_⟩
        cases z with
        | panic c =>
          obtain ⟨v', s', u, β', e1, rfl, e2, e3, e4⟩ := hz
          cases e1
          exact g4 E s1 β1 β' w1 _ hc hl hdom (.inr ⟨u, e2, rfl⟩) (by simp) a w e3 e4
        | exit i => obtain ⟨s', β', e1, _⟩ := hz; cases e1
        | normal => obtain ⟨s', β', e1, _⟩ := hz; cases e1
        | ret => obtain ⟨s', β', e1, _⟩ := hz; cases e1
        | _ => exact hz.elim
      · cases h
    · cases h
  | exit i s => cases h
  | goto i s => cases h

theorem callF_ok (hP : ProgOK C) : ∀ d, CallOK C (callF C d) := by
  have hD := drawC_ok hP.ctx hP.sp hP.mixed
  intro d
  induction d with
  | zero => intro f args s r h; cases h
  | succ d ih =>
    intro f args s r h
    have h : (match C.ft.get f with
      | some fn => (match fn.body with
        | some c => bif Nat.ble args.len fn.ntmps then endF C (callF C d) fn s (exec C (callF C d) fn.ntmps c (into (argR 0 args .lf) s)) else fl 225
        | none => fl 164)
      | none => fl 165) = some r := h
    split at h
    · rename_i fn hfn
      split at h
      · rename_i c hb
        obtain ⟨h1, h⟩ := Dp.bif_some h
        have hlen := Nat.le_of_ble_eq_true h1
        cases hx : exec C (callF C d) fn.ntmps c (into (argR 0 args .lf) s) with
        | none => rw [hx] at h; cases h
        | some e =>
          rw [hx] at h
          obtain ⟨p1, p2⟩ := exec_ok hP.ctx hP.sp hD ih c _ e hx
          obtain ⟨g1, g2, g3, g4⟩ := endF_ok hP hD ih h
          obtain ⟨q1, q2, q3, q4, q5, q6, q7⟩ := into_eq (argR 0 args .lf) s
          refine ⟨((Le.into _ s).trans p1).trans g1, ⟨g2, g3⟩, hP.enter f fn c hfn hb, fun E β w vals hc hH hg ha => ?_⟩
          refine calls_of_wp_defers (hP.ctx.ft f fn hfn) hb ?_
          have hF := FR.enter (C := C) hH hg ha hlen
          refine wp_mono (p2 E β _ w (hc.le g1) hF) fun z a' w' hz => ?_
          have := g4 E _ β w hc p1 hF.dom z a' w' hz
          have conv : ∀ (e' : Ending) (w' : World), (∃ (v : Value) (β' : Mp), V β' r.2.1 v ∧ HR E β' r.2.2.hp r.2.2.nx w' ∧ Adv E (into (argR 0 args .lf) s) r.2.2 β β' w w' ∧ e' = bif r.1 then .panicked [{ v := v, recovered := false }] else .returned v) →
              ∃ (v : Value) (β' : Mp), V β' r.2.1 v ∧ HR E β' r.2.2.hp r.2.2.nx w' ∧ Adv E s r.2.2 β β' w w' ∧ e' = bif r.1 then .panicked [{ v := v, recovered := false }] else .returned v :=
            fun e' w' ⟨v, β', a1, a2, a3, a4⟩ => ⟨v, β', a1, a2, a3.same q3.symm rfl rfl rfl, a4⟩
          have he : (fun (e' : Ending) (w' : World) => ∃ (v : Value) (β' : Mp), V β' r.2.1 v ∧ HR E β' r.2.2.hp r.2.2.nx w' ∧ Adv E (into (argR 0 args .lf) s) r.2.2 β β' w w' ∧ e' = bif r.1 then .panicked [{ v := v, recovered := false }] else .returned v) =
              fun (e' : Ending) (w' : World) => ∃ (v : Value) (β' : Mp), V β' r.2.1 v ∧ HR E β' r.2.2.hp r.2.2.nx w' ∧ Adv E s r.2.2 β β' w w' ∧ e' = bif r.1 then .panicked [{ v := v, recovered := false }] else .returned v := by
            funext e' w'
            refine propext ⟨conv e' w', fun ⟨v, β', a1, a2, a3, a4⟩ => ⟨v, β', a1, a2, a3.same q3 rfl rfl rfl, a4⟩⟩
          rw [he] at this
          exact this
      · cases h
    · cases h
end
end Go.Cm
/- A closed function that the machine runs: a contract. -/
set_option autoImplicit false
set_option linter.unusedVariables false
set_option linter.unusedSimpArgs false
set_option linter.unusedSectionVars false
namespace Go.Cm
open Go Go.RowKit

def cvA {α : Type} (f : α → Option (List CV)) : List α → Option (List CV)
  | [] => some []
  | x :: l => match f x, cvA f l with
    | some a, some b => some (a ++ b)
    | _, _ => none
/-- The cells of a typed value. -/
def cvT : (t : Dp.Ty) → t.den → Option (List CV)
  | .int k, n => some [.i k n]
  | .bool, b => some [.b b]
  | .str, s => some [.s s]
  | .snil, _ => some []
  | .scons a r, x => match cvT a x.1, cvT r x.2 with
    | some l, some m => some (l ++ m)
    | _, _ => none
  | .arr _ e, xs => cvA (cvT e) xs
  | _, _ => none
def cvV : Dp.TV → Option (List CV)
  | ⟨.ref t, x⟩ => cvT t x
  | _ => none
def cvG (gl : List (Nat × Dp.TV)) (g : Nat) : Option (List CV) := cvV (Dp.lookTV gl g)
def rowO (l : List CV) : CO := .cells 0 (Tr.mk l) l.length none l.length
noncomputable def h0 (gl : List (Nat × Dp.TV)) : List Nat → Tr CO
  | [] => .lf
  | g :: l => match cvG gl g with
    | some cs => (h0 gl l).set g (rowO cs)
    | none => h0 gl l
noncomputable def st0 (gl : List (Nat × Dp.TV)) (ids : List Nat) (nx : Nat) : St := ⟨.lf, h0 gl ids, nx, 0, [], [], []⟩
def glC : List Nat → List (Nat × CV)
  | [] => []
  | g :: l => (g, .p g 0) :: glC l
def idsOK (gl : List (Nat × Dp.TV)) (ids : List Nat) (nx : Nat) : Bool := ids.all fun g => (cvG gl g).isSome && Nat.blt g nx
def okT : Option (Bool × CV × St) → Bool
  | some (false, .b true, _) => true
  | _ => false

theorem ofL_app {β : Mp} : ∀ {a b : List CV} {l m : List Value}, L β (ofL a) l → L β (ofL b) m → L β (ofL (a ++ b)) (l ++ m) := by
  intro a
  induction a with
  | nil => intro b l m h1 h2; simp only [ofL, R] at h1; subst h1; simpa using h2
  | cons x a ih =>
    intro b l m h1 h2
    simp only [ofL, R] at h1
    obtain ⟨v, l2, rfl, g1, g2⟩ := h1
    simp only [List.cons_append, ofL, R]
    exact ⟨v, l2 ++ m, rfl, g1, ih g2 h2⟩

theorem cvT_ok {β : Mp} {w : World} {U : Nat → Prop} : ∀ (t : Dp.Ty) (x : t.den) (l : List Value) (c : List CV), cvT t x = some c → Dp.EncM w U Dp.noB [] false t x l → L β (ofL c) l := by
  intro t
  induction t with
  | int k => intro x l c h he; simp only [cvT, Option.some.injEq] at h; subst h; simp only [Dp.EncM] at he; subst he; simp [ofL, R]
  | bool => intro x l c h he; simp only [cvT, Option.some.injEq] at h; subst h; simp only [Dp.EncM] at he; subst he; simp [ofL, R]
  | str => intro x l c h he; simp only [cvT, Option.some.injEq] at h; subst h; simp only [Dp.EncM] at he; subst he; simp [ofL, R]
  | snil => intro x l c h he; simp only [cvT, Option.some.injEq] at h; subst h; simp only [Dp.EncM] at he; subst he; simp [ofL, R]
  | scons a r iha ihr =>
    intro x l c h he
    simp only [cvT] at h
    split at h
    · rename_i l1 l2 h1 h2
      cases h
      simp only [Dp.EncM] at he
      obtain ⟨m1, m2, rfl, e1, e2⟩ := he
      exact ofL_app (iha _ _ _ h1 e1) (ihr _ _ _ h2 e2)
    · cases h
  | arr n e ih =>
    intro x l c h he
    simp only [cvT] at h
    simp only [Dp.EncM] at he
    obtain ⟨_, h1, h2, h3⟩ := he
    have key : ∀ (xs : List e.den) (l : List Value) (c : List CV), cvA (cvT e) xs = some c → l.length = xs.length * e.csize → (∀ i (h : i < xs.length), Dp.EncM w U Dp.noB [] false e xs[i] ((l.drop (i * e.csize)).take e.csize)) → L β (ofL c) l := by
      intro xs
      induction xs with
      | nil =>
        intro l c h hl _
        simp only [cvA, Option.some.injEq] at h
        subst h
        have : l = [] := List.eq_nil_of_length_eq_zero (by simpa using hl)
        subst this
        simp [ofL, R]
      | cons x xs ihx =>
        intro l c h hl hi
        simp only [cvA] at h
        split at h
        · rename_i a b ha hb
          cases h
          have e1 := ih x (l.take e.csize) _ ha (by have := hi 0 (by simp); rw [Nat.zero_mul, List.drop_zero] at this; exact this)
          have hl2 : (l.drop e.csize).length = xs.length * e.csize := by
            rw [List.length_drop, hl, List.length_cons, Nat.succ_mul]; omega
          have e2 := ihx (l.drop e.csize) b hb hl2 fun i hx => by
            have := hi (i + 1) (by simpa using hx)
            rw [List.drop_drop]
            rw [show e.csize + i * e.csize = (i + 1) * e.csize by rw [Nat.succ_mul]; omega]
            exact this
          have := ofL_app e1 e2
          rwa [List.take_append_drop] at this
        · cases h
    exact key x l c h (by rw [h1, h2]) h3
  | _ => intro x l c h; simp [cvT] at h

theorem ofL_at : ∀ (c : List CV) (j : Nat), (ofL c).at j = c[j]? := by
  intro c
  induction c with
  | nil => intro j; cases j <;> rfl
  | cons a c ih => intro j; cases j with
    | zero => rfl
    | succ j => simp only [ofL, CV.at, List.getElem?_cons_succ, ih]
theorem ofL_len : ∀ (c : List CV), (ofL c).len = c.length := by
  intro c
  induction c with
  | nil => rfl
  | cons a c ih => simp only [ofL, CV.len, ih, List.length_cons]

theorem h0_at {gl : List (Nat × Dp.TV)} : ∀ (ids : List Nat) (id : Nat), gO (h0 gl ids) id = .none ∨ (id ∈ ids ∧ ∃ cs, cvG gl id = some cs ∧ gO (h0 gl ids) id = rowO cs) := by
  intro ids
  induction ids with
  | nil => intro id; exact .inl rfl
  | cons g l ih =>
    intro id
    have old : gO (h0 gl l) id = .none ∨ (id ∈ g :: l ∧ ∃ cs, cvG gl id = some cs ∧ gO (h0 gl l) id = rowO cs) := (ih id).imp_right fun h => ⟨List.mem_cons_of_mem _ h.1, h.2⟩
    simp only [h0]
    split
    · rename_i cs hcs
      rw [gO_set]
      by_cases e : id = g
      · subst e
        rw [if_pos rfl]
        exact .inr ⟨List.mem_cons_self, cs, hcs, rfl⟩
      · rw [if_neg e]; exact old
    · exact old

theorem glC_at : ∀ (ids : List Nat) (g : Nat), gl1 (glC ids) g = .u ∨ (g ∈ ids ∧ gl1 (glC ids) g = .p g 0) := by
  intro ids
  induction ids with
  | nil => intro g; exact .inl rfl
  | cons i l ih =>
    intro g
    unfold gl1
    simp only [glC, Dp.look]
    cases h : Nat.beq i g with
    | true =>
      have := Dp.beqN h
      subst this
      exact .inr ⟨List.mem_cons_self, rfl⟩
    | false =>
      simp only [cond_false]
      exact (ih g).imp_right fun h => ⟨List.mem_cons_of_mem _ h.1, h.2⟩

def spec0 : Dp.Spec := { args := .snil, res := .bool, own := false, F := fun _ _ => some true }

/-- A global's block. -/
theorem glob_blk {gl : List (Nat × Dp.TV)} {w : World} {U : Nat → Prop} {g : Nat} {cs : List CV} (hg : Dp.GlobOK gl w U) (h : cvG gl g = some cs) : ∃ arr el fr l, w.heap[g]? = some (.cells arr el fr) ∧ arr.size = l.length ∧ (∀ β : Mp, L β (ofL cs) l) ∧ ∀ j (hj : j < arr.size) (hl : j < l.length), arr[j] = l[j] := by
  have h1 := hg g _ rfl
  unfold cvG at h
  generalize Dp.lookTV gl g = x at h h1
  obtain ⟨t, v⟩ := x
  cases t <;> simp only [cvV] at h <;> try (cases h; done)
  rename_i T
  rcases h1 with h1 | ⟨_, _, h1, h2⟩
  · cases h1
  · simp only [Dp.EncM] at h1
    obtain ⟨b, off, l, e, hb, he, hc⟩ := h1
    simp only [Value.pointer.injEq, Option.some.injEq, Addr.mk.injEq, List.cons.injEq, and_true] at e
    obtain ⟨rfl, rfl⟩ := e
    simp only [Dp.Whole] at h2
    obtain ⟨arr, el, fr, h3, h4⟩ := h2
    refine ⟨arr, el, fr, l, h3, by rw [h4, ← he.len], fun β => cvT_ok _ _ _ _ h he, fun j hj hl => ?_⟩
    have := hc j hl
    rw [Nat.zero_add, cell_at h3, Array.getElem?_eq_getElem hj, Option.some.injEq] at this
    exact this

theorem closed_contract {P : Program} {gl : List (Nat × Dp.TV)} {C : Ctx} {f d nx : Nat} {ids : List Nat} (hP : ProgOK C) (hp : C.P = P) (hcg : C.gl = glC ids) (hi : idsOK gl ids nx = true) (hrun : okT (callF C d f .nil (st0 gl ids nx)) = true) : Dp.Contract P gl f spec0 := by
  subst hp
  obtain ⟨s', hr⟩ : ∃ s', callF C d f .nil (st0 gl ids nx) = some (false, .b true, s') := by
    unfold okT at hrun
    split at hrun
    · rename_i s' h; exact ⟨s', h⟩
    · cases hrun
  obtain ⟨p1, p2, p3, p4⟩ := callF_ok hP d f .nil _ _ hr
  have hid : ∀ g ∈ ids, (∃ cs, cvG gl g = some cs) ∧ g < nx := fun g hg => by
    have := List.all_eq_true.1 hi g hg
    obtain ⟨a, b⟩ := Dp.and2 this
    exact ⟨Option.isSome_iff_exists.1 a, Dp.bltN b⟩
  refine ⟨rfl, rfl, fun K x r hx w U vals hU hg he => .inl ⟨p3, ?_⟩⟩
  have hx : some true = some r := hx
  cases hx
  have hv : vals.toList = [] := by simpa only [spec0, Dp.EncM] using he
  let β : Mp := fun id => if id ∈ ids then some ⟨id, 0⟩ else none
  have hβ : ∀ id t, β id = some t → id ∈ ids ∧ t = ⟨id, 0⟩ := fun id t h => by
    by_cases e : id ∈ ids
    · simp only [β, e, if_true, Option.some.injEq] at h; exact ⟨e, h.symm⟩
    · simp only [β, e, if_false] at h; cases h
  have hβ' : ∀ id, id ∈ ids → β id = some ⟨id, 0⟩ := fun id e => by simp only [β, e, if_true]
  have hlt : ∀ id, id ∈ ids → id < w.heap.size := fun id e => by
    obtain ⟨⟨cs, hcs⟩, _⟩ := hid id e
    obtain ⟨arr, el, fr, l, h1, _⟩ := glob_blk hg hcs
    exact (Array.getElem?_eq_some_iff.1 h1).1
  let E : En := ⟨fun _ => True, s'.nx, w.heap.size⟩
  have hc : Cov E s' := ⟨fun _ _ => trivial, fun _ _ => trivial, fun _ _ => trivial, Nat.le_refl _⟩
  have hH : HR E β (st0 gl ids nx).hp (st0 gl ids nx).nx w := by
    refine ⟨fun id t h => ?_, fun id h1 h2 => ?_, fun id _ => ?_, fun i j t u _ _ _ _ ht hu e => ?_, Nat.le_refl _, fun id h => ?_⟩
    · obtain ⟨h1, rfl⟩ := hβ id t h; exact hlt id h1
    · have : id ∉ ids := fun e => by have := (hid id e).2; have h1 : nx ≤ id := h1; omega
      simp only [β, this, if_false]
    · show ObjR w.heap.size β w id (gO (h0 gl ids) id)
      rcases h0_at (gl := gl) ids id with h | ⟨h1, cs, h2, h3⟩
      · rw [h]; trivial
      · rw [h3]
        obtain ⟨arr, el, fr, l, q1, q2, q3, q4⟩ := glob_blk hg h2
        have hlen := (q3 β).len
        rw [ofL_len] at hlen
        refine ⟨⟨id, 0⟩, arr, fr, hβ' id h1, el_put0 q1, by omega, .inr (.inl ⟨Nat.le_refl _, rfl⟩), fun j hj hn => ?_, fun sz hs => by cases hs⟩
        have hjl : j < l.length := by omega
        obtain ⟨x, g1, g2⟩ := L.get hjl (q3 β)
        rw [gR_eq, Tr.get_mk, ← ofL_at, g1, q4 j hj hjl]
        exact g2
    · obtain ⟨_, rfl⟩ := hβ i t ht
      obtain ⟨_, rfl⟩ := hβ j u hu
      exact e
    · rcases h0_at (gl := gl) ids id with h' | ⟨h1, _⟩
      · exact h'
      · have := (hid id h1).2
        have h : nx ≤ id := h
        omega
  have hgv : ∀ g, V β (gl1 C.gl g) (.pointer (some ⟨g, 0, none⟩)) := fun g => by
    rw [hcg]
    rcases glC_at ids g with h | ⟨h1, h⟩
    · rw [h]; simp [R]
    · rw [h]; simp only [R]; exact ⟨_, hβ' g h1, rfl⟩
  refine (p4 E β w vals hc hH hgv (by rw [hv]; simp [R])).mono ?_
  rintro e w' ⟨v, β', h1, _, hA, rfl⟩
  refine ⟨v, U, rfl, ⟨hA.os, hA.tape, hA.output, hA.size, fun b hb => hA.keep b hb fun id t _ ht hB => ?_⟩, fun b => ⟨.inl, fun h => h.elim (fun h => h) fun h => h.2.2⟩, ?_⟩
  · have hB : w.heap.size ≤ t.blk := hB
    omega
  · rw [V.bool h1]
    exact Dp.EncV.mk_bool true
end Go.Cm
/- Functions that are not walked. -/
set_option autoImplicit false
set_option linter.unusedVariables false
set_option linter.unusedSimpArgs false
set_option linter.unusedSectionVars false
namespace Go.Cm
open Go Go.RowKit

/-- The argument itself. -/
def sameF : CV → Option CV
  | .cons x .nil => some x
  | _ => none

theorem same_is {C : Ctx} {f : Nat} {fn : Func} (hf : C.P.funcs[f]? = some fn) (hn : (fn.name == "runtime.NumGoroutine") = false) (hb : fn.body = none) (h1 : (Extern.findNext fn).isNone = true)
    (h2 : Extern.find fn = some Extern.AbiNoEscape.same) : SpIs C f (.pure sameF) := by
  intro args v hF β w vals hv _
  unfold sameF at hF
  split at hF
  · rename_i x
    cases hF
    simp only [R] at hv
    obtain ⟨u, l2, e, g1, g2⟩ := hv
    have e3 : vals = #[u] := by apply Array.ext'; rw [e, g2]
    subst e3
    refine .inl ⟨u, w, ?_, g1, Below.refl _ _⟩
    rw [Dp.callFunc_extern hf hn hb h1 h2, Lib.run_noEscape]
    rfl
  · cases hF

theorem mkz_is {C : Ctx} {f t e : Nat} {ps : Array TypeId} {fn : Func} (hf : C.P.funcs[f]? = some fn) (hn : (fn.name == "runtime.NumGoroutine") = false) (hb : fn.body = none) (h1 : (Extern.findNext fn).isNone = true)
    (h2 : Extern.find fn = some (Extern.BytealgMakeNoZero.makeNoZero ps #[t])) (ht : C.P.underlying t = some (.slice e)) : SpIs C f (.mkz e) := by
  intro w n hle
  obtain ⟨cs, g1, g2, _⟩ := Lib.run_makeNoZero (P := C.P) w ps t e ht n (by unfold Dp.maxRoom at hle; omega)
  refine .inl ⟨.slice (some ⟨w.heap.size, 0, none⟩) n cs.size, w.drew.drew.alloc (.cells cs e), ?_, cs.size, cs, g2, rfl, rfl, rfl, rfl, rfl, rfl⟩
  rw [Dp.callFunc_extern hf hn hb h1 h2, g1]
  rfl

theorem after_of {P : Program} {f : Nat} {vals : Array Value} {w : World} {R : Value → World → Prop} (h : Dp.CallsV P f vals w fun e w' => ∃ u, e = .returned u ∧ R u w') : After P f vals w R := by
  rcases h with ⟨h1, h2⟩ | ⟨v, w', h1, u, h2, h3⟩
  · exact .inr ⟨h1 vals w, h2⟩
  · cases h2
    exact .inl ⟨v, w', h1, h3⟩
theorem callsV_mono {P : Program} {f : Nat} {vals : Array Value} {w : World} {R R' : Ending → World → Prop} (h : Dp.CallsV P f vals w R) (hR : ∀ e w', R e w' → R' e w') : Dp.CallsV P f vals w R' := by
  rcases h with ⟨h1, h2⟩ | ⟨v, w', h1, h2⟩
  · exact .inl ⟨h1, h2.mono hR⟩
  · exact .inr ⟨v, w', h1, hR _ _ h2⟩

theorem row_is {C : Ctx} {f : Nat} {G : Nat → List Int → Option Bool} {F : List UInt8 → Option CV} (hc : Dp.Contract C.P [] f { args := .scons (.list (.int .u8)) .snil, res := .bool, own := false, F := fun K x => G K x.1 })
    (hG : ∀ bs v, F bs = some v → ∃ K b, G K (bs.map fun x => (x.toNat : Int)) = some b ∧ v = .b b) : SpIs C f (.row F) := by
  intro bs v hF w b off cap hb hcells hle
  obtain ⟨K, r, g1, rfl⟩ := hG bs v hF
  refine after_of (callsV_mono (hc.calls K (bs.map fun x => (x.toNat : Int), ()) r g1 w (fun c => c = b) _ (fun c h => by subst h; exact hb) (fun g x e => .inl (by subst e; rfl)) ?_) ?_)
  · simp only [Dp.EncM]
    refine ⟨_, [], rfl, .inr ⟨rfl, ?_⟩, rfl⟩
    simp only [Dp.EncM, Value.cells, List.length_map]
    refine ⟨_, _, rfl, hle, fun _ => ⟨b, off, rfl, rfl, fun i hi => ⟨[.int .u8 ((bs[i]'(by simpa using hi)).toNat : Int)], by simp, fun j hj => ?_⟩⟩⟩
    simp only [List.length_singleton] at hj
    obtain rfl : j = 0 := by omega
    have hi' : i < bs.length := by simpa using hi
    have := hcells i bs[i] (by simp [hi'])
    simpa [Dp.Ty.csize] using this
  · rintro e w' ⟨u, U', rfl, h1, _, h2⟩
    refine ⟨u, rfl, fun β => ?_, h1⟩
    rw [h2.bool]
    simp [R]

/-- Bytes that are all 255. -/
def repC1 : Nat → CV
  | 0 => .nil
  | n + 1 => .cons (.i .u8 255) (repC1 n)
def blankF : CV → Option CV
  | .cons (.i .i64 n) .nil => bif decide (0 < n) && decide (n ≤ 65536) then some (repC1 n.toNat) else none
  | _ => none
theorem repC1_len : ∀ n, (repC1 n).len = n := by
  intro n
  induction n with
  | zero => rfl
  | succ n ih => simp only [repC1, CV.len, ih]
theorem repC1_at : ∀ (n j : Nat) (x : CV), (repC1 n).at j = some x → x = .i .u8 255 ∧ j < n := by
  intro n
  induction n with
  | zero => intro j x h; cases j <;> cases h
  | succ n ih =>
    intro j x h
    cases j with
    | zero => simp only [repC1, CV.at, Option.some.injEq] at h; exact ⟨h.symm, by omega⟩
    | succ j => obtain ⟨h1, h2⟩ := ih j x h; exact ⟨h1, by omega⟩

theorem blank_is {C : Ctx} {f : Nat} {G : Nat → Int → Option (List Int)} (hc : Dp.OContract C.P [] f { args := .scons (.int .i64) .snil, e := .int .u8, F := fun K x => G K x.1 })
    (hG : ∀ n : Int, 0 < n → n ≤ 65536 → ∃ K, G K n = some (List.replicate n.toNat 255)) : SpIs C f (.mkr blankF) := by
  intro args c hF β w vals hv
  unfold blankF at hF
  split at hF
  · rename_i n
    obtain ⟨h, hF⟩ := Dp.bif_some hF
    obtain ⟨h1, h2⟩ := Dp.and2 h
    have h1 : (0 : Int) < n := Dp.decT h1
    have h2 : n ≤ 65536 := Dp.decT h2
    cases hF
    obtain ⟨K, hK⟩ := hG n h1 h2
    simp only [R] at hv
    obtain ⟨u, l2, e, g1, g2⟩ := hv
    have e3 : vals = #[.int .i64 n] := by
      apply Array.ext'; rw [e, g2]
      simpa using g1
    subst e3
    refine .inr ⟨hc.enter _ _, (hc.calls K (n, ()) _ hK w (fun _ => False) _ (fun _ h => h.elim) (fun g x e => .inl (by subst e; rfl)) (by simp [Dp.EncM, Dp.aggV, Dp.Ty.isAgg, Value.cells])).mono ?_⟩
    rintro e w' ⟨bl, rfl, q1, q2⟩
    rcases q2 with ⟨_, _, q2⟩ | ⟨b, arr, el, fr, q2, q3, q4, q5, q6, q7, q8⟩
    · exfalso
      have := congrArg List.length q2
      simp at this
      omega
    · rw [List.length_replicate] at q6
      simp only [Dp.Ty.csize, Nat.mul_one] at q5
      refine ⟨_, rfl, q1, b, arr, el, fr, bl.cap, by rw [q2, repC1_len, List.length_replicate]; rfl, by rw [repC1_len]; exact q6, q3, q4, by rw [repC1_len, q5]; exact q6, q7, fun j x hx hj β => ?_⟩
      obtain ⟨rfl, hjn⟩ := repC1_at _ _ _ hx
      obtain ⟨cs, r1, r2⟩ := q8 j (by rw [List.length_replicate]; exact hjn)
      simp only [Dp.EncM, List.getElem_replicate] at r1
      subst r1
      have := r2 0 (by simp)
      simp only [Dp.Ty.csize, Nat.mul_one, Nat.add_zero, List.getElem_cons_zero] at this
      rw [Array.getElem?_eq_getElem hj, Option.some.injEq] at this
      rw [this]
      simp [R]
  · cases hF

/-- Where a byte stands in a text. -/
def ibN (n : Nat) : Nat → List UInt8 → Option Nat
  | _, [] => none
  | i, x :: r => bif Nat.beq x.toNat n then some i else ibN n (Nat.succ i) r
def ibR : Option Nat → Option CV
  | some i => fN i fun i => some (.i .i64 (i : Int))
  | none => some (.i .i64 (-1))
def ibF : CV → Option CV
  | .cons (.s b) (.cons (.i .u8 n) .nil) => bif decide (0 ≤ n) && Nat.blt n.toNat 256 then ibR (ibN n.toNat 0 b) else none
  | _ => none
theorem ibN_ok (c : UInt8) : ∀ (l : List UInt8) (i : Nat), (ibN c.toNat i l = none ∧ Lib.indexByte l c = -1) ∨ ∃ k : Nat, ibN c.toNat i l = some (i + k) ∧ Lib.indexByte l c = (k : Int) := by
  intro l
  induction l with
  | nil => intro i; exact .inl ⟨rfl, rfl⟩
  | cons x r ih =>
    intro i
    simp only [ibN, Lib.indexByte]
    by_cases h : x = c
    · subst h
      exact .inr ⟨0, by simp, by simp⟩
    · have h1 : Nat.beq x.toNat c.toNat = false := by
        cases hb : Nat.beq x.toNat c.toNat with
        | true => exact absurd (UInt8.toNat_inj.1 (Nat.eq_of_beq_eq_true hb)) h
        | false => rfl
      have h2 : (x == c) = false := by simpa using h
      simp only [h1, h2, cond_false, Bool.false_eq_true, if_false]
      rcases ih (Nat.succ i) with ⟨g1, g2⟩ | ⟨k, g1, g2⟩
      · exact .inl ⟨g1, by rw [g2]; rfl⟩
      · refine .inr ⟨k + 1, by rw [g1]; congr 1; omega, ?_⟩
        rw [g2]
        have : ((k : Int) == -1) = false := by simp
        rw [this]
        simp
theorem ib_is {C : Ctx} {f : Nat} {fn : Func} (hf : C.P.funcs[f]? = some fn) (hn : (fn.name == "runtime.NumGoroutine") = false) (hb : fn.body = none) (h1 : (Extern.findNext fn).isNone = true)
    (h2 : Extern.find fn = some Extern.BytealgIndexByte.indexByte) : SpIs C f (.pure ibF) := by
  intro args v hF β w vals hv _
  unfold ibF at hF
  split at hF
  · rename_i b n
    obtain ⟨h, hF⟩ := Dp.bif_some hF
    obtain ⟨g1, g2⟩ := Dp.and2 h
    have g1 : (0 : Int) ≤ n := Dp.decT g1
    have g2 := Dp.bltN g2
    simp only [R] at hv
    obtain ⟨u, l2, e, q1, u2, l3, rfl, q2, rfl⟩ := hv
    obtain rfl := (List.cons.inj q1).1
    obtain rfl := (List.cons.inj q2).1
    have e3 : vals = #[.string ⟨b.toArray⟩, .int .u8 n] := by apply Array.ext'; rw [e]
    subst e3
    have hc : n.toNat.toUInt8.toNat = n.toNat := by
      simp only [Nat.toUInt8, UInt8.toNat_ofNat', Nat.reducePow]
      exact Nat.mod_eq_of_lt g2
    refine .inl ⟨.int .i64 (Lib.indexByte b n.toNat.toUInt8), w, ?_, ?_, Below.refl _ _⟩
    · rw [Dp.callFunc_extern hf hn hb h1 h2, Lib.run_indexByteString]
      rfl
    · have := ibN_ok n.toNat.toUInt8 b 0
      rw [hc] at this
      rcases this with ⟨p1, p2⟩ | ⟨k, p1, p2⟩
      · rw [p1] at hF
        simp only [ibR, Option.some.injEq] at hF
        subst hF
        rw [p2]; simp [R]
      · rw [p1] at hF
        simp only [ibR, fN_eq, Option.some.injEq, Nat.zero_add] at hF
        subst hF
        rw [p2]; simp [R]
  · cases hF
end Go.Cm
/- The functions that a function leads to, reckoned with a tree. No condition. -/
set_option autoImplicit false
set_option linter.unusedVariables false
namespace Go.Dp
open Go

def leads (P : Program) (f : Nat) : List Nat := (P.funcs[f]?).elim [] P.leadsTo
noncomputable def cvT (G : Nat → List Nat) : Nat → List Nat → List Nat → Cm.Tr Nat → Option (List Nat)
  | _, [], seen, _ => some seen
  | 0, _ :: _, _, _ => none
  | n + 1, f :: todo, seen, t => match t.get f with
    | some _ => cvT G n todo seen t
    | none => cvT G n (G f ++ todo) (f :: seen) (t.set f 0)

theorem cvT_ok {P : Program} : ∀ (n : Nat) (todo seen : List Nat) (t : Cm.Tr Nat) (L : List Nat), cvT (leads P) n todo seen t = some L → (∀ g, seen.contains g = (t.get g).isSome) → ∀ m, n ≤ m → P.closureVia m todo seen = L.reverse := by
  intro n
  induction n with
  | zero =>
    intro todo seen t L h hs m hm
    cases todo with
    | nil =>
      simp only [cvT, Option.some.injEq] at h
      subst h
      cases m <;> simp [Program.closureVia]
    | cons f todo => simp [cvT] at h
  | succ n ih =>
    intro todo seen t L h hs m hm
    cases todo with
    | nil =>
      simp only [cvT, Option.some.injEq] at h
      subst h
      cases m <;> simp [Program.closureVia]
    | cons f todo =>
      cases m with
      | zero => omega
      | succ m =>
        simp only [cvT] at h
        simp only [Program.closureVia]
        cases hg : t.get f with
        | some x =>
          rw [hg] at h
          have : seen.contains f = true := by rw [hs f, hg]; rfl
          rw [if_pos this]
          exact ih _ _ _ _ h hs m (by omega)
        | none =>
          rw [hg] at h
          have : ¬ seen.contains f = true := by rw [hs f, hg]; simp
          rw [if_neg this]
          refine ih _ _ _ _ h (fun g => ?_) m (by omega)
          rw [Cm.Tr.get_set, List.contains_cons, hs g]
          by_cases e : g = f
          · subst e; simp
          · simp [e]

/-- The functions that a function leads to. -/
theorem closure_of {P : Program} {f n : Nat} {L : List Nat} (h : cvT (leads P) n [f] [] .lf = some L) (hn : Nat.ble n (1 + (P.funcs.toList.map fun g => (P.leadsTo g).length + 1).sum) = true) : P.closure f = L.reverse := by
  unfold Program.closure
  exact cvT_ok n _ _ _ _ h (fun g => rfl) _ (Nat.le_of_ble_eq_true hn)
end Go.Dp
