/- strings.Builder beside a row of the call's own; items.Quote and items.Unquote as contracts. No condition but on sizes. -/
import Derived.Test.YtkfffmpnmoiikaaGreatDoorUS1
import Derived.Test.YtkfffmpnmoiikaaGreatDoorFc
import Derived.Shelf.Strings.BuilderK
import Derived.Lib.ConvBytes
import Derived.WalkKit
import Derived.BigCall
namespace Go.Proofs
open Go Go.RowKit Go.Shelf Go.Dp
set_option linter.unusedVariables false
def Marked (w : World) (r : Nat) (cs : Array Value) : Prop := w.heap[r]? = some (.cells cs 5 (cs.size, cs.size + 1))
theorem wf2 {w : World} {B : Nat} {v : Value} {n : Nat} {xs : List Value} {r : Nat} {cs : Array Value} (hown : w.ownsRowF B 5 1 v n xs) (h : Marked w r cs) : v.ownBlock ≠ some r := by
  rcases hown.2 with ⟨rfl, _⟩ | ⟨g, cap, cur, fz, rfl, _, hg, hf, hn, _, hc, _⟩
  · simp [Value.ownBlock]
  · intro e
    simp only [Value.ownBlock, Option.some.injEq] at e
    subst e
    rw [h] at hg
    simp only [Option.some.injEq, Obj.cells.injEq] at hg
    obtain ⟨rfl, _, rfl⟩ := hg
    simp only at hf
    omega
set_option maxHeartbeats 4000000 in
set_option maxRecDepth 1000000 in
theorem Tryz.wb (B b : Nat) (bs : List Value) (c : Int) (w : World) (h : Lib.IsBuilderF 126 5 B b bs w) (hlen : bs.length + 1 ≤ 140737488355328) (hBw : B ≤ w.heap.size) :
    Calls Tryz.prog 241 #[.pointer (some ⟨b, 0, none⟩), .int .u8 c] w fun e w' => e = .returned .nilIface ∧ (Lib.IsBuilderF 126 5 B b (bs ++ [.int .u8 c]) w' ∧ Below B w w' ∧ ∀ r cs, Marked w r cs → Marked w' r cs) := by
  obtain ⟨i0, hi, hz0, hz1, hz2⟩ := info_parts Tryz.Builder_Extra_156.infoByte
  have hcc : Calls Tryz.prog 169 #[.pointer (some ⟨b, 0, none⟩)] w fun e w' => e = .returned (.tuple #[]) ∧ (Lib.BuilderAtF 126 5 B b (.pointer (some ⟨b, 0, none⟩)) bs w' ∧ Below B w w' ∧ ∀ r cs, Marked w r cs → Marked w' r cs) := by
    rcases h with h | h
    · refine (Any.Builder_copyCheck_fresh (ρ := Tryz.lays156_ren) { Tryz.lays156 with } Tryz.Builder_Extra_156.toX72 b w h.cell0 h.shape h.frozen0).mono ?_
      rintro e w' ⟨rfl, rfl⟩
      refine ⟨rfl, h.used _, (Below.refl B w).setCell (p := ⟨b, 0, none⟩) h.1 _, fun r cs hr => ?_⟩
      unfold Marked at hr ⊢
      rw [Below.heap_setCell _ _ _ _ (fun e => ?_)]
      · exact hr
      · have h2 := h.shape
        subst e
        simp [World.shape?, hr] at h2
    · refine (Any.Builder_copyCheck_used (ρ := Tryz.lays156_ren) { Tryz.lays156 with } Tryz.Builder_Extra_156.toX72 b w h.cell0).mono ?_
      rintro e w' ⟨rfl, rfl⟩
      exact ⟨rfl, h, Below.refl B _, fun r cs hr => hr⟩
  go_enter Tryz.func241, Tryz.ntmps241
  go_wp2_with (go_at_call 169; refine hcc.mono ?_)
  rintro e w1 ⟨rfl, h1, hb1, hm1⟩
  obtain ⟨hB, v, hbk, hown, hne⟩ := h1
  have c0 : w1.cell? ⟨b, 0, none⟩ = some (.pointer (some ⟨b, 0, none⟩)) := by rw [Lib.cell_of_heap hbk]; rfl
  have c1 : w1.cell? ⟨b, 1, none⟩ = some v := by rw [Lib.cell_of_heap hbk]; rfl
  go_wp2_with (at_builtin; refine wpList_append_ownF _ rfl _ _ 124 rfl B 5 i0 (.int .u8 0) 1 1 Tryz.underlying124 hi hz0 hz1 hz2 rfl (by decide) _ _ _ rfl (hown.alloc _) ⟨w1.heap.size, 0, none⟩ 1 1 [.int .u8 c] rfl rfl ?c1 ?c2 ?c3 ?c4 ?c5 ?_)
  case c1 =>
    intro j u hj
    match j, hj with
    | 0, hj => simp at hj; subst hj; simp [Addr.add]
  case c2 => intro u hu; simp at hu; subst hu; rfl
  case c3 => unfold maxLen; omega
  case c4 => omega
  case c5 => have := hb1.size; simp; omega
  intro v' w2 hown' hgrow _
  have hlt : b < w1.heap.size := by
    rcases Nat.lt_or_ge b w1.heap.size with h' | h'
    · exact h'
    · simp [Array.getElem?_eq_none h'] at hbk
  have hb2 : w2.heap[b]? = some (.cells #[.pointer (some ⟨b, 0, none⟩), v] 126 (0, 0)) := by
    rw [hgrow.block b (by simp; omega) (fun e => hne e.symm), Lib.alloc_old w1 _ b hlt]
    exact hbk
  have d0 : w2.cell? ⟨b, 0, none⟩ = some (.pointer (some ⟨b, 0, none⟩)) := by rw [Lib.cell_of_heap hb2]; rfl
  have d1 : w2.cell? ⟨b, 1, none⟩ = some v := by rw [Lib.cell_of_heap hb2]; rfl
  have f1 : w2.frozen? ⟨b, 1, none⟩ = false := Lib.frozen_of_heap hb2 1
  obtain ⟨g, cap, rfl⟩ : ∃ g cap, v' = .slice (some ⟨g, 0, none⟩) (bs.length + 1) cap := by
    rcases hown'.2 with ⟨_, h0⟩ | ⟨g, cap, cur, fz, hv, _⟩
    · omega
    · exact ⟨g, cap, hv⟩
  go_wp2
  go_ret
  refine ⟨rfl, .inr ?_, ?_, fun r cs hr => ?_⟩
  · exact Lib.BuilderAtF.put (T := 126) (e := 5) hB hb2 (bs' := bs ++ [.int .u8 c]) (by simpa using hown') (by decide)
  · exact ((hb1.alloc (by have := hb1.size; omega) _).grown hgrow (by have := hb1.size; simp; omega) (fun k hk => (hown.lt k hk).1)).setCell (p := ⟨b, 1, none⟩) hB _
  · have hr1 := hm1 r cs hr
    have hrlt : r < w1.heap.size := (Array.getElem?_eq_some_iff.1 hr1).1
    have hrb : r ≠ b := fun e => by
      subst e
      unfold Marked at hr1
      rw [hbk] at hr1
      simp at hr1
    have hrv := wf2 hown hr1
    unfold Marked at hr1 ⊢
    rw [Below.heap_setCell _ _ _ _ hrb, hgrow.block r (by simp; omega) (fun e => hrv e.symm), Lib.alloc_old w1 _ r hrlt]
    exact hr1
theorem cells1 (l : List UInt8) (x : UInt8) : Lib.byteCells (l ++ [x]) = Lib.byteCells l ++ [Value.int .u8 (x.toNat : Int)] := by
  rw [Lib.byteCells_append]; rfl
theorem hidQ {p : Prop} (h : p) : Hid p := h
set_option maxHeartbeats 4000000 in
set_option maxRecDepth 1000000 in
theorem Tryz.items_Unquote (s : ByteArray) (w : World) (hs : s.size ≤ 1000000000) :
    Calls Tryz.prog 186 #[.string s] w fun e w' => e = .returned (.tuple #[.string ⟨(unquoteL s.data.toList).1.toArray⟩, .int .i64 (unquoteL s.data.toList).2.1]) ∧ Below w.heap.size w w' := by
  by_cases h2 : s.size < 2
  · have e : unquoteL s.data.toList = ([], 5, ()) := by
      have h3 : s.data.toList.length < 2 := h2
      simp only [unquoteL, h3, true_or, if_true]
    rw [e]
    go_enter Tryz.func186, Tryz.ntmps186
    go_wp2
    go_ret2
    exact ⟨rfl, Below.refl _ _⟩
  have h0 : 0 < s.size := by omega
  have hl : s.size - 1 < s.size := by omega
  have g : ∀ (k : Nat) (hk : k < s.size), s[k] = s.data.toList.getD k 0 := fun k hk => by
    have hk' : k < s.data.toList.length := hk
    rw [List.getD_eq_getElem?_getD, List.getElem?_eq_getElem hk']; rfl
  by_cases q0 : s.data.toList.getD 0 0 = 34
  case neg =>
    have e : unquoteL s.data.toList = ([], 5, ()) := by
      simp only [unquoteL, q0, not_false_eq_true, ne_eq, true_or, or_true, if_true]
    rw [e]
    obtain ⟨z, hz⟩ : ∃ z : Int, ((s[0]'h0).toNat : Int) = z := ⟨_, rfl⟩
    have z1 : (z != 34) = true := by
      rw [bne_iff_ne]
      intro e2
      apply q0
      rw [← g 0 h0]
      apply UInt8.toNat_inj.1
      rw [e2] at hz
      exact Int.ofNat.inj hz
    clear g q0 e
    go_enter Tryz.func186, Tryz.ntmps186
    go_wp2
    all_goals (go_ret2; exact ⟨rfl, Below.refl _ _⟩)
  by_cases q1 : s.data.toList.getD (s.size - 1) 0 = 34
  case neg =>
    have e : unquoteL s.data.toList = ([], 5, ()) := by
      have q1' : ¬ s.data.toList.getD (s.data.toList.length - 1) 0 = 34 := q1
      simp only [unquoteL, q1', not_false_eq_true, ne_eq, or_true, if_true]
    rw [e]
    have z0 : ((s[0]'h0).toNat : Int) = 34 := by rw [g 0 h0, q0]; rfl
    obtain ⟨z, hz⟩ : ∃ z : Int, ((s[s.size - 1]'hl).toNat : Int) = z := ⟨_, rfl⟩
    have z1 : (z != 34) = true := by
      rw [bne_iff_ne]
      intro e2
      apply q1
      rw [← g _ hl]
      apply UInt8.toNat_inj.1
      rw [e2] at hz
      exact Int.ofNat.inj hz
    clear g q0 q1 e
    go_enter Tryz.func186, Tryz.ntmps186
    go_wp2
    all_goals (go_ret2; exact ⟨rfl, Below.refl _ _⟩)
  have z0 : ((s[0]'h0).toNat : Int) = 34 := by rw [g 0 h0, q0]; rfl
  have z1 : ((s[s.size - 1]'hl).toNat : Int) = 34 := by rw [g _ hl, q1]; rfl
  have hU : unquoteL s.data.toList = (match unq (insideD s.data.toList 1) with | none => ([], 5, ()) | some t => (t, 0, ())) := by
    have h3 : ¬ s.data.toList.length < 2 := h2
    have q1' : s.data.toList.getD (s.data.toList.length - 1) 0 = 34 := q1
    simp only [unquoteL, q0, q1', h3, ne_eq, not_true_eq_false, or_self, if_false, insideD]
    rfl
  have HU := hidQ hU
  have HG := hidQ g
  have H0 := hidQ (Lib.IsBuilderF.of (Lib.fresh_isBuilder 126 5 w))
  have B0 := hidQ ((Below.refl w.heap.size w).alloc (Nat.le_refl _) (.cells #[.pointer none, .slice none 0 0] 126))
  clear g q0 q1 hU
  go_enter Tryz.func186, Tryz.ntmps186
  go_wp2
  go_loopw [6] (fun i wr => ∃ (k : Nat) (acc : List UInt8), 1 ≤ k ∧ k ≤ s.size - 1 ∧ i = .int .i64 k ∧ acc.length ≤ k ∧ Hid (unq (insideD s.data.toList 1) = (unq (insideD s.data.toList k)).map (acc ++ ·)) ∧ Hid (Lib.IsBuilderF 126 5 w.heap.size w.heap.size (Lib.byteCells acc) wr) ∧ Hid (Below w.heap.size w wr)) (fun i _ => s.size - (intOf i).toNat)
  case atStart => exact ⟨1, [], Nat.le_refl _, by omega, rfl, by simp, hidQ (by simp), H0, B0⟩
  case round =>
    obtain ⟨k, acc, hk1, hk, rfl, hal, HA, HB, HW⟩ := hrel
    by_cases hkn : k < s.size - 1
    · have hks : k < s.size := by omega
      have HC := hidQ (insideD_cons s.data.toList (k := k) hkn)
      have HX := hidQ (HG.out k hks)
      have HZ := hidQ HW.out.size
      obtain ⟨z, hz⟩ : ∃ z : Int, ((s[k]'hks).toNat : Int) = z := ⟨_, rfl⟩
      have HZZ := hidQ hz
      by_cases c1 : z = 34
      · subst c1
        have hn : unquoteL s.data.toList = ([], 5, ()) := by
          have e1 : s.data.toList.getD k 0 = 34 := by rw [← HX.out]; exact UInt8.toNat_inj.1 (Int.ofNat.inj hz)
          rw [HU.out, HA.out, HC.out, e1, unq_34]; rfl
        have HN := hidQ hn
        clear hn
        go_wp2
        go_ret2
        rw [HN.out]
        exact ⟨rfl, HW.out⟩
      by_cases c2 : z = 92
      · subst c2
        have e1 : s.data.toList.getD k 0 = 92 := by rw [← HX.out]; exact UInt8.toNat_inj.1 (Int.ofNat.inj hz)
        have HE := hidQ e1
        clear e1
        by_cases hk2 : k + 1 = s.size - 1
        · have hn : unquoteL s.data.toList = ([], 5, ()) := by
            rw [HU.out, HA.out, HC.out, HE.out, insideD_end _ (show s.data.toList.length - 1 ≤ k + 1 from Nat.le_of_eq hk2.symm), unq_92n]; rfl
          have HN := hidQ hn
          clear hn
          have hki : ((k : Int) + 1 == (s.size : Int) - 1) = true := by rw [beq_iff_eq]; omega
          go_wp2
          all_goals (go_ret2; rw [HN.out]; exact ⟨rfl, HW.out⟩)
        · have hk3 : k + 1 < s.size - 1 := by omega
          have hks2 : k + 1 < s.size := by omega
          have hki : ((k : Int) + 1 == (s.size : Int) - 1) = false := by rw [beq_eq_false_iff_ne]; omega
          have HX2 := hidQ (HG.out (k + 1) hks2)
          have HC2 := hidQ (insideD_cons s.data.toList (k := k + 1) hk3)
          obtain ⟨z', hz'⟩ : ∃ z' : Int, ((s[k + 1]'hks2).toNat : Int) = z' := ⟨_, rfl⟩
          have HZ' := hidQ hz'
          have hz2' : (s.data.toList.getD (k + 1) 0).toNat = z' := by rw [← HX2.out]; exact hz'
          have HZ2 := hidQ hz2'
          have hlb : (Lib.byteCells acc).length + 1 ≤ 140737488355328 := by rw [Lib.byteCells_length]; omega
          have HL := hidQ hlb
          clear hz2' hlb
          go_wp2_with (go_at_call 241; refine (Tryz.wb w.heap.size w.heap.size _ z' _ HB.out HL.out HZ.out).mono ?_)
          rintro e w3 ⟨rfl, h3, b3, _⟩
          have e3 : Lib.byteCells acc ++ [Value.int .u8 z'] = Lib.byteCells (acc ++ [s.data.toList.getD (k + 1) 0]) := by rw [cells1, HZ2.out]
          rw [e3] at h3
          have H3 := hidQ h3
          have B3 := hidQ (HW.out.trans b3)
          have HA3 : unq (insideD s.data.toList 1) = (unq (insideD s.data.toList (k + 2))).map ((acc ++ [s.data.toList.getD (k + 1) 0]) ++ ·) := by
            rw [HA.out, HC.out, HE.out, HC2.out, unq_92, Option.map_map]
            congr 1; funext l; simp
          have HA4 := hidQ HA3
          clear h3 b3 e3 HA3
          go_wp2
          exact ⟨⟨k + 2, acc ++ [s.data.toList.getD (k + 1) 0], by omega, by omega, by go_num, by simp; omega, HA4, H3, B3⟩, by simp [intOf]; omega⟩
      · have e1 : (z == 34) = false := beq_eq_false_iff_ne.2 c1
        have e2 : (z == 92) = false := beq_eq_false_iff_ne.2 c2
        have hz2' : (s.data.toList.getD k 0).toNat = z := by rw [← HX.out]; exact hz
        have HZ2 := hidQ hz2'
        have hlb : (Lib.byteCells acc).length + 1 ≤ 140737488355328 := by rw [Lib.byteCells_length]; omega
        have HL := hidQ hlb
        have hA3 : unq (insideD s.data.toList 1) = (unq (insideD s.data.toList (k + 1))).map ((acc ++ [s.data.toList.getD k 0]) ++ ·) := by
          rw [HA.out, HC.out, unq_other _ _ (fun e => c1 (by rw [← hz2', e]; rfl)) (fun e => c2 (by rw [← hz2', e]; rfl)), Option.map_map]
          congr 1; funext l; simp
        have HA4 := hidQ hA3
        clear hz2' hlb hA3 c1 c2
        go_wp2_with (go_at_call 241; refine (Tryz.wb w.heap.size w.heap.size _ z _ HB.out HL.out HZ.out).mono ?_)
        rintro e w3 ⟨rfl, h3, b3, _⟩
        have e3 : Lib.byteCells acc ++ [Value.int .u8 z] = Lib.byteCells (acc ++ [s.data.toList.getD k 0]) := by rw [cells1, HZ2.out]
        rw [e3] at h3
        have H3 := hidQ h3
        have B3 := hidQ (HW.out.trans b3)
        clear h3 b3 e3
        go_wp2
        exact ⟨⟨k + 1, acc ++ [s.data.toList.getD k 0], by omega, by omega, by go_num, by simp; omega, HA4, H3, B3⟩, by simp [intOf]; omega⟩
    · have hke : k = s.size - 1 := by omega
      subst hke
      have hn : unquoteL s.data.toList = (acc, 0, ()) := by
        rw [HU.out, HA.out, insideD_end _ (k := s.size - 1) (Nat.le_refl (s.data.toList.length - 1))]
        simp [unq]
      have HN := hidQ hn
      have HZ := hidQ HW.out.size
      have hki : ((s.size - 1 : Nat) : Int) = (s.size : Int) - 1 := by omega
      rw [hki]
      clear hn hki
      go_wp2_with (go_at_call 126; refine (Any.Builder_String_any_f (ρ := Tryz.lays156_ren) { Tryz.lays156 with } Tryz.Builder_Extra_156 w.heap.size w.heap.size _ _ HB.out HZ.out).mono ?_)
      rintro e w4 ⟨rfl, _, b4⟩
      have B4 := hidQ (HW.out.trans b4)
      clear b4
      go_wp2
      go_ret2
      rw [HN.out]
      exact ⟨rfl, B4.out⟩
end Go.Proofs
namespace Go.Proofs.X
open Go Go.Dp
theorem wdY {gl : List (Nat × TV)} : Contract Tryz.prog gl 186 unquoteSpec := unquote_contract Tryz.call186 fun s w h => Tryz.items_Unquote s w h
end Go.Proofs.X
