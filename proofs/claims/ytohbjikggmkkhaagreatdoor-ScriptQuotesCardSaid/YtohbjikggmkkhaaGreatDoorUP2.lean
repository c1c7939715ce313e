/-
  A part of the proof. No condition.
-/
import Derived.Test.YtohbjikggmkkhaaGreatDoorUP1
/- Quoted texts read back: what the printed functions give. No condition. -/
set_option linter.unusedSimpArgs false
set_option linter.unusedVariables false
namespace Go.Proofs.X
open Go Go.Dp

def hv (b : UInt8) : Int × Bool × Unit := (octet_Hex 5000 (b.toNat : Int)).getD (0, false, ())
theorem hv_facts : (List.range 256).all (fun n => decide (octet_Hex 5000 ((UInt8.ofNat n).toNat : Int) = some (hv (UInt8.ofNat n))) && decide (depotref01_Hex 5000 ((UInt8.ofNat n).toNat : Int) = some (hv (UInt8.ofNat n))) && decide (0 ≤ (hv (UInt8.ofNat n)).1) && decide ((hv (UInt8.ofNat n)).1 < 16)) = true := by kernel_rfl
theorem hv_fact (b : UInt8) : octet_Hex 5000 (b.toNat : Int) = some (hv b) ∧ depotref01_Hex 5000 (b.toNat : Int) = some (hv b) ∧ 0 ≤ (hv b).1 ∧ (hv b).1 < 16 := by
  have := forall_byte (p := fun b => decide (octet_Hex 5000 (b.toNat : Int) = some (hv b)) && decide (depotref01_Hex 5000 (b.toNat : Int) = some (hv b)) && decide (0 ≤ (hv b).1) && decide ((hv b).1 < 16)) hv_facts b
  simp only [Bool.and_eq_true, decide_eq_true_eq] at this
  exact ⟨this.1.1.1, this.1.1.2, this.1.2, this.2⟩

/-- The byte that stands at the beginning, and how many stand for it. -/
def esc (u : List UInt8) : Int × Int :=
  if u.length = 0 then (0, 0) else
  if (u.getD 0 0).toNat < 32 ∨ 126 < (u.getD 0 0).toNat ∨ u.getD 0 0 = 34 then (0, 0) else
  if ¬ u.getD 0 0 = 92 then (((u.getD 0 0).toNat : Int), 1) else
  if u.length < 2 then (0, 0) else
  if u.getD 1 0 = 114 then (13, 2) else if u.getD 1 0 = 110 then (10, 2) else if u.getD 1 0 = 116 then (9, 2) else if u.getD 1 0 = 34 then (34, 2) else if u.getD 1 0 = 92 then (92, 2) else
  if ¬ u.getD 1 0 = 120 ∨ u.length < 4 then (0, 0) else
  if (hv (u.getD 2 0)).2.1 = true ∧ (hv (u.getD 3 0)).2.1 = true then (16 * (hv (u.getD 2 0)).1 + (hv (u.getD 3 0)).1, 4) else (0, 0)

theorem marks_loop (u : List UInt8) (h : 2 ≤ u.length) : script_unescaped.l0 5000 5000 ((u, (([(13, (114, ())), (10, (110, ())), (9, (116, ())), (34, (34, ())), (92, (92, ()))] : List (Int × Int × Unit)), (5, (0, ())))), ()) =
    some (if u.getD 1 0 = 114 then .inr ((13, (2, ())), ()) else if u.getD 1 0 = 110 then .inr ((10, (2, ())), ()) else if u.getD 1 0 = 116 then .inr ((9, (2, ())), ()) else if u.getD 1 0 = 34 then .inr ((34, (2, ())), ()) else if u.getD 1 0 = 92 then .inr ((92, (2, ())), ()) else .inl ((u, ()), ())) := by
  have hh : (1 : Int) < (u.length : Int) := by omega
  have u1 : ∀ n x, script_unescaped.l0 5000 (n + 1) x = script_unescaped.t0 5000 (script_unescaped.l0 5000 n) x := fun _ _ => rfl
  generalize hb : u.getD 1 0 = b
  have e1 : ((114 : Int) = (b.toNat : Int)) ↔ b = 114 := by rw [eq_comm]; exact byteN b 114 (by decide)
  have e2 : ((110 : Int) = (b.toNat : Int)) ↔ b = 110 := by rw [eq_comm]; exact byteN b 110 (by decide)
  have e3 : ((116 : Int) = (b.toNat : Int)) ↔ b = 116 := by rw [eq_comm]; exact byteN b 116 (by decide)
  have e4 : ((34 : Int) = (b.toNat : Int)) ↔ b = 34 := by rw [eq_comm]; exact byteN b 34 (by decide)
  have e5 : ((92 : Int) = (b.toNat : Int)) ↔ b = 92 := by rw [eq_comm]; exact byteN b 92 (by decide)
  have w0 : IntKind.wrap .i64 1 = 1 := by kernel_rfl
  have w1 : IntKind.wrap .i64 2 = 2 := by kernel_rfl
  have w2 : IntKind.wrap .i64 3 = 3 := by kernel_rfl
  have w3 : IntKind.wrap .i64 4 = 4 := by kernel_rfl
  have w4 : IntKind.wrap .i64 5 = 5 := by kernel_rfl
  have k1 : Int.toNat 1 = 1 := rfl
  have g1 : ∀ rec, script_unescaped.t0 5000 rec ((u, (([(13, (114, ())), (10, (110, ())), (9, (116, ())), (34, (34, ())), (92, (92, ()))] : List (Int × Int × Unit)), (5, (0, ())))), ()) = if b = 114 then some (.inr ((13, (2, ())), ())) else rec ((u, (([(13, (114, ())), (10, (110, ())), (9, (116, ())), (34, (34, ())), (92, (92, ()))] : List (Int × Int × Unit)), (5, (1, ())))), ()) := by
    intro rec
    by_cases c : b = 114 <;> simp [-List.getD_eq_getElem?_getD, script_unescaped.t0, k1, hb, hh, e1, c, w0, List.getD_cons_zero, List.getD_cons_succ]
  have g2 : ∀ rec, script_unescaped.t0 5000 rec ((u, (([(13, (114, ())), (10, (110, ())), (9, (116, ())), (34, (34, ())), (92, (92, ()))] : List (Int × Int × Unit)), (5, (1, ())))), ()) = if b = 110 then some (.inr ((10, (2, ())), ())) else rec ((u, (([(13, (114, ())), (10, (110, ())), (9, (116, ())), (34, (34, ())), (92, (92, ()))] : List (Int × Int × Unit)), (5, (2, ())))), ()) := by
    intro rec
    by_cases c : b = 110 <;> simp [-List.getD_eq_getElem?_getD, script_unescaped.t0, k1, hb, hh, e2, c, w1, List.getD_cons_zero, List.getD_cons_succ]
  have g3 : ∀ rec, script_unescaped.t0 5000 rec ((u, (([(13, (114, ())), (10, (110, ())), (9, (116, ())), (34, (34, ())), (92, (92, ()))] : List (Int × Int × Unit)), (5, (2, ())))), ()) = if b = 116 then some (.inr ((9, (2, ())), ())) else rec ((u, (([(13, (114, ())), (10, (110, ())), (9, (116, ())), (34, (34, ())), (92, (92, ()))] : List (Int × Int × Unit)), (5, (3, ())))), ()) := by
    intro rec
    by_cases c : b = 116 <;> simp [-List.getD_eq_getElem?_getD, script_unescaped.t0, k1, hb, hh, e3, c, w2, List.getD_cons_zero, List.getD_cons_succ]
  have g4 : ∀ rec, script_unescaped.t0 5000 rec ((u, (([(13, (114, ())), (10, (110, ())), (9, (116, ())), (34, (34, ())), (92, (92, ()))] : List (Int × Int × Unit)), (5, (3, ())))), ()) = if b = 34 then some (.inr ((34, (2, ())), ())) else rec ((u, (([(13, (114, ())), (10, (110, ())), (9, (116, ())), (34, (34, ())), (92, (92, ()))] : List (Int × Int × Unit)), (5, (4, ())))), ()) := by
    intro rec
    by_cases c : b = 34 <;> simp [-List.getD_eq_getElem?_getD, script_unescaped.t0, k1, hb, hh, e4, c, w3, List.getD_cons_zero, List.getD_cons_succ]
  have g5 : ∀ rec, script_unescaped.t0 5000 rec ((u, (([(13, (114, ())), (10, (110, ())), (9, (116, ())), (34, (34, ())), (92, (92, ()))] : List (Int × Int × Unit)), (5, (4, ())))), ()) = if b = 92 then some (.inr ((92, (2, ())), ())) else rec ((u, (([(13, (114, ())), (10, (110, ())), (9, (116, ())), (34, (34, ())), (92, (92, ()))] : List (Int × Int × Unit)), (5, (5, ())))), ()) := by
    intro rec
    by_cases c : b = 92 <;> simp [-List.getD_eq_getElem?_getD, script_unescaped.t0, k1, hb, hh, e5, c, w4, List.getD_cons_zero, List.getD_cons_succ]
  have g6 : ∀ rec, script_unescaped.t0 5000 rec ((u, (([(13, (114, ())), (10, (110, ())), (9, (116, ())), (34, (34, ())), (92, (92, ()))] : List (Int × Int × Unit)), (5, (5, ())))), ()) = some (.inl ((u, ()), ())) := by
    intro rec
    simp [script_unescaped.t0]
  rw [u1 4999, g1, u1 4998, g2, u1 4997, g3, u1 4996, g4, u1 4995, g5, u1 4994, g6]
  repeat' split
  all_goals rfl

theorem unescaped_ok (u : List UInt8) (hu : u.length ≤ 2000) : script_unescaped 5000 u = some ((esc u).1, ((esc u).2, ())) := by
  unfold script_unescaped script_unescaped.tr
  by_cases h0 : u.length = 0
  · have : u = [] := List.eq_nil_of_length_eq_zero h0
    subst this
    simp [esc]
  have hne : ¬ u = [] := fun e => h0 (by rw [e]; rfl)
  have hp : (0 : Int) < (u.length : Int) := by omega
  have hpN : 0 < u.length := by omega
  have hbeq : (u == ([] : List UInt8)) = false := by simp [hne]
  have k0 : Int.toNat 0 = 0 := rfl
  generalize hb : u.getD 0 0 = b
  have d1 : decide ((b.toNat : Int) < 32) = decide (b.toNat < 32) := by rw [decide_eq_decide]; omega
  have d2 : decide ((b.toNat : Int) > 126) = decide (126 < b.toNat) := by rw [decide_eq_decide]; omega
  have e34 := byte34 b
  have e92 := byte92 b
  have hE : esc u = if b.toNat < 32 ∨ 126 < b.toNat ∨ b = 34 then (0, 0) else
      if ¬ b = 92 then ((b.toNat : Int), 1) else
      if u.length < 2 then (0, 0) else
      if u.getD 1 0 = 114 then (13, 2) else if u.getD 1 0 = 110 then (10, 2) else if u.getD 1 0 = 116 then (9, 2) else if u.getD 1 0 = 34 then (34, 2) else if u.getD 1 0 = 92 then (92, 2) else
      if ¬ u.getD 1 0 = 120 ∨ u.length < 4 then (0, 0) else
      if (hv (u.getD 2 0)).2.1 = true ∧ (hv (u.getD 3 0)).2.1 = true then (16 * (hv (u.getD 2 0)).1 + (hv (u.getD 3 0)).1, 4) else (0, 0) := by
    unfold esc; rw [if_neg h0, hb]
  rw [hE]
  clear hE
  simp only [k0, hb, d1, d2, e34, e92, hbeq, hp, Bool.not_false, decide_true, Bool.and_true, cond_true, Int.le_refl]
  by_cases c1 : b.toNat < 32
  · simp [c1]
  by_cases c2 : 126 < b.toNat
  · simp [c1, c2]
  by_cases c3 : b = 34
  · simp [c1, c2, c3]
  by_cases c4 : b = 92
  · by_cases c5 : u.length < 2
    · have c5' : (u.length : Int) < 2 := by omega
      simp [-List.getD_eq_getElem?_getD, k0, hb, e92, e34, c1, c2, c3, c4, c5, c5', hp, hpN]
    · have c5' : ¬ (u.length : Int) < 2 := by omega
      have hl := marks_loop u (by omega)
      have h1 : (1 : Int) < (u.length : Int) := by omega
      have k1 : Int.toNat 1 = 1 := rfl
      have k2 : Int.toNat 2 = 2 := rfl
      have k3 : Int.toNat 3 = 3 := rfl
      have hm : script_marks 5000 = some [(13, (114, ())), (10, (110, ())), (9, (116, ())), (34, (34, ())), (92, (92, ()))] := rfl
      have h00 : ((0 : Nat) ≤ 0) = True := by simp
      have hc4 : decide (b = 92) = true := decide_eq_true c4
      simp only [c1, c2, c3, decide_false, Bool.not_false, cond_true, bind_some', cond_false, hp, decide_true, hb, e92, hc4, Bool.not_true, c5', hm, List.length_cons, List.length_nil, h00, Bool.and_true, k0]
      rw [show (((0 + 1 + 1 + 1 + 1 + 1 : Nat)) : Int) = 5 from rfl, hl]
      generalize hd : u.getD 1 0 = d
      have e120 : ((d.toNat : Int) = 120) ↔ d = 120 := byteN d 120 (by decide)
      by_cases d1 : d = 114
      · simp [c4, d1, c5]
      by_cases d2 : d = 110
      · simp [c4, d1, d2, c5]
      by_cases d3 : d = 116
      · simp [c4, d1, d2, d3, c5]
      by_cases d4 : d = 34
      · simp [c4, d4, c5]
      by_cases d5 : d = 92
      · simp [c4, d5, c5]
      by_cases d6 : d = 120
      · by_cases c6 : u.length < 4
        · have c6' : (u.length : Int) < 4 := by omega
          simp [-List.getD_eq_getElem?_getD, c4, d1, d2, d3, d4, d5, d6, c5, c6, c6', k1, hd, h1, e120]
        · have c6' : ¬ (u.length : Int) < 4 := by omega
          obtain ⟨a1, _, a3, a4⟩ := hv_fact (u.getD 2 0)
          obtain ⟨b1, _, b3, b4⟩ := hv_fact (u.getD 3 0)
          have h2 : (2 : Int) < (u.length : Int) := by omega
          have h3 : (3 : Int) < (u.length : Int) := by omega
          generalize hv (u.getD 2 0) = A at a1 a3 a4 ⊢
          generalize hv (u.getD 3 0) = B at b1 b3 b4 ⊢
          have w1 : IntKind.wrap .i64 (16 * A.1) = 16 * A.1 := by rw [wrap64] <;> omega
          have w2 : IntKind.wrap .i64 (16 * A.1 + B.1) = 16 * A.1 + B.1 := by rw [wrap64] <;> omega
          have w3 : IntKind.wrap .u8 (16 * A.1 + B.1) = 16 * A.1 + B.1 := by rw [wrap8] <;> omega
          cases hA : A.2.1 <;> cases hB : B.2.1 <;> simp [-List.getD_eq_getElem?_getD, c4, d1, d2, d3, d4, d5, d6, c5, c6, c6', k1, k2, k3, hd, h1, h2, h3, e120, a1, b1, hA, hB, w1, w2, w3]
      · simp [-List.getD_eq_getElem?_getD, c4, d1, d2, d3, d4, d5, d6, c5, k1, hd, h1, e120]
  · simp [-List.getD_eq_getElem?_getD, k0, hb, e92, c1, c2, c3, c4, hp, hpN]
end Go.Proofs.X

