/-
  A part of the proof. No condition.
-/
import Derived.Test.YtikiloknlchppaaGreatDoorWP9
/- Chapter 15 (vary): the reference's names and picks. No condition but on sizes. -/
set_option linter.unusedSimpArgs false
set_option linter.unusedVariables false
namespace Go.Proofs.X
open Go Go.Dp

theorem ins_mem (s k : List UInt8) : ∀ l : List (List UInt8), k ∈ ins s l ↔ k = s ∨ k ∈ l := by
  intro l
  induction l with
  | nil => simp [ins]
  | cons x r ih =>
    by_cases c : x < s
    · rw [ins, if_pos c, List.mem_cons, ih, List.mem_cons]
      constructor
      · rintro (h | h | h)
        · exact .inr (.inl h)
        · exact .inl h
        · exact .inr (.inr h)
      · rintro (h | h | h)
        · exact .inr (.inl h)
        · exact .inl h
        · exact .inr (.inr h)
    · by_cases c2 : x = s
      · rw [ins, if_neg c, if_pos c2, List.mem_cons]
        constructor
        · intro h; exact .inr h
        · rintro (h | h)
          · exact .inl (h.trans c2.symm)
          · exact h
      · rw [ins, if_neg c, if_neg c2, List.mem_cons]
theorem ins_pair (s : List UInt8) : ∀ l : List (List UInt8), l.Pairwise (· < ·) → (ins s l).Pairwise (· < ·) := by
  intro l
  induction l with
  | nil => intro _; simp [ins]
  | cons x r ih =>
    intro h
    have h' := List.pairwise_cons.1 h
    by_cases c : x < s
    · rw [ins, if_pos c, List.pairwise_cons]
      refine ⟨fun y hy => ?_, ih h'.2⟩
      rcases (ins_mem s y r).1 hy with rfl | hy
      · exact c
      · exact h'.1 y hy
    · by_cases c2 : x = s
      · rw [ins, if_neg c, if_pos c2]; exact h
      · rw [ins, if_neg c, if_neg c2, List.pairwise_cons]
        have hsx : s < x := by
          have h1 : s ≤ x := List.not_lt.1 c
          rcases List.le_iff_lt_or_eq.1 h1 with h2 | h2
          · exact h2
          · exact absurd h2.symm c2
        refine ⟨fun y hy => ?_, h⟩
        rcases List.mem_cons.1 hy with rfl | hy
        · exact hsx
        · exact List.lt_trans hsx (h'.1 y hy)
theorem ins_ord (s : List UInt8) (P : List (List UInt8)) : ins s (ord P) = ord (P ++ [s]) := by
  refine sorted_uniq _ _ (ins_pair s _ (ord_pair P)) (ord_pair _) fun k => ?_
  rw [ins_mem, ord_mem, ord_mem, List.mem_append, List.mem_singleton]
  exact or_comm

theorem ord_nil : ord [] = [] := by simp [ord, dd, srt]
theorem refN_l0 {K : Nat} (vs : List (List UInt8)) (ix : Int) (P : List (List UInt8)) (hP : ∀ x ∈ P, x.length < 1000000) (hPl : P.length < 900000000000) (xs : List (List UInt8)) (hx : ∀ x ∈ xs, x.length < 1000000) (hl : xs.length < 1000000) (hK : 1000000000000 + 100 ≤ K) :
    depotref15_Names.l0 K K ((ord P, (vs, (ix, (xs, (0, ()))))), ()) = some (if xs.all okT then .inl ((ord (P ++ xs.map lower), (vs, (ix, ()))), ()) else .inr (([], (false, ())), ())) := by
  have H := idx_rule (l := depotref15_Names.l0 K) (depotref15_Names.t0 K) (fun _ _ => rfl) xs.length
    (fun i => ((ord (P ++ (xs.take i).map lower), (vs, (ix, (xs, ((i : Int), ()))))), ())) (fun i => if (xs.drop i).all okT then .inl ((ord (P ++ xs.map lower), (vs, (ix, ()))), ()) else .inr (([], (false, ())), ())) ?_ K 0 (by omega) (by omega)
  · rw [List.drop_zero, List.take_zero, List.map_nil, List.append_nil] at H
    exact H
  · intro i rec hi ih
    by_cases h : i < xs.length
    · have hh : (i : Int) < (xs.length : Int) := by omega
      have w1 := wrapSucc (show i < 9223372036854775807 by omega)
      have hm := hx _ (getD_mem xs [] h)
      have ih' := ih h
      have hl1 := ref01_Lower_ok (K := K) (s := xs.getD i []) (by omega) (by omega)
      have ht := ref01_IsToken_ok (K := K) (s := xs.getD i []) (by omega) (by omega)
      have hlow : (lower (xs.getD i [])).length < 1000000 := by simpa [lower] using hm
      have hol := ord_len (P ++ (xs.take i).map lower)
      rw [List.length_append, List.length_map, List.length_take] at hol
      have hmin : min i xs.length ≤ i := Nat.min_le_left _ _
      have hp := put_ok (K := K) (l := ord (P ++ (xs.take i).map lower)) (s := lower (xs.getD i [])) (by omega) (fun x hx' => by
        rw [ord_mem, List.mem_append] at hx'
        rcases hx' with hx' | hx'
        · exact hP x hx'
        · obtain ⟨y, hy, rfl⟩ := List.mem_map.1 hx'
          have := hx y (List.mem_of_mem_take hy)
          simpa [lower] using this) hlow hK
      rw [ins_ord] at hp
      rw [take_get xs [] h, List.map_append, List.map_cons, List.map_nil, ← List.append_assoc] at ih'
      rw [drop_get xs [] h, List.all_cons]
      by_cases c1 : (xs.getD i [] == [42]) = true
      · have ho : okT (xs.getD i []) = false := by simp only [okT, c1, Bool.not_true, Bool.false_and]
        simp only [depotref15_Names.t0, bind_some', cond_true, cond_false, decide_true, decide_false, Bool.not_true, Bool.not_false, Bool.true_and, Bool.and_true, Bool.and_false, Bool.false_and, Int.toNat_natCast, Int.natCast_nonneg, if_true, if_false, Bool.false_eq_true, Int.toNat_zero, Int.natCast_zero, not_false_eq_true, not_true_eq_false, ite_true, ite_false, hh, c1, ho]
      · have c1 : (xs.getD i [] == [42]) = false := by simpa using c1
        cases c2 : isTok (xs.getD i []) with
        | false =>
          have ho : okT (xs.getD i []) = false := by simp only [okT, c2, Bool.and_false]
          simp only [depotref15_Names.t0, bind_some', cond_true, cond_false, decide_true, decide_false, Bool.not_true, Bool.not_false, Bool.true_and, Bool.and_true, Bool.and_false, Bool.false_and, Int.toNat_natCast, Int.natCast_nonneg, if_true, if_false, Bool.false_eq_true, Int.toNat_zero, Int.natCast_zero, not_false_eq_true, not_true_eq_false, ite_true, ite_false, hh, c1, ht, c2, ho]
        | true =>
          have ho : okT (xs.getD i []) = true := by simp only [okT, c1, c2, Bool.not_false, Bool.and_self]
          simp only [depotref15_Names.t0, bind_some', cond_true, cond_false, decide_true, decide_false, Bool.not_true, Bool.not_false, Bool.true_and, Bool.and_true, Bool.and_false, Bool.false_and, Int.toNat_natCast, Int.natCast_nonneg, if_true, if_false, Bool.false_eq_true, Int.toNat_zero, Int.natCast_zero, not_false_eq_true, not_true_eq_false, ite_true, ite_false, hh, c1, ht, c2, ho, hl1, hp, w1]
          exact ih'
    · have h2 : i = xs.length := by omega
      subst h2
      simp only [depotref15_Names.t0, bind_some', cond_true, cond_false, decide_true, decide_false, Bool.not_true, Bool.not_false, Bool.true_and, Bool.and_true, Bool.and_false, Bool.false_and, Int.toNat_natCast, Int.natCast_nonneg, if_true, if_false, Bool.false_eq_true, Int.toNat_zero, Int.natCast_zero, not_false_eq_true, not_true_eq_false, ite_true, ite_false, Int.lt_irrefl, List.take_length, List.drop_length, List.all_nil]
theorem toks_mem {m : Nat} {vs : List (List UInt8)} (hv : ∀ v ∈ vs, v.length ≤ m) : ∀ k ∈ toks vs, k.length ≤ m := by
  intro k hk
  obtain ⟨v, hvm, hk⟩ := List.mem_flatMap.1 hk
  obtain ⟨x, hx, rfl⟩ := List.mem_map.1 hk
  have h3 := splitS_items v x hx
  have h4 := hv v hvm
  simp only [lower, List.length_map]
  omega
theorem ref15_Names_ok {K : Nat} {l : List Fld} (h : sized l) (hK : 1000000000000 + 100 ≤ K) : depotref15_Names K l = some (namesO l) := by
  have hlen := h.1
  have h3 := allOf_len l hV
  have hb : ∀ v ∈ allOf l hV, v.length ≤ 99999 := allOf_mem fun f hf => by have := (h.2 f hf).2; omega
  have hA : depotref09_All K l [86, 97, 114, 121] = some (allOf l hV) := ref09_All_ok h.1 (fun f hf => by have := (h.2 f hf).1; omega) (name := hV) (by decide) (by omega)
  have H := idx_rule (l := depotref15_Names.l1 K) (depotref15_Names.t1 (depotref15_Names.l0 K) K) (fun _ _ => rfl) (allOf l hV).length
    (fun i => ((ord (toks ((allOf l hV).take i)), (allOf l hV, ((i : Int), ()))), ())) (fun i => if ((allOf l hV).drop i).all goodV then .inl ((ord (toks (allOf l hV)), ()), ()) else .inr (([], (false, ())), ())) ?_ K 0 (by omega) (by omega)
  · rw [List.drop_zero, List.take_zero, show toks [] = [] from rfl, ord_nil] at H
    simp only [depotref15_Names, depotref15_Names.tr, hA, bind_some', cond_true, cond_false, decide_true, decide_false, Bool.not_true, Bool.not_false, Bool.true_and, Bool.and_true, Bool.and_false, Bool.false_and, Int.toNat_natCast, Int.natCast_nonneg, if_true, if_false, Bool.false_eq_true, Int.toNat_zero, Int.natCast_zero, not_false_eq_true, not_true_eq_false, ite_true, ite_false]
    change Option.bind (depotref15_Names.l1 K K (([], (allOf l hV, (((0 : Nat) : Int), ()))), ())) _ = _
    rw [H, namesO, namesV]
    cases (allOf l hV).all goodV <;> rfl
  · generalize allOf l hV = vs at hb h3
    intro i rec hi ih
    by_cases h : i < vs.length
    · have hh : (i : Int) < (vs.length : Int) := by omega
      have w1 := wrapSucc (show i < 9223372036854775807 by omega)
      have hm := hb _ (getD_mem vs [] h)
      have ih' := ih h
      have hsc := splitS_count (vs.getD i [])
      have hsi := splitS_items (vs.getD i [])
      have hs := ref06_Split_ok (K := K) (s := vs.getD i []) (by omega) (by omega)
      have et : toks (vs.take (i + 1)) = toks (vs.take i) ++ (splitS (vs.getD i [])).1.map lower := by rw [take_get vs [] h]; simp [toks]
      have htl := toks_len (m := 99999) (vs.take i) fun v hv => hb v (List.mem_of_mem_take hv)
      have hti : (vs.take i).length ≤ i := by simp; omega
      have hmul : (vs.take i).length * (99999 + 1) ≤ 1000000 * 100000 := Nat.mul_le_mul (by omega) (by omega)
      have h0 := refN_l0 (K := K) vs (i : Int) (toks (vs.take i)) (fun x hx => by have := toks_mem (fun v hv => hb v (List.mem_of_mem_take hv)) x hx; omega) (by omega) (splitS (vs.getD i [])).1 (fun x hx => by have := hsi x hx; omega) (by omega) hK
      rw [← et] at h0
      rw [drop_get vs [] h, List.all_cons]
      by_cases c1 : (splitS (vs.getD i [])).2.1 = 0
      · cases c2 : (splitS (vs.getD i [])).1.all okT with
        | false =>
          have ho : goodV (vs.getD i []) = false := by simp only [goodV, c2, Bool.and_false]
          rw [c2] at h0
          simp only [depotref15_Names.t1, bind_some', cond_true, cond_false, decide_true, decide_false, Bool.not_true, Bool.not_false, Bool.true_and, Bool.and_true, Bool.and_false, Bool.false_and, Int.toNat_natCast, Int.natCast_nonneg, if_true, if_false, Bool.false_eq_true, Int.toNat_zero, Int.natCast_zero, not_false_eq_true, not_true_eq_false, ite_true, ite_false, hh, hs, c1, h0, ho]
        | true =>
          have ho : goodV (vs.getD i []) = true := by simp only [goodV, c1, c2, decide_true, Bool.and_self]
          rw [c2] at h0
          simp only [depotref15_Names.t1, bind_some', cond_true, cond_false, decide_true, decide_false, Bool.not_true, Bool.not_false, Bool.true_and, Bool.and_true, Bool.and_false, Bool.false_and, Int.toNat_natCast, Int.natCast_nonneg, if_true, if_false, Bool.false_eq_true, Int.toNat_zero, Int.natCast_zero, not_false_eq_true, not_true_eq_false, ite_true, ite_false, hh, hs, c1, h0, ho, w1]
          exact ih'
      · have ho : goodV (vs.getD i []) = false := by simp only [goodV, c1, decide_false, Bool.false_and]
        simp only [depotref15_Names.t1, bind_some', cond_true, cond_false, decide_true, decide_false, Bool.not_true, Bool.not_false, Bool.true_and, Bool.and_true, Bool.and_false, Bool.false_and, Int.toNat_natCast, Int.natCast_nonneg, if_true, if_false, Bool.false_eq_true, Int.toNat_zero, Int.natCast_zero, not_false_eq_true, not_true_eq_false, ite_true, ite_false, hh, hs, c1, ho]
    · have h2 : i = vs.length := by omega
      subst h2
      simp only [depotref15_Names.t1, bind_some', cond_true, cond_false, decide_true, decide_false, Bool.not_true, Bool.not_false, Bool.true_and, Bool.and_true, Bool.and_false, Bool.false_and, Int.toNat_natCast, Int.natCast_nonneg, if_true, if_false, Bool.false_eq_true, Int.toNat_zero, Int.natCast_zero, not_false_eq_true, not_true_eq_false, ite_true, ite_false, Int.lt_irrefl, List.take_length, List.drop_length, List.all_nil]

/-! Blanks. -/
theorem ub_32 (b : UInt8) : ((b.toNat : Int) = 32) = (b = 32) := by
  have := ub_ne b 32
  exact propext ⟨fun h => by have h2 : decide ((b.toNat : Int) = ((32 : UInt8).toNat : Int)) = true := decide_eq_true h; rw [this] at h2; exact of_decide_eq_true h2, fun h => by subst h; rfl⟩
theorem ub_9 (b : UInt8) : ((b.toNat : Int) = 9) = (b = 9) := by
  have := ub_ne b 9
  exact propext ⟨fun h => by have h2 : decide ((b.toNat : Int) = ((9 : UInt8).toNat : Int)) = true := decide_eq_true h; rw [this] at h2; exact of_decide_eq_true h2, fun h => by subst h; rfl⟩
def pb (s : List UInt8) (i : Nat) : Bool := decide (i ≠ 0) && (decide (s.getD (i - 1) 0 = 32) || decide (s.getD (i - 1) 0 = 9))
theorem pb_t {s : List UInt8} {i : Nat} (c0 : i ≠ 0) (h : s.getD (i - 1) 0 = 32 ∨ s.getD (i - 1) 0 = 9) : pb s i = true := by
  unfold pb
  rcases h with h | h <;> rw [h, decide_eq_true c0] <;> rfl
theorem pb_f {s : List UInt8} {i : Nat} (h1 : ¬ s.getD (i - 1) 0 = 32) (h2 : ¬ s.getD (i - 1) 0 = 9) : pb s i = false := by
  unfold pb
  rw [decide_eq_false h1, decide_eq_false h2]; simp only [Bool.or_self, Bool.and_false]
theorem ref15_single_ok {K : Nat} {s : List UInt8} (hs : s.length < 1000000) (hK : 1000000 + 100 ≤ K) : depotref15_single K s = some (sgl s) := by
  have H := loop_ex (l := depotref15_single.l0 K) (depotref15_single.t0 K) (fun _ _ => rfl)
    (fun x => ∃ (i : Nat) (out : List UInt8), x = ((s, (out, ((i : Int), ()))), ()) ∧ i ≤ s.length ∧ out.length ≤ i ∧ out ++ col (pb s i) ((s.drop i).map tb) = sgl s)
    (fun x => s.length - x.1.2.2.1.toNat)
    (fun r => r = ((sgl s, ()), ())) ?_ K ((s, ([], (0, ()))), ()) ⟨0, [], rfl, by omega, by simp, by simp [pb, sgl]⟩ (by simp; omega)
  · obtain ⟨r, h1, rfl⟩ := H
    simp only [depotref15_single, depotref15_single.tr, h1, bind_some', cond_true, cond_false, decide_true, decide_false, Bool.not_true, Bool.not_false, Bool.true_and, Bool.and_true, Bool.and_false, Bool.false_and, Int.toNat_natCast, Int.natCast_nonneg, if_true, if_false, Bool.false_eq_true, Int.toNat_zero, Int.natCast_zero, not_false_eq_true, not_true_eq_false, ite_true, ite_false]
  · rintro x rec ⟨i, out, rfl, hi, ho, hf⟩ ih
    by_cases h : i < s.length
    · have hh : (i : Int) < (s.length : Int) := by omega
      have hh1 : ((i + 1 : Nat) : Int) ≤ (s.length : Int) := by omega
      have hh2 : (i : Int) ≤ ((i + 1 : Nat) : Int) := by omega
      have w1 := wrapSucc (show i < 9223372036854775807 by omega)
      have hcut : cut s i (i + 1) = [s.getD i 0] := by rw [cut_succ s 0 (Nat.le_refl i) h, cut_self]; rfl
      have hr : out.length + ([s.getD i 0] : List UInt8).length ≤ maxRoom := by rw [List.length_singleton]; simp only [maxRoom]; omega
      have hr1 : out.length + 1 ≤ maxRoom := by simp only [maxRoom]; omega
      rw [drop_get s 0 h, List.map_cons] at hf
      have n32 : ¬ ((9 : UInt8) = 32) := by decide
      have key : ∀ out' : List UInt8, out'.length ≤ i + 1 → out' ++ col (pb s (i + 1)) ((s.drop (i + 1)).map tb) = sgl s → ∃ r, rec ((s, (out', (((i + 1 : Nat) : Int), ()))), ()) = some r ∧ r = ((sgl s, ()), ()) := fun out' h1 h2 => ih _ ⟨i + 1, out', rfl, by omega, h1, h2⟩ (by simp; omega)
      have hpb : pb s (i + 1) = (decide (s.getD i 0 = 32) || decide (s.getD i 0 = 9)) := by simp [pb]
      rw [hpb] at key
      by_cases c1 : s.getD i 0 = 32
      · have e : tb (s.getD i 0) = 32 := by rw [c1]; rfl
        rw [e, col, if_pos rfl] at hf
        simp only [c1, decide_true, Bool.true_or] at key
        by_cases c0 : i = 0
        · subst c0
          have hp0 : pb s 0 = false := by simp [pb]
          rw [hp0] at hf
          have hz : ((0 : Nat) : Int) = 0 := rfl
          rw [hz] at hh w1
          simp only [depotref15_single.t0, bind_some', cond_true, cond_false, decide_true, decide_false, Bool.not_true, Bool.not_false, Bool.true_and, Bool.and_true, Bool.and_false, Bool.false_and, Int.toNat_natCast, Int.natCast_nonneg, if_true, if_false, Bool.false_eq_true, Int.toNat_zero, Int.natCast_zero, not_false_eq_true, not_true_eq_false, ite_true, ite_false, hz, hh, ub_32, c1, hr1, w1, eq_self, Int.le_refl]
          exact key _ (by rw [List.length_append, List.length_singleton]; omega) (by rw [← hf]; simp)
        · have hz : ¬ (i : Int) = 0 := by omega
          have w2 : IntKind.wrap .i64 ((i : Int) - 1) = ((i - 1 : Nat) : Int) := by rw [wrap64 (by omega) (by omega)]; omega
          have hh3 : ((i - 1 : Nat) : Int) < (s.length : Int) := by omega
          by_cases d1 : s.getD (i - 1) 0 = 32
          · have hp0 : pb s i = true := pb_t c0 (.inl d1)
            rw [hp0, if_pos rfl] at hf
            simp only [depotref15_single.t0, bind_some', cond_true, cond_false, decide_true, decide_false, Bool.not_true, Bool.not_false, Bool.true_and, Bool.and_true, Bool.and_false, Bool.false_and, Int.toNat_natCast, Int.natCast_nonneg, if_true, if_false, Bool.false_eq_true, Int.toNat_zero, Int.natCast_zero, not_false_eq_true, not_true_eq_false, ite_true, ite_false, hh, ub_32, c1, hz, w2, hh3, d1, w1]
            exact key _ (by omega) hf
          · by_cases d2 : s.getD (i - 1) 0 = 9
            · have hp0 : pb s i = true := pb_t c0 (.inr d2)
              rw [hp0, if_pos rfl] at hf
              simp only [depotref15_single.t0, bind_some', cond_true, cond_false, decide_true, decide_false, Bool.not_true, Bool.not_false, Bool.true_and, Bool.and_true, Bool.and_false, Bool.false_and, Int.toNat_natCast, Int.natCast_nonneg, if_true, if_false, Bool.false_eq_true, Int.toNat_zero, Int.natCast_zero, not_false_eq_true, not_true_eq_false, ite_true, ite_false, hh, ub_32, ub_9, c1, hz, w2, hh3, d1, d2, n32, w1]
              exact key _ (by omega) hf
            · have hp0 : pb s i = false := pb_f d1 d2
              rw [hp0, if_neg (by simp)] at hf
              simp only [depotref15_single.t0, bind_some', cond_true, cond_false, decide_true, decide_false, Bool.not_true, Bool.not_false, Bool.true_and, Bool.and_true, Bool.and_false, Bool.false_and, Int.toNat_natCast, Int.natCast_nonneg, if_true, if_false, Bool.false_eq_true, Int.toNat_zero, Int.natCast_zero, not_false_eq_true, not_true_eq_false, ite_true, ite_false, hh, ub_32, ub_9, c1, hz, w2, hh3, d1, d2, hr1, w1]
              exact key _ (by rw [List.length_append, List.length_singleton]; omega) (by rw [← hf]; simp)
      · by_cases c2 : s.getD i 0 = 9
        · have e : tb (s.getD i 0) = 32 := by rw [c2]; rfl
          rw [e, col, if_pos rfl] at hf
          simp only [c2, decide_true, Bool.or_true] at key
          by_cases c0 : i = 0
          · subst c0
            have hp0 : pb s 0 = false := by simp [pb]
            rw [hp0] at hf
            have hz : ((0 : Nat) : Int) = 0 := rfl
            rw [hz] at hh w1
            simp only [depotref15_single.t0, bind_some', cond_true, cond_false, decide_true, decide_false, Bool.not_true, Bool.not_false, Bool.true_and, Bool.and_true, Bool.and_false, Bool.false_and, Int.toNat_natCast, Int.natCast_nonneg, if_true, if_false, Bool.false_eq_true, Int.toNat_zero, Int.natCast_zero, not_false_eq_true, not_true_eq_false, ite_true, ite_false, hz, hh, ub_32, ub_9, c2, n32, hr1, w1, eq_self, Int.le_refl]
            exact key _ (by rw [List.length_append, List.length_singleton]; omega) (by rw [← hf]; simp)
          · have hz : ¬ (i : Int) = 0 := by omega
            have w2 : IntKind.wrap .i64 ((i : Int) - 1) = ((i - 1 : Nat) : Int) := by rw [wrap64 (by omega) (by omega)]; omega
            have hh3 : ((i - 1 : Nat) : Int) < (s.length : Int) := by omega
            by_cases d1 : s.getD (i - 1) 0 = 32
            · have hp0 : pb s i = true := pb_t c0 (.inl d1)
              rw [hp0, if_pos rfl] at hf
              simp only [depotref15_single.t0, bind_some', cond_true, cond_false, decide_true, decide_false, Bool.not_true, Bool.not_false, Bool.true_and, Bool.and_true, Bool.and_false, Bool.false_and, Int.toNat_natCast, Int.natCast_nonneg, if_true, if_false, Bool.false_eq_true, Int.toNat_zero, Int.natCast_zero, not_false_eq_true, not_true_eq_false, ite_true, ite_false, hh, ub_32, ub_9, c2, n32, hz, w2, hh3, d1, w1]
              exact key _ (by omega) hf
            · by_cases d2 : s.getD (i - 1) 0 = 9
              · have hp0 : pb s i = true := pb_t c0 (.inr d2)
                rw [hp0, if_pos rfl] at hf
                simp only [depotref15_single.t0, bind_some', cond_true, cond_false, decide_true, decide_false, Bool.not_true, Bool.not_false, Bool.true_and, Bool.and_true, Bool.and_false, Bool.false_and, Int.toNat_natCast, Int.natCast_nonneg, if_true, if_false, Bool.false_eq_true, Int.toNat_zero, Int.natCast_zero, not_false_eq_true, not_true_eq_false, ite_true, ite_false, hh, ub_32, ub_9, c2, n32, hz, w2, hh3, d1, d2, w1]
                exact key _ (by omega) hf
              · have hp0 : pb s i = false := pb_f d1 d2
                rw [hp0, if_neg (by simp)] at hf
                simp only [depotref15_single.t0, bind_some', cond_true, cond_false, decide_true, decide_false, Bool.not_true, Bool.not_false, Bool.true_and, Bool.and_true, Bool.and_false, Bool.false_and, Int.toNat_natCast, Int.natCast_nonneg, if_true, if_false, Bool.false_eq_true, Int.toNat_zero, Int.natCast_zero, not_false_eq_true, not_true_eq_false, ite_true, ite_false, hh, ub_32, ub_9, c2, n32, hz, w2, hh3, d1, d2, hr1, w1]
                exact key _ (by rw [List.length_append, List.length_singleton]; omega) (by rw [← hf]; simp)
        · have e : tb (s.getD i 0) = s.getD i 0 := by simp only [tb, c2, if_false]
          rw [e, col, if_neg c1] at hf
          simp only [c1, c2, decide_false, Bool.or_self] at key
          simp only [depotref15_single.t0, bind_some', cond_true, cond_false, decide_true, decide_false, Bool.not_true, Bool.not_false, Bool.true_and, Bool.and_true, Bool.and_false, Bool.false_and, Int.toNat_natCast, Int.natCast_nonneg, if_true, if_false, Bool.false_eq_true, Int.toNat_zero, Int.natCast_zero, not_false_eq_true, not_true_eq_false, ite_true, ite_false, hh, hh1, hh2, ub_32, ub_9, c1, c2, w1, hcut, hr]
          exact key _ (by rw [List.length_append, List.length_singleton]; omega) (by rw [← hf]; simp)
    · have h2 : i = s.length := by omega
      subst h2
      rw [List.drop_length, List.map_nil, col, List.append_nil] at hf
      subst hf
      simp only [depotref15_single.t0, bind_some', cond_true, cond_false, decide_true, decide_false, Bool.not_true, Bool.not_false, Bool.true_and, Bool.and_true, Bool.and_false, Bool.false_and, Int.toNat_natCast, Int.natCast_nonneg, if_true, if_false, Bool.false_eq_true, Int.toNat_zero, Int.natCast_zero, not_false_eq_true, not_true_eq_false, ite_true, ite_false, Int.lt_irrefl]
      exact ⟨_, rfl, rfl⟩
end Go.Proofs.X

