/- The given row and card of the law ReuseShared, out of what its plain Lean function gives. No condition beyond the card. -/
import Derived.Test.YtkfffmpnmoiikaaGreatDoorUG2
import Derived.Test.YtkfffmpnmoiikaaGreatDoorFc
import Derived.Test.YtkfffmpnmoiikaaGreatDoorULs
import Derived.Test.YtkfffmpnmoiikaaGreatDoorRows
import Derived.Test.YtkfffmpnmoiikaaGreatDoorCards
import Derived.Test.YtkfffmpnmoiikaaGreatDoorTie
import Derived.ProofKit
import Derived.LaidMore
import Derived.Lay
import Derived.OpenShut
import Derived.Stop.Joined
import Derived.SevenTiedAt
import Derived.ChangeOld
import Derived.Below
import Derived.SizedLaws
import Derived.WalkKit
import Derived.ShutString
namespace Go.Proofs.YtkfffmpnmoiikaaGreatDoor.ReuseShared
open Go Go.ChangeShapes Go.WideShapes Go.ChangeAt Go.RowKit Go.Dp
set_option linter.unusedVariables false

theorem own : ownKnob Tryz.prog.godebug = none := by kernel_rfl
theorem laidOut : laidOutB Tryz.prog = true := by kernel_rfl
def laid : List (String × DataW Unit) := [("math/bits.deBruijn32tab", Rows.laid_math_bits_deBruijn32tab), ("math/bits.deBruijn64tab", Rows.laid_math_bits_deBruijn64tab), ("internal/strconv.uint64pow10", Rows.laid_internal_strconv_uint64pow10), ("unicode/utf8.acceptRanges", Rows.laid_unicode_utf8_acceptRanges), ("depot/date.days", Rows.laid_depot_date_days), ("depot/date.months", Rows.laid_depot_date_months), ("unicode/utf8.first", Rows.laid_unicode_utf8_first)]
theorem laid_met (os : Os) (args : Array Value) : laidMetH Tryz.prog laid ((World.laidAll Tryz.prog os laid).forCall (fun _ _ => 0) ⟨#[], args, []⟩).memory := by
  rw [MakeChecks.laidMetH_plain _ _ _ (by kernel_rfl)]
  exact laidMet_laidAll args (by kernel_rfl) (by kernel_rfl)

def Pure : Prop := ∀ (a0 : (List UInt8) × ((List UInt8) × ((Int) × ((List ((List UInt8) × ((List UInt8) × (Unit)))) × ((List UInt8) × (Unit)))))) (a1 : (Int) × ((List UInt8) × ((Int) × ((List ((List UInt8) × ((List UInt8) × (Unit)))) × ((List UInt8) × (Unit)))))) (a2 : Int), vok (.scons .str (.scons .str (.scons (.int .i64) (.scons (.list (.scons .str (.scons .str .snil))) (.scons .str .snil))))) a0 → vok (.scons (.int .i64) (.scons .str (.scons (.int .i64) (.scons (.list (.scons .str (.scons .str .snil))) (.scons .str .snil))))) a1 → -9223372036854775808 ≤ a2 → a2 < 9223372036854775808 → ∃ k, X.wT_ k a0 a1 a2 = some true
set_option maxRecDepth 100000 in
theorem lifted (P : Pure) (os : Os) (started : os.Started) (H : Type) (enc : TypeId × Value → H) :
    ReturnsInHanded {} Tryz.checked os 10 .any (fun w args => (Rows.reuseSharedSpec.pre enc Tryz.prog Tryz.f10 [] false w args ∧ laidMetH Tryz.prog laid w) ∧ sizedMet enc Tryz.prog Tryz.f10 (OpenSpec.ofChange Rows.reuseSharedSpec) false w args)
      (Rows.reuseSharedSpec.post enc Tryz.prog Tryz.f10 false true false false) := by
  refine returnsInHanded_of_change_and (C := Tryz.checked) (X := fun w _ => laidMetH Tryz.prog laid w) (fun _ _ _ hh h => h.of_heap hh) own started (by kernel_rfl) Tryz.func10
    (ChangeSpec.witness_shaped (enc := enc) (C := Tryz.checked) (os := os) (X := fun w _ => laidMetH Tryz.prog laid w) false (World.laidAll Tryz.prog os laid) #[.agg #[.string ByteArray.empty, .string ByteArray.empty, .int .i64 0, .slice none 0 0, .string ByteArray.empty], .agg #[.int .i64 0, .string ByteArray.empty, .int .i64 0, .slice none 0 0, .string ByteArray.empty], .int .i64 0] 8 rfl (World.shaped_of_RefB (by kernel_rfl) (by kernel_rfl)) (by kernel_rfl) (by kernel_rfl) (by kernel_rfl) (laid_met os _)) ?_
  intro W base args ds gs before hval0 hW hc hsz0 hL _
  have hval : ∀ (j : Nat) t v, Tryz.f10.params[j]? = some t → args[j]? = some v → Value.okWide Tryz.prog W .any base t v := hval0
  have hW' := hW
  obtain ⟨p, q, hA0, hV, rfl, hfz, hnd⟩ := hW
  have hA : DataW.TrodAll enc Tryz.prog W 0 (fun _ => true) true Tryz.f10.params.toList args.toList ds p := hA0
  rw [Tryz.params10] at hA hval
  have hL2 : laidMet Tryz.prog laid W := by rw [MakeChecks.laidMetH_plain _ _ _ (by kernel_rfl)] at hL; exact hL
  obtain ⟨v0, vs0, d0, ds0, p0, q0, hargs, rfl, rfl, h0, r0⟩ := trodAll_cons hA
  obtain ⟨v1, vs1, d1, ds1, p1, q1, rfl, rfl, rfl, h1, r1⟩ := trodAll_cons r0
  obtain ⟨v2, vs2, d2, ds2, p2, q2, rfl, rfl, rfl, h2, r2⟩ := trodAll_cons r1
  obtain ⟨rfl, rfl, rfl⟩ := trodAll_nil r2
  obtain rfl : args = #[v0, v1, v2] := by cases args; simp_all
  obtain ⟨rfl, rfl⟩ := trodVars_none hV
  obtain ⟨a0, w0, g0, e0⟩ := arg_enc (d := 30) (T := (.scons .str (.scons .str (.scons (.int .i64) (.scons (.list (.scons .str (.scons .str .snil))) (.scons .str .snil)))))) (by kernel_rfl) (hval 0 24 v0 rfl rfl) h0
  have lt0 : ∀ x ∈ p0, x.block < W.heap.size := by obtain ⟨m, hm⟩ := h0; exact DataW.trod_lt m _ _ _ hm
  obtain ⟨a1, w1, g1, e1⟩ := arg_enc (d := 30) (T := (.scons (.int .i64) (.scons .str (.scons (.int .i64) (.scons (.list (.scons .str (.scons .str .snil))) (.scons .str .snil)))))) (by kernel_rfl) (hval 1 26 v1 rfl rfl) h1
  have lt1 : ∀ x ∈ p1, x.block < W.heap.size := by obtain ⟨m, hm⟩ := h1; exact DataW.trod_lt m _ _ _ hm
  obtain ⟨a2, w2, g2, e2⟩ := arg_enc (d := 30) (T := (.int .i64)) (by kernel_rfl) (hval 2 3 v2 rfl rfl) h2
  have lt2 : ∀ x ∈ p2, x.block < W.heap.size := by obtain ⟨m, hm⟩ := h2; exact DataW.trod_lt m _ _ _ hm
  change Int at a2
  have b2 : (-9223372036854775808 : Int) ≤ a2 ∧ a2 < 9223372036854775808 := by
    have h1 : (decide ((-9223372036854775808 : Int) ≤ a2) && decide (a2 ≤ 9223372036854775807)) = true := w2
    simp only [Bool.and_eq_true, decide_eq_true_eq] at h1
    omega
  obtain ⟨k, hk⟩ := P a0 a1 a2 w0 w1 b2.1 b2.2
  have hC := X.wT_.contract.calls k (a0, a1, a2, ()) true hk W (oldU W) #[v0, v1, v2] (fun _ h => h) (GlobOK.cons rfl rfl (glob_enc (dep := 30) hL2 (List.mem_of_getElem? (i := 4) rfl) (by kernel_rfl) (t := 184) (by kernel_rfl) (by kernel_rfl) (by kernel_rfl)) (GlobOK.cons rfl rfl (glob_enc (dep := 30) hL2 (List.mem_of_getElem? (i := 5) rfl) (by kernel_rfl) (t := 185) (by kernel_rfl) (by kernel_rfl) (by kernel_rfl)) (GlobOK.cons rfl rfl (glob_enc (dep := 30) hL2 (List.mem_of_getElem? (i := 2) rfl) (by kernel_rfl) (t := 254) (by kernel_rfl) (by kernel_rfl) (by kernel_rfl)) GlobOK.nil))) (encT_arg g0 e0 (encT_arg g1 e1 (encT_arg g2 e2 encT_nil)))
  rcases hC with ⟨_, hC⟩ | ⟨v, w', hr, _⟩
  · refine hC.mono fun e W' ⟨v, U', he, bel, _, hv⟩ => ?_
    have hv : v = .bool true := hv.bool
    subst he; subst hv
    exact ⟨_, rfl, _, _, _, [], _, [], hW', trodAll_mk1 (shut_bool Tryz.underlying4 _), (trodAll_cons_mk (Below.trod laidOut (by kernel_rfl) (of_decide_eq_true (by kernel_rfl)) h0 bel lt0) (trodAll_cons_mk (Below.trod laidOut (by kernel_rfl) (of_decide_eq_true (by kernel_rfl)) h1 bel lt1) (trodAll_cons_mk (Below.trod laidOut (by kernel_rfl) (of_decide_eq_true (by kernel_rfl)) h2 bel lt2) trodAll_mk0))), rfl, bel.frame _, fun h => by cases h⟩
  · have := Tryz.call10 #[v0, v1, v2] W
    rw [this] at hr
    cases hr

set_option maxHeartbeats 4000000 in
theorem said (P : Pure) : Rows.ReuseSharedSaid :=
  OpenClaim.holds_of_wide 10 Tryz.f10 rfl rfl rfl rfl rfl rfl rfl ⟨rfl, rfl, rfl, rfl, rfl⟩ rfl rfl rfl rfl rfl (by as_aux_lemma => kernel_rfl) Tryz.func10 (by simp only [joinedFacts, Bool.and_eq_true]; (repeat' apply And.intro) <;> (as_aux_lemma => kernel_rfl))
    (of_decide_eq_true (by as_aux_lemma => kernel_rfl)) (by unfold Func.isWrapper; first | (rw [if_pos (by decide +kernel)]; kernel_rfl) | (rw [if_neg (by decide +kernel)]; exact ⟨rfl, rfl⟩))
    (fun os started H enc _ => lifted P os started H enc)
theorem card (h : Rows.ReuseSharedSaid) : Rows.ReuseSharedCardSaid :=
  Claim7.holds_tied_plain_at .later [] [.data, .data, .data, .data, .data, .data, .pinned] true (true, "e28e903c606879e4553150f8ab5358369453ff7b79f2ff9c72f2c46ffb50736d") false
    h (fun _ h => by cases h) (by as_aux_lemma => kernel_rfl) (fun _ h => by cases h) reuseShared_row_tie rfl ⟨rfl, rfl⟩ (by as_aux_lemma => kernel_rfl) rfl
    (fun f fn hf hfn => by
      obtain rfl : f = 10 := Option.some.inj ((show Tryz.prog.funcNamed "depot/depotlaw18.ReuseShared" = some 10 by as_aux_lemma => kernel_rfl).symm.trans hf) |>.symm
      obtain rfl : fn = Tryz.f10 := (Option.some.inj (Tryz.func10.symm.trans hfn)).symm
      exact ⟨by as_aux_lemma => kernel_rfl, fun j t ht => by
        rw [Tryz.params10] at ht
        have h3 : t ∈ [24, 26, 3] := List.mem_of_getElem? (by simpa using ht)
        simp only [List.mem_cons, List.mem_nil_iff, or_false] at h3
        rcases h3 with rfl | rfl | rfl
        · exact (show Tryz.prog.wantsStandIn 24 = false by as_aux_lemma => kernel_rfl)
        · exact (show Tryz.prog.wantsStandIn 26 = false by as_aux_lemma => kernel_rfl)
        · exact (show Tryz.prog.wantsStandIn 3 = false by as_aux_lemma => kernel_rfl)⟩)
    (by as_aux_lemma => kernel_rfl)
end Go.Proofs.YtkfffmpnmoiikaaGreatDoor.ReuseShared
namespace Go.Proofs.YtkfffmpnmoiikaaGreatDoor
theorem reuseShared_proved : Rows.ReuseSharedCardSaid := ReuseShared.card (ReuseShared.said (by unfold ReuseShared.Pure; intros; apply X.wdX <;> assumption))
#print axioms reuseShared_proved
end Go.Proofs.YtkfffmpnmoiikaaGreatDoor
