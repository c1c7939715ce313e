/- The given row and card of the law ProxyShelf, out of what its plain Lean function gives. No condition beyond the card. -/
import Derived.Test.YtilmijbpmkandaaGreatDoorG2
import Derived.Test.YtilmijbpmkandaaGreatDoorOL2
import Derived.Test.YtilmijbpmkandaaGreatDoorUL
import Derived.Test.YtilmijbpmkandaaGreatDoorFc
import Derived.Test.YtilmijbpmkandaaGreatDoorUK
import Derived.Test.YtilmijbpmkandaaGreatDoorRows
import Derived.Test.YtilmijbpmkandaaGreatDoorCards
import Derived.Test.YtilmijbpmkandaaGreatDoorTie
import Derived.ProofKit
import Derived.LaidMore
import Derived.Lay
import Derived.OpenShut
import Derived.Stop.Joined
import Derived.SevenTiedAt
import Derived.ChangeOld
import Derived.Below
import Derived.SizedLaws
import Derived.WalkKit
import Derived.ShutString
namespace Go.Proofs.YtilmijbpmkandaaGreatDoor.ProxyShelf
open Go Go.ChangeShapes Go.WideShapes Go.ChangeAt Go.RowKit Go.Dp
set_option linter.unusedVariables false

theorem own : ownKnob Tryz.prog.godebug = none := by kernel_rfl
theorem laidOut : laidOutB Tryz.prog = true := by kernel_rfl
def laid : List (String × DataW Unit) := [("math/bits.deBruijn32tab", Rows.laid_math_bits_deBruijn32tab), ("math/bits.deBruijn64tab", Rows.laid_math_bits_deBruijn64tab), ("internal/strconv.uint64pow10", Rows.laid_internal_strconv_uint64pow10), ("unicode/utf8.acceptRanges", Rows.laid_unicode_utf8_acceptRanges), ("depot/date.days", Rows.laid_depot_date_days), ("depot/date.months", Rows.laid_depot_date_months), ("depot/hops.names", Rows.laid_depot_hops_names), ("depot/line.reasons", Rows.laid_depot_line_reasons), ("unicode/utf8.first", Rows.laid_unicode_utf8_first)]
theorem laid_met (os : Os) (args : Array Value) : laidMetH Tryz.prog laid ((World.laidAll Tryz.prog os laid).forCall (fun _ _ => 0) ⟨#[], args, []⟩).memory := by
  rw [MakeChecks.laidMetH_plain _ _ _ (by kernel_rfl)]
  exact laidMet_laidAll args (by kernel_rfl) (by kernel_rfl)

def Pure : Prop := ∀ (a0 : Int) (a1 : List ((List UInt8) × ((List (Int)) × (Unit)))) (a2 : List UInt8), -9223372036854775808 ≤ a0 → a0 < 9223372036854775808 → vok (.list (.scons .str (.scons (.list (.int .u8)) .snil))) a1 → vok .str a2 → ∃ k, X.depotlaw33_ProxyShelf k a0 a1 a2 = some true
set_option maxRecDepth 100000 in
theorem lifted (P : Pure) (os : Os) (started : os.Started) (H : Type) (enc : TypeId × Value → H) :
    ReturnsInHanded {} Tryz.checked os 3 .any (fun w args => (Rows.proxyShelfSpec.pre enc Tryz.prog Tryz.f3 [] false w args ∧ laidMetH Tryz.prog laid w) ∧ sizedMet enc Tryz.prog Tryz.f3 (OpenSpec.ofChange Rows.proxyShelfSpec) false w args)
      (Rows.proxyShelfSpec.post enc Tryz.prog Tryz.f3 false true false false) := by
  refine returnsInHanded_open (C := Tryz.checked) (X := fun w _ => laidMetH Tryz.prog laid w) (fun _ _ _ hh h => h.of_heap hh) own started (by kernel_rfl) Tryz.func3
    (ChangeSpec.witness_shaped (enc := enc) (C := Tryz.checked) (os := os) (X := fun w _ => laidMetH Tryz.prog laid w) false (World.laidAll Tryz.prog os laid) #[.int .i64 0, .slice none 0 0, .string ByteArray.empty] 8 rfl (World.shaped_of_RefB (by kernel_rfl) (by kernel_rfl)) (by kernel_rfl) (by kernel_rfl) (by kernel_rfl) (laid_met os _)) ?_
  intro W base args ds gs before hval0 hW hc hsz0 hL hSO _
  have hval : ∀ (j : Nat) t v, Tryz.f3.params[j]? = some t → args[j]? = some v → Value.okWide Tryz.prog W .any base t v := hval0
  have hW' := hW
  obtain ⟨p, q, hA0, hV, rfl, hfz, hnd⟩ := hW
  have hA : DataW.TrodAll enc Tryz.prog W 0 (fun _ => true) true Tryz.f3.params.toList args.toList ds p := hA0
  rw [Tryz.params3] at hA hval
  have hL2 : laidMet Tryz.prog laid W := by rw [MakeChecks.laidMetH_plain _ _ _ (by kernel_rfl)] at hL; exact hL
  obtain ⟨v0, vs0, d0, ds0, p0, q0, hargs, rfl, rfl, h0, r0⟩ := trodAll_cons hA
  obtain ⟨v1, vs1, d1, ds1, p1, q1, rfl, rfl, rfl, h1, r1⟩ := trodAll_cons r0
  obtain ⟨v2, vs2, d2, ds2, p2, q2, rfl, rfl, rfl, h2, r2⟩ := trodAll_cons r1
  obtain ⟨rfl, rfl, rfl⟩ := trodAll_nil r2
  obtain rfl : args = #[v0, v1, v2] := by cases args; simp_all
  obtain ⟨rfl, rfl⟩ := trodVars_none hV
  obtain ⟨a0, w0, g0, e0⟩ := arg_enc (d := 30) (T := (.int .i64)) (by kernel_rfl) (hval 0 3 v0 rfl rfl) h0
  have lt0 : ∀ x ∈ p0, x.block < W.heap.size := by obtain ⟨m, hm⟩ := h0; exact DataW.trod_lt m _ _ _ hm
  change Int at a0
  have b0 : (-9223372036854775808 : Int) ≤ a0 ∧ a0 < 9223372036854775808 := by
    have h1 : (decide ((-9223372036854775808 : Int) ≤ a0) && decide (a0 ≤ 9223372036854775807)) = true := w0
    simp only [Bool.and_eq_true, decide_eq_true_eq] at h1
    omega
  obtain ⟨a1, w1, g1, e1⟩ := arg_enc (d := 30) (T := (.list (.scons .str (.scons (.list (.int .u8)) .snil)))) (by kernel_rfl) (hval 1 22 v1 rfl rfl) h1
  have lt1 : ∀ x ∈ p1, x.block < W.heap.size := by obtain ⟨m, hm⟩ := h1; exact DataW.trod_lt m _ _ _ hm
  obtain ⟨a2, w2, g2, e2⟩ := arg_enc (d := 30) (T := .str) (by kernel_rfl) (hval 2 9 v2 rfl rfl) h2
  have lt2 : ∀ x ∈ p2, x.block < W.heap.size := by obtain ⟨m, hm⟩ := h2; exact DataW.trod_lt m _ _ _ hm
  obtain ⟨k, hk⟩ := P a0 a1 a2 b0.1 b0.2 w1 w2
  have hC := X.depotlaw33_ProxyShelf.contract.calls k (a0, a1, a2, ()) true hk W (oldU W) #[v0, v1, v2] (fun _ h => h) (GlobOK.cons rfl rfl (sint_enc (zero := #[.int .i64 0]) (t := 3) hSO (of_decide_eq_true (by kernel_rfl)) (by kernel_rfl) rfl (by kernel_rfl) (by kernel_rfl) Tryz.underlying3) (GlobOK.cons rfl rfl (glob_enc (dep := 30) hL2 (List.mem_of_getElem? (i := 7) rfl) (by kernel_rfl) (t := 227) (by kernel_rfl) (by kernel_rfl) (by kernel_rfl)) (GlobOK.cons rfl rfl (glob_enc (dep := 30) hL2 (List.mem_of_getElem? (i := 6) rfl) (by kernel_rfl) (t := 338) (by kernel_rfl) (by kernel_rfl) (by kernel_rfl)) (GlobOK.cons rfl rfl (glob_enc (dep := 30) hL2 (List.mem_of_getElem? (i := 4) rfl) (by kernel_rfl) (t := 459) (by kernel_rfl) (by kernel_rfl) (by kernel_rfl)) (GlobOK.cons rfl rfl (glob_enc (dep := 30) hL2 (List.mem_of_getElem? (i := 5) rfl) (by kernel_rfl) (t := 460) (by kernel_rfl) (by kernel_rfl) (by kernel_rfl)) (GlobOK.cons rfl rfl (glob_enc (dep := 30) hL2 (List.mem_of_getElem? (i := 2) rfl) (by kernel_rfl) (t := 462) (by kernel_rfl) (by kernel_rfl) (by kernel_rfl)) GlobOK.nil)))))) (encT_arg g0 e0 (encT_arg g1 e1 (encT_arg g2 e2 encT_nil)))
  rcases hC with ⟨_, hC⟩ | ⟨v, w', hr, _⟩
  · refine hC.mono fun e W' ⟨v, U', he, bel, _, hv⟩ => ?_
    have hv : v = .bool true := hv.bool
    subst he; subst hv
    exact ⟨_, rfl, _, _, _, [], _, [], hW', trodAll_mk1 (shut_bool Tryz.underlying4 _), (trodAll_cons_mk (Below.trod laidOut (by kernel_rfl) (of_decide_eq_true (by kernel_rfl)) h0 bel lt0) (trodAll_cons_mk (Below.trod laidOut (by kernel_rfl) (of_decide_eq_true (by kernel_rfl)) h1 bel lt1) (trodAll_cons_mk (Below.trod laidOut (by kernel_rfl) (of_decide_eq_true (by kernel_rfl)) h2 bel lt2) trodAll_mk0))), rfl, bel.frame _, fun h => by cases h⟩
  · have := Tryz.call3 #[v0, v1, v2] W
    rw [this] at hr
    cases hr

set_option maxHeartbeats 4000000 in
theorem said (P : Pure) : Rows.ProxyShelfSaid :=
  OpenClaim.holds_of_wide 3 Tryz.f3 rfl rfl rfl rfl rfl rfl rfl ⟨rfl, rfl, rfl, rfl, rfl⟩ rfl rfl rfl rfl rfl (by as_aux_lemma => kernel_rfl) Tryz.func3 (by
      simp only [joinedFacts, Bool.and_eq_true]
      repeat' apply And.intro
      iterate 9 (next => (as_aux_lemma => kernel_rfl))
      exact f_inPlace
      exact f_unf
      exact f_rec
      exact f_named
      all_goals (as_aux_lemma => kernel_rfl))
    (of_decide_eq_true (by as_aux_lemma => kernel_rfl)) (by unfold Func.isWrapper; first | (rw [if_pos (by decide +kernel)]; kernel_rfl) | (rw [if_neg (by decide +kernel)]; exact ⟨rfl, rfl⟩))
    (fun os started H enc _ => lifted P os started H enc)
theorem goes_all : Tryz.prog.funcs.toList.all (fun fn => !fn.goes) = true := by as_aux_lemma => kernel_rfl
theorem card (h : Rows.ProxyShelfSaid) : Rows.ProxyShelfCardSaid :=
  Claim7.holds_tied_plain_at .later [] [.data, .data, .data, .data, .data, .data, .data, .data, .pinned] true (true, "480f77e4a8545ac847bf8471159dca97b3805034a549eba70d5646f6e367894b") false
    h (fun _ h => by cases h) (by as_aux_lemma => kernel_rfl) (fun _ h => by cases h) proxyShelf_row_tie rfl ⟨rfl, rfl⟩ (by as_aux_lemma => kernel_rfl) rfl
    (fun f fn hf hfn => by
      obtain rfl : f = 3 := Option.some.inj ((show Tryz.prog.funcNamed "depot/depotlaw33.ProxyShelf" = some 3 by as_aux_lemma => kernel_rfl).symm.trans hf) |>.symm
      obtain rfl : fn = Tryz.f3 := (Option.some.inj (Tryz.func3.symm.trans hfn)).symm
      exact ⟨by as_aux_lemma => kernel_rfl, fun j t ht => by
        rw [Tryz.params3] at ht
        have h3 : t ∈ [3, 22, 9] := List.mem_of_getElem? (by simpa using ht)
        simp only [List.mem_cons, List.mem_nil_iff, or_false] at h3
        rcases h3 with rfl | rfl | rfl
        · exact (show Tryz.prog.wantsStandIn 3 = false by as_aux_lemma => kernel_rfl)
        · exact (show Tryz.prog.wantsStandIn 22 = false by as_aux_lemma => kernel_rfl)
        · exact (show Tryz.prog.wantsStandIn 9 = false by as_aux_lemma => kernel_rfl)⟩)
    (Dp.goes_none goes_all rfl)
end Go.Proofs.YtilmijbpmkandaaGreatDoor.ProxyShelf
namespace Go.Proofs.YtilmijbpmkandaaGreatDoor
theorem proxyShelf_proved : Rows.ProxyShelfCardSaid := ProxyShelf.card (ProxyShelf.said (by unfold ProxyShelf.Pure; intros; apply X.proxyShelf <;> assumption))
#print axioms proxyShelf_proved
end Go.Proofs.YtilmijbpmkandaaGreatDoor
