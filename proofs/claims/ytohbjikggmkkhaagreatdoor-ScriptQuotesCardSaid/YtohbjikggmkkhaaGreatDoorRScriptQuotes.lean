/- The given row and card of the law ScriptQuotes, out of what its plain Lean function gives. No condition beyond the card. -/
import Derived.Test.YtohbjikggmkkhaaGreatDoorUA4
import Derived.Test.YtohbjikggmkkhaaGreatDoorFc
import Derived.Test.YtohbjikggmkkhaaGreatDoorUL
import Derived.Test.YtohbjikggmkkhaaGreatDoorFc
import Derived.Test.YtohbjikggmkkhaaGreatDoorUK
import Derived.Test.YtohbjikggmkkhaaGreatDoorRows
import Derived.Test.YtohbjikggmkkhaaGreatDoorCards
import Derived.Test.YtohbjikggmkkhaaGreatDoorTie
import Derived.ProofKit
import Derived.LaidMore
import Derived.Lay
import Derived.OpenShut
import Derived.Stop.Joined
import Derived.SevenTiedAt
import Derived.ChangeOld
import Derived.Below
import Derived.SizedLaws
import Derived.WalkKit
import Derived.ShutString
namespace Go.Proofs.YtohbjikggmkkhaaGreatDoor.ScriptQuotes
open Go Go.ChangeShapes Go.WideShapes Go.ChangeAt Go.RowKit Go.Dp
set_option linter.unusedVariables false

theorem own : ownKnob Tryz.prog.godebug = none := by kernel_rfl
theorem laidOut : laidOutB Tryz.prog = true := by kernel_rfl
def laid : List (String × DataW Unit) := [("math/bits.deBruijn32tab", Rows.laid_math_bits_deBruijn32tab), ("math/bits.deBruijn64tab", Rows.laid_math_bits_deBruijn64tab), ("internal/strconv.uint64pow10", Rows.laid_internal_strconv_uint64pow10), ("unicode/utf8.acceptRanges", Rows.laid_unicode_utf8_acceptRanges), ("depot/entry.classes", Rows.laid_depot_entry_classes), ("depot/date.days", Rows.laid_depot_date_days), ("depot/date.months", Rows.laid_depot_date_months), ("depot/hops.names", Rows.laid_depot_hops_names), ("depot/line.reasons", Rows.laid_depot_line_reasons), ("unicode/utf8.first", Rows.laid_unicode_utf8_first)]
theorem laid_met (os : Os) (args : Array Value) : laidMetH Tryz.prog laid ((World.laidAll Tryz.prog os laid).forCall (fun _ _ => 0) ⟨#[], args, []⟩).memory := by
  rw [MakeChecks.laidMetH_plain _ _ _ (by kernel_rfl)]
  exact laidMet_laidAll args (by kernel_rfl) (by kernel_rfl)

def Pure : Prop := ∀ (a0 : List UInt8), vok .str a0 → ∃ k, X.depotlaw36_ScriptQuotes k a0 = some true
set_option maxRecDepth 100000 in
theorem lifted (P : Pure) (os : Os) (started : os.Started) (H : Type) (enc : TypeId × Value → H) :
    ReturnsInHanded {} Tryz.checked os 3 .any (fun w args => (Rows.scriptQuotesSpec.pre enc Tryz.prog Tryz.f3 [] false w args ∧ laidMetH Tryz.prog laid w) ∧ sizedMet enc Tryz.prog Tryz.f3 (OpenSpec.ofChange Rows.scriptQuotesSpec) false w args)
      (Rows.scriptQuotesSpec.post enc Tryz.prog Tryz.f3 false true false false) := by
  refine returnsInHanded_of_change_and (C := Tryz.checked) (X := fun w _ => laidMetH Tryz.prog laid w) (fun _ _ _ hh h => h.of_heap hh) own started (by kernel_rfl) Tryz.func3
    (ChangeSpec.witness_shaped (enc := enc) (C := Tryz.checked) (os := os) (X := fun w _ => laidMetH Tryz.prog laid w) false (World.laidAll Tryz.prog os laid) #[.string ByteArray.empty] 8 rfl (World.shaped_of_RefB (by kernel_rfl) (by kernel_rfl)) (by kernel_rfl) (by kernel_rfl) (by kernel_rfl) (laid_met os _)) ?_
  intro W base args ds gs before hval0 hW hc hsz0 hL _
  have hval : ∀ (j : Nat) t v, Tryz.f3.params[j]? = some t → args[j]? = some v → Value.okWide Tryz.prog W .any base t v := hval0
  have hW' := hW
  obtain ⟨p, q, hA0, hV, rfl, hfz, hnd⟩ := hW
  have hA : DataW.TrodAll enc Tryz.prog W 0 (fun _ => true) true Tryz.f3.params.toList args.toList ds p := hA0
  rw [Tryz.params3] at hA hval
  have hL2 : laidMet Tryz.prog laid W := by rw [MakeChecks.laidMetH_plain _ _ _ (by kernel_rfl)] at hL; exact hL
  obtain ⟨v0, vs0, d0, ds0, p0, q0, hargs, rfl, rfl, h0, r0⟩ := trodAll_cons hA
  obtain ⟨rfl, rfl, rfl⟩ := trodAll_nil r0
  obtain rfl : args = #[v0] := by cases args; simp_all
  obtain ⟨rfl, rfl⟩ := trodVars_none hV
  obtain ⟨a0, w0, g0, e0⟩ := arg_enc (d := 30) (T := .str) (by kernel_rfl) (hval 0 9 v0 rfl rfl) h0
  have lt0 : ∀ x ∈ p0, x.block < W.heap.size := by obtain ⟨m, hm⟩ := h0; exact DataW.trod_lt m _ _ _ hm
  obtain ⟨k, hk⟩ := P a0 w0
  have hC := X.depotlaw36_ScriptQuotes.contract.calls k (a0, ()) true hk W (oldU W) #[v0] (fun _ h => h) (GlobOK.cons rfl rfl (glob_enc (dep := 30) hL2 (List.mem_of_getElem? (i := 2) rfl) (by kernel_rfl) (t := 368) (by kernel_rfl) (by kernel_rfl) (by kernel_rfl)) (GlobOK.cons rfl rfl (glob_enc (dep := 30) hL2 (List.mem_of_getElem? (i := 8) rfl) (by kernel_rfl) (t := 419) (by kernel_rfl) (by kernel_rfl) (by kernel_rfl)) (GlobOK.cons rfl rfl (glob_enc (dep := 30) hL2 (List.mem_of_getElem? (i := 7) rfl) (by kernel_rfl) (t := 509) (by kernel_rfl) (by kernel_rfl) (by kernel_rfl)) (GlobOK.cons rfl rfl (glob_enc (dep := 30) hL2 (List.mem_of_getElem? (i := 5) rfl) (by kernel_rfl) (t := 609) (by kernel_rfl) (by kernel_rfl) (by kernel_rfl)) (GlobOK.cons rfl rfl (glob_enc (dep := 30) hL2 (List.mem_of_getElem? (i := 6) rfl) (by kernel_rfl) (t := 610) (by kernel_rfl) (by kernel_rfl) (by kernel_rfl)) (GlobOK.cons rfl rfl (glob_enc (dep := 30) hL2 (List.mem_of_getElem? (i := 4) rfl) (by kernel_rfl) (t := 618) (by kernel_rfl) (by kernel_rfl) (by kernel_rfl)) GlobOK.nil)))))) (encT_arg g0 e0 encT_nil)
  rcases hC with ⟨_, hC⟩ | ⟨v, w', hr, _⟩
  · refine hC.mono fun e W' ⟨v, U', he, bel, _, hv⟩ => ?_
    have hv : v = .bool true := hv.bool
    subst he; subst hv
    exact ⟨_, rfl, _, _, _, [], _, [], hW', trodAll_mk1 (shut_bool Tryz.underlying4 _), (trodAll_cons_mk (Below.trod laidOut (by kernel_rfl) (of_decide_eq_true (by kernel_rfl)) h0 bel lt0) trodAll_mk0), rfl, bel.frame _, fun h => by cases h⟩
  · have := Tryz.call3 #[v0] W
    rw [this] at hr
    cases hr

set_option maxHeartbeats 4000000 in
theorem said (P : Pure) : Rows.ScriptQuotesSaid :=
  OpenClaim.holds_of_wide 3 Tryz.f3 rfl rfl rfl rfl rfl rfl rfl ⟨rfl, rfl, rfl, rfl, rfl⟩ rfl rfl rfl rfl rfl (by as_aux_lemma => kernel_rfl) Tryz.func3 (by
      simp only [joinedFacts, Bool.and_eq_true]
      repeat' apply And.intro
      iterate 9 (next => (as_aux_lemma => kernel_rfl))
      exact f_inPlace
      exact f_unf
      exact f_rec
      exact f_named
      all_goals (as_aux_lemma => kernel_rfl))
    (of_decide_eq_true (by as_aux_lemma => kernel_rfl)) (by unfold Func.isWrapper; first | (rw [if_pos (by decide +kernel)]; kernel_rfl) | (rw [if_neg (by decide +kernel)]; exact ⟨rfl, rfl⟩))
    (fun os started H enc _ => lifted P os started H enc)
theorem goes_all : Tryz.prog.funcs.toList.all (fun fn => !fn.goes) = true := by as_aux_lemma => kernel_rfl
theorem card (h : Rows.ScriptQuotesSaid) : Rows.ScriptQuotesCardSaid :=
  Claim7.holds_tied_plain_at .later [] [.data, .data, .data, .data, .data, .data, .data, .data, .data, .pinned] true (true, "c27348ebb87e19f8af3e6b976dead57e595170eafb6bf7edeffc9de99bc78e05") true
    h (fun _ h => by cases h) (by as_aux_lemma => kernel_rfl) (fun _ h => by cases h) scriptQuotes_row_tie rfl ⟨rfl, rfl⟩ (by as_aux_lemma => kernel_rfl) rfl
    (fun f fn hf hfn => by
      obtain rfl : f = 3 := Option.some.inj ((show Tryz.prog.funcNamed "depot/depotlaw36.ScriptQuotes" = some 3 by as_aux_lemma => kernel_rfl).symm.trans hf) |>.symm
      obtain rfl : fn = Tryz.f3 := (Option.some.inj (Tryz.func3.symm.trans hfn)).symm
      exact ⟨by as_aux_lemma => kernel_rfl, fun j t ht => by
        rw [Tryz.params3] at ht
        have h3 : t ∈ [9] := List.mem_of_getElem? (by simpa using ht)
        simp only [List.mem_cons, List.mem_nil_iff, or_false] at h3
        subst h3
        exact (show Tryz.prog.wantsStandIn 9 = false by as_aux_lemma => kernel_rfl)⟩)
    (Dp.goes_none goes_all rfl)
end Go.Proofs.YtohbjikggmkkhaaGreatDoor.ScriptQuotes
namespace Go.Proofs.YtohbjikggmkkhaaGreatDoor
theorem scriptQuotes_proved : Rows.ScriptQuotesCardSaid := ScriptQuotes.card (ScriptQuotes.said (by unfold ScriptQuotes.Pure; intros; apply X.scriptQuotes <;> assumption))
#print axioms scriptQuotes_proved
end Go.Proofs.YtohbjikggmkkhaaGreatDoor
