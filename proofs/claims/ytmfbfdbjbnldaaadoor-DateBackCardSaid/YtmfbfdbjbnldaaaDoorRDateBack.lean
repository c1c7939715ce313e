/- The given row and card of the law DateBack, out of what its plain Lean function gives. No condition beyond the card. -/
import Derived.Test.YtmfbfdbjbnldaaaDoorDG2
import Derived.Test.YtmfbfdbjbnldaaaDoorFc
import Derived.Test.YtmfbfdbjbnldaaaDoorDPb
import Derived.Test.YtmfbfdbjbnldaaaDoorRows
import Derived.Test.YtmfbfdbjbnldaaaDoorCards
import Derived.Test.YtmfbfdbjbnldaaaDoorTie
import Derived.ProofKit
import Derived.LaidMore
import Derived.Lay
import Derived.OpenShut
import Derived.Stop.Joined
import Derived.SevenTiedAt
import Derived.ChangeOld
import Derived.Below
import Derived.SizedLaws
import Derived.WalkKit
import Derived.ShutString
namespace Go.Proofs.YtmfbfdbjbnldaaaDoor.DateBack
open Go Go.ChangeShapes Go.WideShapes Go.ChangeAt Go.RowKit Go.Dp
set_option linter.unusedVariables false

theorem own : ownKnob Tryd.prog.godebug = none := by kernel_rfl
theorem laidOut : laidOutB Tryd.prog = true := by kernel_rfl
def laid : List (String × DataW Unit) := [("math/bits.deBruijn32tab", Rows.laid_math_bits_deBruijn32tab), ("math/bits.deBruijn64tab", Rows.laid_math_bits_deBruijn64tab), ("internal/strconv.uint64pow10", Rows.laid_internal_strconv_uint64pow10), ("unicode/utf8.acceptRanges", Rows.laid_unicode_utf8_acceptRanges), ("depot/date.days", Rows.laid_depot_date_days), ("depot/date.months", Rows.laid_depot_date_months), ("unicode/utf8.first", Rows.laid_unicode_utf8_first)]
theorem laid_met (os : Os) (args : Array Value) : laidMetH Tryd.prog laid ((World.laidAll Tryd.prog os laid).forCall (fun _ _ => 0) ⟨#[], args, []⟩).memory := by
  rw [MakeChecks.laidMetH_plain _ _ _ (by kernel_rfl)]
  exact laidMet_laidAll args (by kernel_rfl) (by kernel_rfl)

def Pure : Prop := ∀ (a0 : Int) (a1 : Int) (a2 : List UInt8), -9223372036854775808 ≤ a0 → a0 < 9223372036854775808 → -9223372036854775808 ≤ a1 → a1 < 9223372036854775808 → vok .str a2 → ∃ k, X.depotlaw07_DateBack k a0 a1 a2 = some true
set_option maxRecDepth 100000 in
theorem lifted (P : Pure) (os : Os) (started : os.Started) (H : Type) (enc : TypeId × Value → H) :
    ReturnsInHanded {} Tryd.checked os 6 .any (fun w args => (Rows.dateBackSpec.pre enc Tryd.prog Tryd.f6 [] false w args ∧ laidMetH Tryd.prog laid w) ∧ sizedMet enc Tryd.prog Tryd.f6 (OpenSpec.ofChange Rows.dateBackSpec) false w args)
      (Rows.dateBackSpec.post enc Tryd.prog Tryd.f6 false true false false) := by
  refine returnsInHanded_of_change_and (C := Tryd.checked) (X := fun w _ => laidMetH Tryd.prog laid w) (fun _ _ _ hh h => h.of_heap hh) own started (by kernel_rfl) Tryd.func6
    (ChangeSpec.witness_shaped (enc := enc) (C := Tryd.checked) (os := os) (X := fun w _ => laidMetH Tryd.prog laid w) false (World.laidAll Tryd.prog os laid) #[.int .i64 0, .int .i64 0, .string ByteArray.empty] 8 rfl (World.shaped_of_RefB (by kernel_rfl) (by kernel_rfl)) (by kernel_rfl) (by kernel_rfl) (by kernel_rfl) (laid_met os _)) ?_
  intro W base args ds gs before hval0 hW hc hsz0 hL _
  have hval : ∀ (j : Nat) t v, Tryd.f6.params[j]? = some t → args[j]? = some v → Value.okWide Tryd.prog W .any base t v := hval0
  have hW' := hW
  obtain ⟨p, q, hA0, hV, rfl, hfz, hnd⟩ := hW
  have hA : DataW.TrodAll enc Tryd.prog W 0 (fun _ => true) true Tryd.f6.params.toList args.toList ds p := hA0
  rw [Tryd.params6] at hA hval
  have hL2 : laidMet Tryd.prog laid W := by rw [MakeChecks.laidMetH_plain _ _ _ (by kernel_rfl)] at hL; exact hL
  obtain ⟨v0, vs0, d0, ds0, p0, q0, hargs, rfl, rfl, h0, r0⟩ := trodAll_cons hA
  obtain ⟨v1, vs1, d1, ds1, p1, q1, rfl, rfl, rfl, h1, r1⟩ := trodAll_cons r0
  obtain ⟨v2, vs2, d2, ds2, p2, q2, rfl, rfl, rfl, h2, r2⟩ := trodAll_cons r1
  obtain ⟨rfl, rfl, rfl⟩ := trodAll_nil r2
  obtain rfl : args = #[v0, v1, v2] := by cases args; simp_all
  obtain ⟨rfl, rfl⟩ := trodVars_none hV
  obtain ⟨a0, w0, g0, e0⟩ := arg_enc (d := 30) (T := (.int .i64)) (by kernel_rfl) (hval 0 3 v0 rfl rfl) h0
  have lt0 : ∀ x ∈ p0, x.block < W.heap.size := by obtain ⟨m, hm⟩ := h0; exact DataW.trod_lt m _ _ _ hm
  change Int at a0
  have b0 : (-9223372036854775808 : Int) ≤ a0 ∧ a0 < 9223372036854775808 := by
    have h1 : (decide ((-9223372036854775808 : Int) ≤ a0) && decide (a0 ≤ 9223372036854775807)) = true := w0
    simp only [Bool.and_eq_true, decide_eq_true_eq] at h1
    omega
  obtain ⟨a1, w1, g1, e1⟩ := arg_enc (d := 30) (T := (.int .i64)) (by kernel_rfl) (hval 1 3 v1 rfl rfl) h1
  have lt1 : ∀ x ∈ p1, x.block < W.heap.size := by obtain ⟨m, hm⟩ := h1; exact DataW.trod_lt m _ _ _ hm
  change Int at a1
  have b1 : (-9223372036854775808 : Int) ≤ a1 ∧ a1 < 9223372036854775808 := by
    have h1 : (decide ((-9223372036854775808 : Int) ≤ a1) && decide (a1 ≤ 9223372036854775807)) = true := w1
    simp only [Bool.and_eq_true, decide_eq_true_eq] at h1
    omega
  obtain ⟨a2, w2, g2, e2⟩ := arg_enc (d := 30) (T := .str) (by kernel_rfl) (hval 2 9 v2 rfl rfl) h2
  have lt2 : ∀ x ∈ p2, x.block < W.heap.size := by obtain ⟨m, hm⟩ := h2; exact DataW.trod_lt m _ _ _ hm
  obtain ⟨k, hk⟩ := P a0 a1 a2 b0.1 b0.2 b1.1 b1.2 w2
  have hC := X.depotlaw07_DateBack.contract.calls k (a0, a1, a2, ()) true hk W (oldU W) #[v0, v1, v2] (fun _ h => h) (GlobOK.cons rfl rfl (glob_enc (dep := 30) hL2 (List.mem_of_getElem? (i := 4) rfl) (by kernel_rfl) (t := 57) (by kernel_rfl) (by kernel_rfl) (by kernel_rfl)) (GlobOK.cons rfl rfl (glob_enc (dep := 30) hL2 (List.mem_of_getElem? (i := 5) rfl) (by kernel_rfl) (t := 59) (by kernel_rfl) (by kernel_rfl) (by kernel_rfl)) (GlobOK.cons rfl rfl (glob_enc (dep := 30) hL2 (List.mem_of_getElem? (i := 2) rfl) (by kernel_rfl) (t := 154) (by kernel_rfl) (by kernel_rfl) (by kernel_rfl)) GlobOK.nil))) (encT_arg g0 e0 (encT_arg g1 e1 (encT_arg g2 e2 encT_nil)))
  rcases hC with ⟨_, hC⟩ | ⟨v, w', hr, _⟩
  · refine hC.mono fun e W' ⟨v, U', he, bel, _, hv⟩ => ?_
    have hv : v = .bool true := hv.bool
    subst he; subst hv
    exact ⟨_, rfl, _, _, _, [], _, [], hW', trodAll_mk1 (shut_bool Tryd.underlying4 _), (trodAll_cons_mk (Below.trod laidOut (by kernel_rfl) (of_decide_eq_true (by kernel_rfl)) h0 bel lt0) (trodAll_cons_mk (Below.trod laidOut (by kernel_rfl) (of_decide_eq_true (by kernel_rfl)) h1 bel lt1) (trodAll_cons_mk (Below.trod laidOut (by kernel_rfl) (of_decide_eq_true (by kernel_rfl)) h2 bel lt2) trodAll_mk0))), rfl, bel.frame _, fun h => by cases h⟩
  · have := Tryd.call6 #[v0, v1, v2] W
    rw [this] at hr
    cases hr

theorem said (P : Pure) : Rows.DateBackSaid :=
  OpenClaim.holds_of_wide 6 Tryd.f6 rfl rfl rfl rfl rfl rfl rfl ⟨rfl, rfl, rfl, rfl, rfl⟩ rfl rfl rfl rfl rfl (by kernel_rfl) Tryd.func6 (by kernel_rfl)
    (of_decide_eq_true (by kernel_rfl)) (by unfold Func.isWrapper; first | (rw [if_pos (by decide +kernel)]; kernel_rfl) | (rw [if_neg (by decide +kernel)]; exact ⟨rfl, rfl⟩))
    (fun os started H enc _ => lifted P os started H enc)
theorem card (h : Rows.DateBackSaid) : Rows.DateBackCardSaid :=
  Claim7.holds_tied_plain_at .later [] [.data, .data, .data, .data, .data, .data, .pinned] true (true, "dbc89a98acb0d59bef9944a9ceb547a8113fb130045e47f6066ac7b74ee12358") false
    h (fun _ h => by cases h) (by kernel_rfl) (fun _ h => by cases h) dateBack_row_tie rfl ⟨rfl, rfl⟩ (by kernel_rfl) rfl
    (fun f fn hf hfn => by
      obtain rfl : f = 6 := Option.some.inj ((show Tryd.prog.funcNamed "depot/depotlaw07.DateBack" = some 6 by kernel_rfl).symm.trans hf) |>.symm
      obtain rfl : fn = Tryd.f6 := (Option.some.inj (Tryd.func6.symm.trans hfn)).symm
      exact ⟨by kernel_rfl, fun j t ht => by
        rw [Tryd.params6] at ht
        have h3 : t ∈ [3, 3, 9] := List.mem_of_getElem? (by simpa using ht)
        simp only [List.mem_cons, List.mem_nil_iff, or_false] at h3
        rcases h3 with rfl | rfl | rfl
        · exact (show Tryd.prog.wantsStandIn 3 = false by kernel_rfl)
        · exact (show Tryd.prog.wantsStandIn 3 = false by kernel_rfl)
        · exact (show Tryd.prog.wantsStandIn 9 = false by kernel_rfl)⟩)
    (by kernel_rfl)
end Go.Proofs.YtmfbfdbjbnldaaaDoor.DateBack
namespace Go.Proofs.YtmfbfdbjbnldaaaDoor
theorem dateBack_proved : Rows.DateBackCardSaid := DateBack.card (DateBack.said (by unfold DateBack.Pure; intros; apply X.dateBack_pure <;> assumption))
#print axioms dateBack_proved
end Go.Proofs.YtmfbfdbjbnldaaaDoor
