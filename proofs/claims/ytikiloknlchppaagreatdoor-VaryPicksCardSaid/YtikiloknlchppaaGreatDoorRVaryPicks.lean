/- The given row and card of the law VaryPicks, out of what its plain Lean function gives. No condition beyond the card. -/
import Derived.Test.YtikiloknlchppaaGreatDoorWG2
import Derived.Test.YtikiloknlchppaaGreatDoorWL2
import Derived.Test.YtikiloknlchppaaGreatDoorWPb
import Derived.Test.YtikiloknlchppaaGreatDoorRows
import Derived.Test.YtikiloknlchppaaGreatDoorCards
import Derived.Test.YtikiloknlchppaaGreatDoorTie
import Derived.ProofKit
import Derived.LaidMore
import Derived.Lay
import Derived.OpenShut
import Derived.Stop.Joined
import Derived.SevenTiedAt
import Derived.ChangeOld
import Derived.Below
import Derived.SizedLaws
import Derived.WalkKit
import Derived.ShutString
namespace Go.Proofs.YtikiloknlchppaaGreatDoor.VaryPicks
open Go Go.ChangeShapes Go.WideShapes Go.ChangeAt Go.RowKit Go.Dp
set_option linter.unusedVariables false

theorem own : ownKnob Tryz.prog.godebug = none := by kernel_rfl
theorem laidOut : laidOutB Tryz.prog = true := by kernel_rfl
def laid : List (String × DataW Unit) := [("unicode/utf8.acceptRanges", Rows.laid_unicode_utf8_acceptRanges), ("unicode/utf8.first", Rows.laid_unicode_utf8_first)]
theorem laid_met (os : Os) (args : Array Value) : laidMetH Tryz.prog laid ((World.laidAll Tryz.prog os laid).forCall (fun _ _ => 0) ⟨#[], args, []⟩).memory := by
  rw [MakeChecks.laidMetH_plain _ _ _ (by kernel_rfl)]
  exact laidMet_laidAll args (by kernel_rfl) (by kernel_rfl)

def Pure : Prop := ∀ (a0 : List (List UInt8)) (a1 : List ((List UInt8) × ((List UInt8) × (Unit)))) (a2 : List ((List UInt8) × ((Bool) × ((List UInt8) × (Unit))))) (a3 : List ((List UInt8) × ((Bool) × ((List UInt8) × (Unit))))), vok (.list .str) a0 → vok (.list (.scons .str (.scons .str .snil))) a1 → vok (.list (.scons .str (.scons .bool (.scons .str .snil)))) a2 → vok (.list (.scons .str (.scons .bool (.scons .str .snil)))) a3 → ∃ k, X.depotlaw15_VaryPicks k a0 a1 a2 a3 = some true
set_option maxRecDepth 100000 in
theorem lifted (P : Pure) (os : Os) (started : os.Started) (H : Type) (enc : TypeId × Value → H) :
    ReturnsInHanded {} Tryz.checked os 6 .any (fun w args => (Rows.varyPicksSpec.pre enc Tryz.prog Tryz.f6 [] false w args ∧ laidMetH Tryz.prog laid w) ∧ sizedMet enc Tryz.prog Tryz.f6 (OpenSpec.ofChange Rows.varyPicksSpec) false w args)
      (Rows.varyPicksSpec.post enc Tryz.prog Tryz.f6 false true false false) := by
  refine returnsInHanded_open (C := Tryz.checked) (X := fun w _ => laidMetH Tryz.prog laid w) (fun _ _ _ hh h => h.of_heap hh) own started (by kernel_rfl) Tryz.func6
    (ChangeSpec.witness_shaped (enc := enc) (C := Tryz.checked) (os := os) (X := fun w _ => laidMetH Tryz.prog laid w) false (World.laidAll Tryz.prog os laid) #[.slice none 0 0, .slice none 0 0, .slice none 0 0, .slice none 0 0] 8 rfl (World.shaped_of_RefB (by kernel_rfl) (by kernel_rfl)) (by kernel_rfl) (by kernel_rfl) (by kernel_rfl) (laid_met os _)) ?_
  intro W base args ds gs before hval0 hW hc hsz0 hL hSO _
  have hval : ∀ (j : Nat) t v, Tryz.f6.params[j]? = some t → args[j]? = some v → Value.okWide Tryz.prog W .any base t v := hval0
  have hW' := hW
  obtain ⟨p, q, hA0, hV, rfl, hfz, hnd⟩ := hW
  have hA : DataW.TrodAll enc Tryz.prog W 0 (fun _ => true) true Tryz.f6.params.toList args.toList ds p := hA0
  rw [Tryz.params6] at hA hval
  obtain ⟨v0, vs0, d0, ds0, p0, q0, hargs, rfl, rfl, h0, r0⟩ := trodAll_cons hA
  obtain ⟨v1, vs1, d1, ds1, p1, q1, rfl, rfl, rfl, h1, r1⟩ := trodAll_cons r0
  obtain ⟨v2, vs2, d2, ds2, p2, q2, rfl, rfl, rfl, h2, r2⟩ := trodAll_cons r1
  obtain ⟨v3, vs3, d3, ds3, p3, q3, rfl, rfl, rfl, h3, r3⟩ := trodAll_cons r2
  obtain ⟨rfl, rfl, rfl⟩ := trodAll_nil r3
  obtain rfl : args = #[v0, v1, v2, v3] := by cases args; simp_all
  obtain ⟨rfl, rfl⟩ := trodVars_none hV
  obtain ⟨a0, w0, g0, e0⟩ := arg_enc (d := 30) (T := (.list .str)) (by kernel_rfl) (hval 0 32 v0 rfl rfl) h0
  have lt0 : ∀ x ∈ p0, x.block < W.heap.size := by obtain ⟨m, hm⟩ := h0; exact DataW.trod_lt m _ _ _ hm
  obtain ⟨a1, w1, g1, e1⟩ := arg_enc (d := 30) (T := (.list (.scons .str (.scons .str .snil)))) (by kernel_rfl) (hval 1 22 v1 rfl rfl) h1
  have lt1 : ∀ x ∈ p1, x.block < W.heap.size := by obtain ⟨m, hm⟩ := h1; exact DataW.trod_lt m _ _ _ hm
  obtain ⟨a2, w2, g2, e2⟩ := arg_enc (d := 30) (T := (.list (.scons .str (.scons .bool (.scons .str .snil))))) (by kernel_rfl) (hval 2 36 v2 rfl rfl) h2
  have lt2 : ∀ x ∈ p2, x.block < W.heap.size := by obtain ⟨m, hm⟩ := h2; exact DataW.trod_lt m _ _ _ hm
  obtain ⟨a3, w3, g3, e3⟩ := arg_enc (d := 30) (T := (.list (.scons .str (.scons .bool (.scons .str .snil))))) (by kernel_rfl) (hval 3 36 v3 rfl rfl) h3
  have lt3 : ∀ x ∈ p3, x.block < W.heap.size := by obtain ⟨m, hm⟩ := h3; exact DataW.trod_lt m _ _ _ hm
  obtain ⟨k, hk⟩ := P a0 a1 a2 a3 w0 w1 w2 w3
  have hC := X.depotlaw15_VaryPicks.contract.calls k (a0, a1, a2, a3, ()) true hk W (oldU W) #[v0, v1, v2, v3] (fun _ h => h) (GlobOK.cons rfl rfl (sint_enc (zero := #[.int .i64 0]) (t := 3) hSO (of_decide_eq_true (by kernel_rfl)) (by kernel_rfl) rfl (by kernel_rfl) (by kernel_rfl) Tryz.underlying3) GlobOK.nil) (encT_arg g0 e0 (encT_arg g1 e1 (encT_arg g2 e2 (encT_arg g3 e3 encT_nil))))
  rcases hC with ⟨_, hC⟩ | ⟨v, w', hr, _⟩
  · refine hC.mono fun e W' ⟨v, U', he, bel, _, hv⟩ => ?_
    have hv : v = .bool true := hv.bool
    subst he; subst hv
    exact ⟨_, rfl, _, _, _, [], _, [], hW', trodAll_mk1 (shut_bool Tryz.underlying4 _), (trodAll_cons_mk (Below.trod laidOut (by kernel_rfl) (of_decide_eq_true (by kernel_rfl)) h0 bel lt0) (trodAll_cons_mk (Below.trod laidOut (by kernel_rfl) (of_decide_eq_true (by kernel_rfl)) h1 bel lt1) (trodAll_cons_mk (Below.trod laidOut (by kernel_rfl) (of_decide_eq_true (by kernel_rfl)) h2 bel lt2) (trodAll_cons_mk (Below.trod laidOut (by kernel_rfl) (of_decide_eq_true (by kernel_rfl)) h3 bel lt3) trodAll_mk0)))), rfl, bel.frame _, fun h => by cases h⟩
  · have := Tryz.call6 #[v0, v1, v2, v3] W
    rw [this] at hr
    cases hr

theorem said (P : Pure) : Rows.VaryPicksSaid :=
  OpenClaim.holds_of_wide 6 Tryz.f6 rfl rfl rfl rfl rfl rfl rfl ⟨rfl, rfl, rfl, rfl, rfl⟩ rfl rfl rfl rfl rfl (by kernel_rfl) Tryz.func6 (by kernel_rfl)
    (of_decide_eq_true (by kernel_rfl)) (by unfold Func.isWrapper; first | (rw [if_pos (by decide +kernel)]; kernel_rfl) | (rw [if_neg (by decide +kernel)]; exact ⟨rfl, rfl⟩))
    (fun os started H enc _ => lifted P os started H enc)
theorem card (h : Rows.VaryPicksSaid) : Rows.VaryPicksCardSaid :=
  Claim7.holds_tied_plain_at .later [] [.data, .pinned] true (true, "aad0db56bbf9a98f9c59e69afd3640e83d3adab032cf4a040cd5ae1f416dce3b") false
    h (fun _ h => by cases h) (by kernel_rfl) (fun _ h => by cases h) varyPicks_row_tie rfl ⟨rfl, rfl⟩ (by kernel_rfl) rfl
    (fun f fn hf hfn => by
      obtain rfl : f = 6 := Option.some.inj ((show Tryz.prog.funcNamed "depot/depotlaw15.VaryPicks" = some 6 by kernel_rfl).symm.trans hf) |>.symm
      obtain rfl : fn = Tryz.f6 := (Option.some.inj (Tryz.func6.symm.trans hfn)).symm
      exact ⟨by kernel_rfl, fun j t ht => by
        rw [Tryz.params6] at ht
        have h3 : t ∈ [32, 22, 36, 36] := List.mem_of_getElem? (by simpa using ht)
        simp only [List.mem_cons, List.mem_nil_iff, or_false] at h3
        rcases h3 with rfl | rfl | rfl | rfl
        · exact (show Tryz.prog.wantsStandIn 32 = false by kernel_rfl)
        · exact (show Tryz.prog.wantsStandIn 22 = false by kernel_rfl)
        · exact (show Tryz.prog.wantsStandIn 36 = false by kernel_rfl)
        · exact (show Tryz.prog.wantsStandIn 36 = false by kernel_rfl)⟩)
    (by kernel_rfl)
end Go.Proofs.YtikiloknlchppaaGreatDoor.VaryPicks
namespace Go.Proofs.YtikiloknlchppaaGreatDoor
theorem varyPicks_proved : Rows.VaryPicksCardSaid := VaryPicks.card (VaryPicks.said (by unfold VaryPicks.Pure; intros; apply X.varyPicks_pure <;> assumption))
#print axioms varyPicks_proved
end Go.Proofs.YtikiloknlchppaaGreatDoor
