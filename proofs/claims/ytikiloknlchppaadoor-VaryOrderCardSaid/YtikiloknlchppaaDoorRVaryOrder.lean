/- The given row and card of the law VaryOrder, out of what its plain Lean function gives. No condition beyond the card. -/
import Derived.Test.YtikiloknlchppaaDoorVG2
import Derived.Test.YtikiloknlchppaaDoorVL2
import Derived.Test.YtikiloknlchppaaDoorVP9
import Derived.Test.YtikiloknlchppaaDoorRows
import Derived.Test.YtikiloknlchppaaDoorCards
import Derived.Test.YtikiloknlchppaaDoorTie
import Derived.ProofKit
import Derived.LaidMore
import Derived.Lay
import Derived.OpenShut
import Derived.Stop.Joined
import Derived.SevenTiedAt
import Derived.ChangeOld
import Derived.Below
import Derived.SizedLaws
import Derived.WalkKit
import Derived.ShutString
namespace Go.Proofs.YtikiloknlchppaaDoor.VaryOrder
open Go Go.ChangeShapes Go.WideShapes Go.ChangeAt Go.RowKit Go.Dp
set_option linter.unusedVariables false

theorem own : ownKnob Tryd.prog.godebug = none := by kernel_rfl
theorem laidOut : laidOutB Tryd.prog = true := by kernel_rfl
def laid : List (String × DataW Unit) := [("unicode/utf8.acceptRanges", Rows.laid_unicode_utf8_acceptRanges), ("unicode/utf8.first", Rows.laid_unicode_utf8_first)]
theorem laid_met (os : Os) (args : Array Value) : laidMetH Tryd.prog laid ((World.laidAll Tryd.prog os laid).forCall (fun _ _ => 0) ⟨#[], args, []⟩).memory := by
  rw [MakeChecks.laidMetH_plain _ _ _ (by kernel_rfl)]
  exact laidMet_laidAll args (by kernel_rfl) (by kernel_rfl)

def Pure : Prop := ∀ (a0 : List ((List UInt8) × ((List UInt8) × (Unit)))), vok (.list (.scons .str (.scons .str .snil))) a0 → ∃ k, X.depotlaw15_VaryOrder k a0 = some true
set_option maxRecDepth 100000 in
theorem lifted (P : Pure) (os : Os) (started : os.Started) (H : Type) (enc : TypeId × Value → H) :
    ReturnsInHanded {} Tryd.checked os 6 .any (fun w args => (Rows.varyOrderSpec.pre enc Tryd.prog Tryd.f6 [] false w args ∧ laidMetH Tryd.prog laid w) ∧ sizedMet enc Tryd.prog Tryd.f6 (OpenSpec.ofChange Rows.varyOrderSpec) false w args)
      (Rows.varyOrderSpec.post enc Tryd.prog Tryd.f6 false true false false) := by
  refine returnsInHanded_open (C := Tryd.checked) (X := fun w _ => laidMetH Tryd.prog laid w) (fun _ _ _ hh h => h.of_heap hh) own started (by kernel_rfl) Tryd.func6
    (ChangeSpec.witness_shaped (enc := enc) (C := Tryd.checked) (os := os) (X := fun w _ => laidMetH Tryd.prog laid w) false (World.laidAll Tryd.prog os laid) #[.slice none 0 0] 8 rfl (World.shaped_of_RefB (by kernel_rfl) (by kernel_rfl)) (by kernel_rfl) (by kernel_rfl) (by kernel_rfl) (laid_met os _)) ?_
  intro W base args ds gs before hval0 hW hc hsz0 hL hSO _
  have hval : ∀ (j : Nat) t v, Tryd.f6.params[j]? = some t → args[j]? = some v → Value.okWide Tryd.prog W .any base t v := hval0
  have hW' := hW
  obtain ⟨p, q, hA0, hV, rfl, hfz, hnd⟩ := hW
  have hA : DataW.TrodAll enc Tryd.prog W 0 (fun _ => true) true Tryd.f6.params.toList args.toList ds p := hA0
  rw [Tryd.params6] at hA hval
  obtain ⟨v0, vs0, d0, ds0, p0, q0, hargs, rfl, rfl, h0, r0⟩ := trodAll_cons hA
  obtain ⟨rfl, rfl, rfl⟩ := trodAll_nil r0
  obtain rfl : args = #[v0] := by cases args; simp_all
  obtain ⟨rfl, rfl⟩ := trodVars_none hV
  obtain ⟨a0, w0, g0, e0⟩ := arg_enc (d := 30) (T := (.list (.scons .str (.scons .str .snil)))) (by kernel_rfl) (hval 0 26 v0 rfl rfl) h0
  have lt0 : ∀ x ∈ p0, x.block < W.heap.size := by obtain ⟨m, hm⟩ := h0; exact DataW.trod_lt m _ _ _ hm
  obtain ⟨k, hk⟩ := P a0 w0
  have hC := X.depotlaw15_VaryOrder.contract.calls k (a0, ()) true hk W (oldU W) #[v0] (fun _ h => h) (GlobOK.cons rfl rfl (sint_enc (zero := #[.int .i64 0]) (t := 3) hSO (of_decide_eq_true (by kernel_rfl)) (by kernel_rfl) rfl (by kernel_rfl) (by kernel_rfl) Tryd.underlying3) GlobOK.nil) (encT_arg g0 e0 encT_nil)
  rcases hC with ⟨_, hC⟩ | ⟨v, w', hr, _⟩
  · refine hC.mono fun e W' ⟨v, U', he, bel, _, hv⟩ => ?_
    have hv : v = .bool true := hv.bool
    subst he; subst hv
    exact ⟨_, rfl, _, _, _, [], _, [], hW', trodAll_mk1 (shut_bool Tryd.underlying4 _), (trodAll_cons_mk (Below.trod laidOut (by kernel_rfl) (of_decide_eq_true (by kernel_rfl)) h0 bel lt0) trodAll_mk0), rfl, bel.frame _, fun h => by cases h⟩
  · have := Tryd.call6 #[v0] W
    rw [this] at hr
    cases hr

theorem said (P : Pure) : Rows.VaryOrderSaid :=
  OpenClaim.holds_of_wide 6 Tryd.f6 rfl rfl rfl rfl rfl rfl rfl ⟨rfl, rfl, rfl, rfl, rfl⟩ rfl rfl rfl rfl rfl (by kernel_rfl) Tryd.func6 (by kernel_rfl)
    (of_decide_eq_true (by kernel_rfl)) (by unfold Func.isWrapper; first | (rw [if_pos (by decide +kernel)]; kernel_rfl) | (rw [if_neg (by decide +kernel)]; exact ⟨rfl, rfl⟩))
    (fun os started H enc _ => lifted P os started H enc)
theorem card (h : Rows.VaryOrderSaid) : Rows.VaryOrderCardSaid :=
  Claim7.holds_tied_plain_at .later [] [.data, .pinned] true (true, "cba0fda7a90021068a8061107a55c29f5511cd2caf3121e82e068d5a7551d9ba") false
    h (fun _ h => by cases h) (by kernel_rfl) (fun _ h => by cases h) varyOrder_row_tie rfl ⟨rfl, rfl⟩ (by kernel_rfl) rfl
    (fun f fn hf hfn => by
      obtain rfl : f = 6 := Option.some.inj ((show Tryd.prog.funcNamed "depot/depotlaw15.VaryOrder" = some 6 by kernel_rfl).symm.trans hf) |>.symm
      obtain rfl : fn = Tryd.f6 := (Option.some.inj (Tryd.func6.symm.trans hfn)).symm
      exact ⟨by kernel_rfl, fun j t ht => by
        rw [Tryd.params6] at ht
        have h3 : t ∈ [26] := List.mem_of_getElem? (by simpa using ht)
        simp only [List.mem_cons, List.mem_nil_iff, or_false] at h3
        subst h3
        exact (show Tryd.prog.wantsStandIn 26 = false by kernel_rfl)⟩)
    (by kernel_rfl)
end Go.Proofs.YtikiloknlchppaaDoor.VaryOrder
namespace Go.Proofs.YtikiloknlchppaaDoor
theorem varyOrder_proved : Rows.VaryOrderCardSaid := VaryOrder.card (VaryOrder.said (by unfold VaryOrder.Pure; intros; apply X.varyOrder_pure <;> assumption))
#print axioms varyOrder_proved
end Go.Proofs.YtikiloknlchppaaDoor
