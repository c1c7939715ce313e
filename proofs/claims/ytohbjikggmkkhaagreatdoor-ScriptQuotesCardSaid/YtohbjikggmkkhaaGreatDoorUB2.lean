/- That the machine comes to the plain functions. No condition. -/
import Derived.Test.YtohbjikggmkkhaaGreatDoorUB1
import Derived.Test.YtohbjikggmkkhaaGreatDoorChecked
import Derived.KernelRfl
import Derived.Eval
set_option linter.unusedVariables false
set_option maxRecDepth 20000
namespace Go.Proofs.Y
open Go Go.Dp


def ti : List (Nat × TI) := [(3, ⟨.int .i64, 1, 8, (.int .i64)⟩),
  (4, ⟨.bool, 1, 1, .bool⟩),
  (5, ⟨.int .u8, 1, 1, (.int .u8)⟩),
  (53, ⟨.slice 5, 1, 24, (.list (.int .u8))⟩)]
def gl : List (Nat × TV) := []
theorem tiOK : ti.all (fun p => tiOK1 Tryz.prog p.1 p.2) = true := by kernel_rfl
theorem mixed : Tryz.prog.follows .mixedOrders = true := Checked.mixed Tryz.checked
theorem kn {E : Dp.Env} (h : E.ti = ti) (hf : FnsOK Tryz.prog E) : Known0 Tryz.prog E := ⟨TIok_of (by rw [h]; exact tiOK), hf, mixed⟩
theorem eqR {α β : Type} {r l : Nat → α → Option β} (t : (α → Option β) → α → Option β) (hs : ∀ n x, r (n + 1) x = t (r n) x) (hl : ∀ n x, l (n + 1) x = t (l n) x) (h0 : ∀ x, r 0 x = l 0 x) : ∀ n, r n = l n
  | 0 => funext h0
  | n + 1 => funext fun x => by rw [hs, hl, eqR t hs hl h0 n]

def flash_blank.spec : Dp.Spec := ⟨(.scons (.int .i64) .snil), (.list (.int .u8)), false, fun K x => flash_blank K x.1⟩
def flash_blank.hint : Dp.Hint := { n := 17, loops := [(3, { regs := [(3, (.slw 1)), (8, (.int .i64)), (9, (.int .i64))], heap := [(.row (.int .u8)), (.row (.int .u8))] }, [(.exit 0, { regs := [(3, (.slw 1))], heap := [(.row (.int .u8)), (.row (.int .u8))] })])], own := [2, 6] }
noncomputable def flash_blank.env : Dp.Env := ⟨ti, gl, [], [], [(94, Tryz.f94, flash_blank.hint)], [], 0, 40⟩
noncomputable def flash_blank.r0 (K : Nat) : Nat → (((Unit) × ((Int) × ((Int) × (Unit)))) × ((List (Int)) × ((List (Int)) × (Unit)))) → Option ((((Unit) × (Unit)) × ((List (Int)) × ((List (Int)) × (Unit))))) :=
  loopV [(.exit 0, { regs := [(3, (.slw 1))], heap := [(.row (.int .u8)), (.row (.int .u8))] })] { regs := [(3, (.slw 1)), (8, (.int .i64)), (9, (.int .i64))], heap := [(.row (.int .u8)), (.row (.int .u8))] } (interp (flash_blank.env.at K) flash_blank.hint (callF (flash_blank.env.at K) 7) (Code.sub [1, 1, 0, 1, 0, 0] (Tryz.f94.body.getD .skip)) _)
theorem flash_blank.s0 (K n : Nat) (x : (((Unit) × ((Int) × ((Int) × (Unit)))) × ((List (Int)) × ((List (Int)) × (Unit))))) : flash_blank.r0 K (n + 1) x = flash_blank.t0 K (flash_blank.r0 K n) x := by kernel_rfl
theorem flash_blank.e0 (K n : Nat) : flash_blank.r0 K n = flash_blank.l0 K n := eqR (l := flash_blank.l0 K) _ (flash_blank.s0 K) (fun _ _ => rfl) (fun _ => rfl) n
theorem flash_blank.body_eq (K : Nat) (x : flash_blank.spec.args.den) : body (flash_blank.env.at K) 8 94 flash_blank.spec x = flash_blank.tr (flash_blank.r0 K) K x.1 := by kernel_rfl
theorem flash_blank.contract : Contract Tryz.prog gl 94 flash_blank.spec :=
  contract_of (E := flash_blank.env) (kn rfl (FnsOK_of ⟨⟨Tryz.func94, Tryz.call94⟩, trivial⟩)) (SpecsOK_of trivial) Tryz.call94 rfl rfl fun K x r h => by
    rw [flash_blank.body_eq, show flash_blank.r0 K = flash_blank.l0 K from funext (flash_blank.e0 K)]; exact h
def flash_blank.ospec : Dp.OSpec := { args := (.scons (.int .i64) .snil), e := (.int .u8), F := fun K x => flash_blank K x.1 }
theorem flash_blank.obody_eq (K : Nat) (x : flash_blank.ospec.args.den) : bodyO (flash_blank.env.at K) 8 94 flash_blank.ospec x = flash_blank.tr (flash_blank.r0 K) K x.1 := by kernel_rfl
theorem flash_blank.ocontract : OContract Tryz.prog gl 94 flash_blank.ospec :=
  ocontract_of (E := flash_blank.env) (kn rfl (FnsOK_of ⟨⟨Tryz.func94, Tryz.call94⟩, trivial⟩)) (SpecsOK_of trivial) Tryz.call94 rfl rfl rfl fun K x r h => by
    rw [flash_blank.obody_eq, show flash_blank.r0 K = flash_blank.l0 K from funext (flash_blank.e0 K)]; exact h

def page_Blank.spec : Dp.Spec := ⟨(.scons (.list (.int .u8)) .snil), .bool, false, fun K x => page_Blank K x.1⟩
def page_Blank.hint : Dp.Hint := { n := 14, loops := [(2, { regs := [(5, (.list (.int .u8))), (6, (.int .i64)), (7, (.int .i64))] }, [(.exit 0, { regs := [] }), (.ret, { regs := [(2, .bool)] })])] }
noncomputable def page_Blank.env : Dp.Env := ⟨ti, gl, [], [], [(237, Tryz.f237, page_Blank.hint)], [], 0, 40⟩
noncomputable def page_Blank.r0 (K : Nat) : Nat → (((List (Int)) × ((Int) × ((Int) × (Unit)))) × (Unit)) → Option (((Unit) × (Unit)) ⊕ (((Bool) × (Unit)) × (Unit))) :=
  loopV [(.exit 0, { regs := [] }), (.ret, { regs := [(2, .bool)] })] { regs := [(5, (.list (.int .u8))), (6, (.int .i64)), (7, (.int .i64))] } (interp (page_Blank.env.at K) page_Blank.hint (callF (page_Blank.env.at K) 7) (Code.sub [1, 0, 1, 0, 0] (Tryz.f237.body.getD .skip)) _)
theorem page_Blank.s0 (K n : Nat) (x : (((List (Int)) × ((Int) × ((Int) × (Unit)))) × (Unit))) : page_Blank.r0 K (n + 1) x = page_Blank.t0 K (page_Blank.r0 K n) x := by kernel_rfl
theorem page_Blank.e0 (K n : Nat) : page_Blank.r0 K n = page_Blank.l0 K n := eqR (l := page_Blank.l0 K) _ (page_Blank.s0 K) (fun _ _ => rfl) (fun _ => rfl) n
theorem page_Blank.body_eq (K : Nat) (x : page_Blank.spec.args.den) : body (page_Blank.env.at K) 8 237 page_Blank.spec x = page_Blank.tr (page_Blank.r0 K) K x.1 := by kernel_rfl
theorem page_Blank.contract : Contract Tryz.prog gl 237 page_Blank.spec :=
  contract_of (E := page_Blank.env) (kn rfl (FnsOK_of ⟨⟨Tryz.func237, Tryz.call237⟩, trivial⟩)) (SpecsOK_of trivial) Tryz.call237 rfl rfl fun K x r h => by
    rw [page_Blank.body_eq, show page_Blank.r0 K = page_Blank.l0 K from funext (page_Blank.e0 K)]; exact h

end Go.Proofs.Y