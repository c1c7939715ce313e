/- That the machine comes to the plain functions. No condition. -/
import Derived.Test.YtohbjikggmkkhaaGreatDoorUA1
import Derived.Test.YtohbjikggmkkhaaGreatDoorUA3
import Derived.Test.YtohbjikggmkkhaaGreatDoorChecked
import Derived.KernelRfl
import Derived.Eval
set_option linter.unusedVariables false
set_option maxRecDepth 20000
namespace Go.Proofs.X
open Go Go.Dp


def ti : List (Nat × TI) := [(1, ⟨.fn, 1, 8, .nilf⟩),
  (2, ⟨.int .i64, 1, 8, (.int .i64)⟩),
  (3, ⟨.int .i64, 1, 8, (.int .i64)⟩),
  (4, ⟨.bool, 1, 1, .bool⟩),
  (5, ⟨.int .u8, 1, 1, (.int .u8)⟩),
  (9, ⟨.str, 1, 16, .str⟩),
  (23, ⟨.int .i64, 1, 8, (.int .i64)⟩),
  (53, ⟨.slice 5, 1, 24, (.list (.int .u8))⟩),
  (85, ⟨.fn, 1, 8, .nilf⟩),
  (98, ⟨.slice 100, 1, 24, (.list (.scons (.int .u8) (.scons (.int .u8) .snil)))⟩),
  (100, ⟨.arr 2 5, 2, 2, (.scons (.int .u8) (.scons (.int .u8) .snil))⟩),
  (102, ⟨.int .u64, 1, 8, (.int .u64)⟩),
  (134, ⟨.fn, 1, 8, .nilf⟩),
  (136, ⟨.fn, 1, 8, .nilf⟩),
  (151, ⟨.slice 136, 1, 24, (.list .nilf)⟩)]

theorem tiOK : ti.all (fun p => tiOK1 Tryz.prog p.1 p.2) = true := by kernel_rfl
theorem mixed : Tryz.prog.follows .mixedOrders = true := Checked.mixed Tryz.checked
theorem kn {E : Dp.Env} (h : E.ti = ti) (hf : FnsOK Tryz.prog E) : Known0 Tryz.prog E := ⟨TIok_of (by rw [h]; exact tiOK), hf, mixed⟩
theorem eqR {α β : Type} {r l : Nat → α → Option β} (t : (α → Option β) → α → Option β) (hs : ∀ n x, r (n + 1) x = t (r n) x) (hl : ∀ n x, l (n + 1) x = t (l n) x) (h0 : ∀ x, r 0 x = l 0 x) : ∀ n, r n = l n
  | 0 => funext h0
  | n + 1 => funext fun x => by rw [hs, hl, eqR t hs hl h0 n]

def textsC.spec : Dp.Spec := Cm.spec0
theorem textsC.contract : Contract Tryz.prog gl 6 textsC.spec := textsC_ok
def script_marks.spec : Dp.Spec := ⟨.snil, (.list (.scons (.int .u8) (.scons (.int .u8) .snil))), false, fun K x => script_marks K⟩
def script_marks.hint : Dp.Hint := { n := 7 }
noncomputable def script_marks.env : Dp.Env := ⟨ti, gl, [], [], [(46, Tryz.f46, script_marks.hint)], [], 0, 40⟩
theorem script_marks.body_eq (K : Nat) (x : script_marks.spec.args.den) : body (script_marks.env.at K) 8 46 script_marks.spec x = script_marks K := by kernel_rfl
theorem script_marks.contract : Contract Tryz.prog gl 46 script_marks.spec :=
  contract_of (E := script_marks.env) (kn rfl (FnsOK_of ⟨⟨Tryz.func46, Tryz.call46⟩, trivial⟩)) (SpecsOK_of trivial) Tryz.call46 rfl rfl fun K x r h => by
    rw [script_marks.body_eq]; exact h

def octet_from.spec : Dp.Spec := ⟨(.scons (.int .u8) (.scons (.int .u8) .snil)), (.fn 85 (.scons (.ref (.int .u8)) (.scons (.ref (.int .u8)) .snil))), false, fun K x => octet_from K x.1 x.2.1⟩
def octet_from.hint : Dp.Hint := { n := 6, imm := [2, 3] }
noncomputable def octet_from.env : Dp.Env := ⟨ti, gl, [], [], [(67, Tryz.f67, octet_from.hint)], [], 0, 40⟩
theorem octet_from.body_eq (K : Nat) (x : octet_from.spec.args.den) : body (octet_from.env.at K) 8 67 octet_from.spec x = octet_from K x.1 x.2.1 := by kernel_rfl
theorem octet_from.contract : Contract Tryz.prog gl 67 octet_from.spec :=
  contract_of (E := octet_from.env) (kn rfl (FnsOK_of ⟨⟨Tryz.func67, Tryz.call67⟩, trivial⟩)) (SpecsOK_of trivial) Tryz.call67 rfl rfl fun K x r h => by
    rw [octet_from.body_eq]; exact h

def octet_from_c1.spec : Dp.Spec := ⟨(.scons (.int .u8) (.scons (.ref (.int .u8)) (.scons (.ref (.int .u8)) .snil))), .bool, false, fun K x => octet_from_c1 K x.1 x.2.1 x.2.2.1⟩
def octet_from_c1.hint : Dp.Hint := { n := 13 }
noncomputable def octet_from_c1.env : Dp.Env := ⟨ti, gl, [], [], [(85, Tryz.f85, octet_from_c1.hint)], [], 0, 40⟩
theorem octet_from_c1.body_eq (K : Nat) (x : octet_from_c1.spec.args.den) : body (octet_from_c1.env.at K) 8 85 octet_from_c1.spec x = octet_from_c1 K x.1 x.2.1 x.2.2.1 := by kernel_rfl
theorem octet_from_c1.contract : Contract Tryz.prog gl 85 octet_from_c1.spec :=
  contract_of (E := octet_from_c1.env) (kn rfl (FnsOK_of ⟨⟨Tryz.func85, Tryz.call85⟩, trivial⟩)) (SpecsOK_of trivial) Tryz.call85 rfl rfl fun K x r h => by
    rw [octet_from_c1.body_eq]; exact h

def octet_is__from_c1.spec : Dp.Spec := ⟨(.scons (.int .u8) (.scons (.hl (.scons (.fn 85 (.scons (.ref (.int .u8)) (.scons (.ref (.int .u8)) .snil))) .snil)) .snil)), .bool, false, fun K x => octet_is__from_c1 K x.1 x.2.1⟩
def octet_is__from_c1.hint : Dp.Hint := { n := 17 }
noncomputable def octet_is__from_c1.env : Dp.Env := ⟨ti, gl, [], [], [(66, Tryz.f66, octet_is__from_c1.hint)], [(85, octet_from_c1.spec)], 0, 40⟩
theorem octet_is__from_c1.body_eq (K : Nat) (x : octet_is__from_c1.spec.args.den) : body (octet_is__from_c1.env.at K) 8 66 octet_is__from_c1.spec x = octet_is__from_c1 K x.1 x.2.1 := by kernel_rfl
theorem octet_is__from_c1.contract : Contract Tryz.prog gl 66 octet_is__from_c1.spec :=
  contract_of (E := octet_is__from_c1.env) (kn rfl (FnsOK_of ⟨⟨Tryz.func66, Tryz.call66⟩, trivial⟩)) (SpecsOK_of ⟨octet_from_c1.contract, trivial⟩) Tryz.call66 rfl rfl fun K x r h => by
    rw [octet_is__from_c1.body_eq]; exact h

def octet_Digit.spec : Dp.Spec := ⟨(.scons (.int .u8) .snil), .bool, false, fun K x => octet_Digit K x.1⟩
def octet_Digit.hint : Dp.Hint := { n := 7 }
noncomputable def octet_Digit.env : Dp.Env := ⟨ti, gl, [], [], [(65, Tryz.f65, octet_Digit.hint)], [(67, octet_from.spec), (66, octet_is__from_c1.spec)], 0, 40⟩
theorem octet_Digit.body_eq (K : Nat) (x : octet_Digit.spec.args.den) : body (octet_Digit.env.at K) 8 65 octet_Digit.spec x = octet_Digit K x.1 := by kernel_rfl
theorem octet_Digit.contract : Contract Tryz.prog gl 65 octet_Digit.spec :=
  contract_of (E := octet_Digit.env) (kn rfl (FnsOK_of ⟨⟨Tryz.func65, Tryz.call65⟩, trivial⟩)) (SpecsOK_of ⟨octet_from.contract, octet_is__from_c1.contract, trivial⟩) Tryz.call65 rfl rfl fun K x r h => by
    rw [octet_Digit.body_eq]; exact h

def octet_Hex.spec : Dp.Spec := ⟨(.scons (.int .u8) .snil), (.tup (.scons (.int .i64) (.scons .bool .snil))), false, fun K x => octet_Hex K x.1⟩
def octet_Hex.hint : Dp.Hint := { n := 28 }
noncomputable def octet_Hex.env : Dp.Env := ⟨ti, gl, [], [], [(47, Tryz.f47, octet_Hex.hint)], [(67, octet_from.spec), (66, octet_is__from_c1.spec), (65, octet_Digit.spec)], 0, 40⟩
theorem octet_Hex.body_eq (K : Nat) (x : octet_Hex.spec.args.den) : body (octet_Hex.env.at K) 8 47 octet_Hex.spec x = octet_Hex K x.1 := by kernel_rfl
theorem octet_Hex.contract : Contract Tryz.prog gl 47 octet_Hex.spec :=
  contract_of (E := octet_Hex.env) (kn rfl (FnsOK_of ⟨⟨Tryz.func47, Tryz.call47⟩, trivial⟩)) (SpecsOK_of ⟨octet_from.contract, octet_is__from_c1.contract, octet_Digit.contract, trivial⟩) Tryz.call47 rfl rfl fun K x r h => by
    rw [octet_Hex.body_eq]; exact h

def script_unescaped.spec : Dp.Spec := ⟨(.scons .str .snil), (.tup (.scons (.int .u8) (.scons (.int .i64) .snil))), false, fun K x => script_unescaped K x.1⟩
def script_unescaped.hint : Dp.Hint := { n := 83, regions := [(1, [(.normal, { regs := [(0, .str), (10, .bool)] })]), (13, [(.normal, { regs := [(0, .str), (59, .bool)] })]), (17, [(.normal, { regs := [(6, (.int .i64)), (8, (.int .i64)), (77, .bool)] })])], loops := [(8, { regs := [(0, .str), (38, (.list (.scons (.int .u8) (.scons (.int .u8) .snil)))), (39, (.int .i64)), (40, (.int .i64))] }, [(.exit 1, { regs := [(0, .str)] }), (.ret, { regs := [(2, (.int .u8)), (3, (.int .i64))] })])] }
noncomputable def script_unescaped.env : Dp.Env := ⟨ti, gl, [], [], [(19, Tryz.f19, script_unescaped.hint)], [(46, script_marks.spec), (47, octet_Hex.spec)], 0, 40⟩
noncomputable def script_unescaped.r0 (K : Nat) : Nat → (((List UInt8) × ((List Jq0) × Jq0)) × (Unit)) → Option ((((List UInt8) × (Unit)) × (Unit)) ⊕ (Jq0 × (Unit))) :=
  loopV [(.exit 1, { regs := [(0, .str)] }), (.ret, { regs := [(2, (.int .u8)), (3, (.int .i64))] })] { regs := [(0, .str), (38, (.list (.scons (.int .u8) (.scons (.int .u8) .snil)))), (39, (.int .i64)), (40, (.int .i64))] } (interp (script_unescaped.env.at K) script_unescaped.hint (callF (script_unescaped.env.at K) 7) (Code.sub [1, 1, 0, 1, 0, 0] (Tryz.f19.body.getD .skip)) _)
theorem script_unescaped.s0 (K n : Nat) (x : (((List UInt8) × ((List Jq0) × Jq0)) × (Unit))) : script_unescaped.r0 K (n + 1) x = script_unescaped.t0 K (script_unescaped.r0 K n) x := by kernel_rfl
theorem script_unescaped.e0 (K n : Nat) : script_unescaped.r0 K n = script_unescaped.l0 K n := eqR (l := script_unescaped.l0 K) _ (script_unescaped.s0 K) (fun _ _ => rfl) (fun _ => rfl) n
theorem script_unescaped.body_eq (K : Nat) (x : script_unescaped.spec.args.den) : body (script_unescaped.env.at K) 8 19 script_unescaped.spec x = script_unescaped.tr (script_unescaped.r0 K) K x.1 := by kernel_rfl
theorem script_unescaped.contract : Contract Tryz.prog gl 19 script_unescaped.spec :=
  contract_of (E := script_unescaped.env) (kn rfl (FnsOK_of ⟨⟨Tryz.func19, Tryz.call19⟩, trivial⟩)) (SpecsOK_of ⟨script_marks.contract, octet_Hex.contract, trivial⟩) Tryz.call19 rfl rfl fun K x r h => by
    rw [script_unescaped.body_eq, show script_unescaped.r0 K = script_unescaped.l0 K from funext (script_unescaped.e0 K)]; exact h

def script_Unquote.spec : Dp.Spec := ⟨(.scons .str .snil), (.tup (.scons .str (.scons (.int .i64) (.scons (.int .i64) .snil)))), false, fun K x => script_Unquote K x.1⟩
def script_Unquote.hint : Dp.Hint := { n := 44, regions := [(1, [(.normal, { regs := [(0, .str), (15, .bool)] })])], loops := [(5, { regs := [(0, .str), (5, (.slw 0)), (6, (.int .i64))], heap := [(.row (.int .u8))], app := [0] }, [(.exit 0, { regs := [], heap := [(.row (.int .u8))], app := [0] }), (.ret, { regs := [(2, .str), (3, (.int .i64)), (4, (.int .i64))], heap := [(.row (.int .u8))], app := [0] })])], own := [5] }
noncomputable def script_Unquote.env : Dp.Env := ⟨ti, gl, [], [], [(7, Tryz.f7, script_Unquote.hint)], [(19, script_unescaped.spec)], 0, 40⟩
noncomputable def script_Unquote.r0 (K : Nat) : Nat → (((List UInt8) × ((Unit) × ((Int) × (Unit)))) × Jq2) → Option (((Unit) × Jq2) ⊕ (((List UInt8) × Jq0) × Jq2)) :=
  loopV [(.exit 0, { regs := [], heap := [(.row (.int .u8))], app := [0] }), (.ret, { regs := [(2, .str), (3, (.int .i64)), (4, (.int .i64))], heap := [(.row (.int .u8))], app := [0] })] { regs := [(0, .str), (5, (.slw 0)), (6, (.int .i64))], heap := [(.row (.int .u8))], app := [0] } (interp (script_Unquote.env.at K) script_Unquote.hint (callF (script_Unquote.env.at K) 7) (Code.sub [1, 1, 1, 0, 1, 0, 0] (Tryz.f7.body.getD .skip)) _)
theorem script_Unquote.s0 (K n : Nat) (x : (((List UInt8) × ((Unit) × ((Int) × (Unit)))) × Jq2)) : script_Unquote.r0 K (n + 1) x = script_Unquote.t0 K (script_Unquote.r0 K n) x := by kernel_rfl
theorem script_Unquote.e0 (K n : Nat) : script_Unquote.r0 K n = script_Unquote.l0 K n := eqR (l := script_Unquote.l0 K) _ (script_Unquote.s0 K) (fun _ _ => rfl) (fun _ => rfl) n
theorem script_Unquote.body_eq (K : Nat) (x : script_Unquote.spec.args.den) : body (script_Unquote.env.at K) 8 7 script_Unquote.spec x = script_Unquote.tr (script_Unquote.r0 K) K x.1 := by kernel_rfl
theorem script_Unquote.contract : Contract Tryz.prog gl 7 script_Unquote.spec :=
  contract_of (E := script_Unquote.env) (kn rfl (FnsOK_of ⟨⟨Tryz.func7, Tryz.call7⟩, trivial⟩)) (SpecsOK_of ⟨script_unescaped.contract, trivial⟩) Tryz.call7 rfl rfl fun K x r h => by
    rw [script_Unquote.body_eq, show script_Unquote.r0 K = script_Unquote.l0 K from funext (script_Unquote.e0 K)]; exact h

def depotref01_Hex.spec : Dp.Spec := ⟨(.scons (.int .u8) .snil), (.tup (.scons (.int .i64) (.scons .bool .snil))), false, fun K x => depotref01_Hex K x.1⟩
def depotref01_Hex.hint : Dp.Hint := { n := 24, regions := [(5, [(.normal, { regs := [(0, (.int .u8)), (4, .str), (5, .str), (6, (.int .i64)), (22, .bool)] })])], loops := [(3, { regs := [(0, (.int .u8)), (4, .str), (5, .str), (6, (.int .i64))] }, [(.exit 0, { regs := [] }), (.ret, { regs := [(2, (.int .i64)), (3, .bool)] })])] }
noncomputable def depotref01_Hex.env : Dp.Env := ⟨ti, gl, [], [], [(20, Tryz.f20, depotref01_Hex.hint)], [], 0, 40⟩
noncomputable def depotref01_Hex.r0 (K : Nat) : Nat → (((Int) × Jq1) × (Unit)) → Option (((Unit) × (Unit)) ⊕ (Jq3 × (Unit))) :=
  loopV [(.exit 0, { regs := [] }), (.ret, { regs := [(2, (.int .i64)), (3, .bool)] })] { regs := [(0, (.int .u8)), (4, .str), (5, .str), (6, (.int .i64))] } (interp (depotref01_Hex.env.at K) depotref01_Hex.hint (callF (depotref01_Hex.env.at K) 7) (Code.sub [1, 1, 0, 1, 0, 0] (Tryz.f20.body.getD .skip)) _)
theorem depotref01_Hex.s0 (K n : Nat) (x : (((Int) × Jq1) × (Unit))) : depotref01_Hex.r0 K (n + 1) x = depotref01_Hex.t0 K (depotref01_Hex.r0 K n) x := by kernel_rfl
theorem depotref01_Hex.e0 (K n : Nat) : depotref01_Hex.r0 K n = depotref01_Hex.l0 K n := eqR (l := depotref01_Hex.l0 K) _ (depotref01_Hex.s0 K) (fun _ _ => rfl) (fun _ => rfl) n
theorem depotref01_Hex.body_eq (K : Nat) (x : depotref01_Hex.spec.args.den) : body (depotref01_Hex.env.at K) 8 20 depotref01_Hex.spec x = depotref01_Hex.tr (depotref01_Hex.r0 K) K x.1 := by kernel_rfl
theorem depotref01_Hex.contract : Contract Tryz.prog gl 20 depotref01_Hex.spec :=
  contract_of (E := depotref01_Hex.env) (kn rfl (FnsOK_of ⟨⟨Tryz.func20, Tryz.call20⟩, trivial⟩)) (SpecsOK_of trivial) Tryz.call20 rfl rfl fun K x r h => by
    rw [depotref01_Hex.body_eq, show depotref01_Hex.r0 K = depotref01_Hex.l0 K from funext (depotref01_Hex.e0 K)]; exact h

def depotref36_Unquote.spec : Dp.Spec := ⟨(.scons .str .snil), (.tup (.scons .str (.scons (.int .i64) (.scons (.int .i64) .snil)))), false, fun K x => depotref36_Unquote K x.1⟩
def depotref36_Unquote.hint : Dp.Hint := { n := 123, conds := [(59, [(.normal, { regs := [(0, .str), (5, .str), (6, (.int .i64)), (8, (.int .i64))] }), (.ret, { regs := [(2, .str), (3, (.int .i64)), (4, (.int .i64))] })]), (63, [(.normal, { regs := [(0, .str), (5, .str), (6, (.int .i64)), (8, (.int .i64))] }), (.ret, { regs := [(2, .str), (3, (.int .i64)), (4, (.int .i64))] })]), (67, [(.normal, { regs := [(0, .str), (5, .str), (6, (.int .i64)), (8, (.int .i64))] }), (.ret, { regs := [(2, .str), (3, (.int .i64)), (4, (.int .i64))] })])], blocks := [(1, [(.normal, { regs := [(0, .str), (5, .str), (6, (.int .i64))] }), (.ret, { regs := [(2, .str), (3, (.int .i64)), (4, (.int .i64))] })])], regions := [(1, [(.normal, { regs := [(0, .str), (20, .bool)] })]), (9, [(.normal, { regs := [(0, .str), (5, .str), (6, (.int .i64)), (7, (.int .u8)), (38, .bool)] })]), (33, [(.normal, { regs := [(0, .str), (5, .str), (6, (.int .i64)), (9, (.int .i64)), (11, (.int .i64)), (110, .bool)] })])], loops := [(5, { regs := [(0, .str), (5, .str), (6, (.int .i64))] }, [(.exit 0, { regs := [] }), (.ret, { regs := [(2, .str), (3, (.int .i64)), (4, (.int .i64))] })])] }
noncomputable def depotref36_Unquote.env : Dp.Env := ⟨ti, gl, [], [], [(8, Tryz.f8, depotref36_Unquote.hint)], [(20, depotref01_Hex.spec)], 0, 40⟩
noncomputable def depotref36_Unquote.r0 (K : Nat) : Nat → (Jq1 × (Unit)) → Option (((Unit) × (Unit)) ⊕ (((List UInt8) × Jq0) × (Unit))) :=
  loopV [(.exit 0, { regs := [] }), (.ret, { regs := [(2, .str), (3, (.int .i64)), (4, (.int .i64))] })] { regs := [(0, .str), (5, .str), (6, (.int .i64))] } (interp (depotref36_Unquote.env.at K) depotref36_Unquote.hint (callF (depotref36_Unquote.env.at K) 7) (Code.sub [1, 1, 1, 1, 0, 0, 0] (Tryz.f8.body.getD .skip)) _)
theorem depotref36_Unquote.s0 (K n : Nat) (x : (Jq1 × (Unit))) : depotref36_Unquote.r0 K (n + 1) x = depotref36_Unquote.t0 K (depotref36_Unquote.r0 K n) x := by kernel_rfl
theorem depotref36_Unquote.e0 (K n : Nat) : depotref36_Unquote.r0 K n = depotref36_Unquote.l0 K n := eqR (l := depotref36_Unquote.l0 K) _ (depotref36_Unquote.s0 K) (fun _ _ => rfl) (fun _ => rfl) n
theorem depotref36_Unquote.body_eq (K : Nat) (x : depotref36_Unquote.spec.args.den) : body (depotref36_Unquote.env.at K) 8 8 depotref36_Unquote.spec x = depotref36_Unquote.tr (depotref36_Unquote.r0 K) K x.1 := by kernel_rfl
theorem depotref36_Unquote.contract : Contract Tryz.prog gl 8 depotref36_Unquote.spec :=
  contract_of (E := depotref36_Unquote.env) (kn rfl (FnsOK_of ⟨⟨Tryz.func8, Tryz.call8⟩, trivial⟩)) (SpecsOK_of ⟨depotref01_Hex.contract, trivial⟩) Tryz.call8 rfl rfl fun K x r h => by
    rw [depotref36_Unquote.body_eq, show depotref36_Unquote.r0 K = depotref36_Unquote.l0 K from funext (depotref36_Unquote.e0 K)]; exact h

def script_escaped.spec : Dp.Spec := ⟨(.scons (.int .u8) .snil), (.list (.int .u8)), false, fun K x => script_escaped K x.1⟩
def script_escaped.hint : Dp.Hint := { n := 34, regions := [(7, [(.normal, { regs := [(0, (.int .u8)), (24, .bool)] })])], loops := [(2, { regs := [(0, (.int .u8)), (5, (.list (.scons (.int .u8) (.scons (.int .u8) .snil)))), (6, (.int .i64)), (7, (.int .i64))] }, [(.exit 0, { regs := [(0, (.int .u8))] }), (.ret, { regs := [(2, (.list (.int .u8)))] })])] }
noncomputable def script_escaped.env : Dp.Env := ⟨ti, gl, [], [], [(21, Tryz.f21, script_escaped.hint)], [(46, script_marks.spec)], 0, 40⟩
noncomputable def script_escaped.r0 (K : Nat) : Nat → (((Int) × ((List Jq0) × Jq0)) × (Unit)) → Option ((((Int) × (Unit)) × (Unit)) ⊕ (Jq2 × (Unit))) :=
  loopV [(.exit 0, { regs := [(0, (.int .u8))] }), (.ret, { regs := [(2, (.list (.int .u8)))] })] { regs := [(0, (.int .u8)), (5, (.list (.scons (.int .u8) (.scons (.int .u8) .snil)))), (6, (.int .i64)), (7, (.int .i64))] } (interp (script_escaped.env.at K) script_escaped.hint (callF (script_escaped.env.at K) 7) (Code.sub [1, 0, 1, 0, 0] (Tryz.f21.body.getD .skip)) _)
theorem script_escaped.s0 (K n : Nat) (x : (((Int) × ((List Jq0) × Jq0)) × (Unit))) : script_escaped.r0 K (n + 1) x = script_escaped.t0 K (script_escaped.r0 K n) x := by kernel_rfl
theorem script_escaped.e0 (K n : Nat) : script_escaped.r0 K n = script_escaped.l0 K n := eqR (l := script_escaped.l0 K) _ (script_escaped.s0 K) (fun _ _ => rfl) (fun _ => rfl) n
theorem script_escaped.body_eq (K : Nat) (x : script_escaped.spec.args.den) : body (script_escaped.env.at K) 8 21 script_escaped.spec x = script_escaped.tr (script_escaped.r0 K) K x.1 := by kernel_rfl
theorem script_escaped.contract : Contract Tryz.prog gl 21 script_escaped.spec :=
  contract_of (E := script_escaped.env) (kn rfl (FnsOK_of ⟨⟨Tryz.func21, Tryz.call21⟩, trivial⟩)) (SpecsOK_of ⟨script_marks.contract, trivial⟩) Tryz.call21 rfl rfl fun K x r h => by
    rw [script_escaped.body_eq, show script_escaped.r0 K = script_escaped.l0 K from funext (script_escaped.e0 K)]; exact h

def script_Quote.spec : Dp.Spec := ⟨(.scons .str .snil), .str, false, fun K x => script_Quote K x.1⟩
def script_Quote.hint : Dp.Hint := { n := 23, loops := [(3, { regs := [(3, (.slw 0)), (8, (.list (.int .u8))), (9, (.int .i64)), (10, (.int .i64))], heap := [(.row (.int .u8))], app := [0] }, [(.exit 0, { regs := [(3, (.slw 0))], heap := [(.row (.int .u8))], app := [0] })])], own := [6] }
noncomputable def script_Quote.env : Dp.Env := ⟨ti, gl, [], [], [(9, Tryz.f9, script_Quote.hint)], [(21, script_escaped.spec)], 0, 40⟩
noncomputable def script_Quote.r0 (K : Nat) : Nat → (((Unit) × ((List (Int)) × Jq0)) × Jq2) → Option ((((Unit) × (Unit)) × Jq2)) :=
  loopV [(.exit 0, { regs := [(3, (.slw 0))], heap := [(.row (.int .u8))], app := [0] })] { regs := [(3, (.slw 0)), (8, (.list (.int .u8))), (9, (.int .i64)), (10, (.int .i64))], heap := [(.row (.int .u8))], app := [0] } (interp (script_Quote.env.at K) script_Quote.hint (callF (script_Quote.env.at K) 7) (Code.sub [1, 1, 0, 1, 0, 0] (Tryz.f9.body.getD .skip)) _)
theorem script_Quote.s0 (K n : Nat) (x : (((Unit) × ((List (Int)) × Jq0)) × Jq2)) : script_Quote.r0 K (n + 1) x = script_Quote.t0 K (script_Quote.r0 K n) x := by kernel_rfl
theorem script_Quote.e0 (K n : Nat) : script_Quote.r0 K n = script_Quote.l0 K n := eqR (l := script_Quote.l0 K) _ (script_Quote.s0 K) (fun _ _ => rfl) (fun _ => rfl) n
theorem script_Quote.body_eq (K : Nat) (x : script_Quote.spec.args.den) : body (script_Quote.env.at K) 8 9 script_Quote.spec x = script_Quote.tr (script_Quote.r0 K) K x.1 := by kernel_rfl
theorem script_Quote.contract : Contract Tryz.prog gl 9 script_Quote.spec :=
  contract_of (E := script_Quote.env) (kn rfl (FnsOK_of ⟨⟨Tryz.func9, Tryz.call9⟩, trivial⟩)) (SpecsOK_of ⟨script_escaped.contract, trivial⟩) Tryz.call9 rfl rfl fun K x r h => by
    rw [script_Quote.body_eq, show script_Quote.r0 K = script_Quote.l0 K from funext (script_Quote.e0 K)]; exact h

def depotref02_digits.spec : Dp.Spec := ⟨(.scons (.int .u64) (.scons (.int .u64) .snil)), .str, false, fun K x => depotref02_digits K x.1 x.2.1⟩
def depotref02_digits.hint : Dp.Hint := { n := 31, loops := [(3, { regs := [(0, (.int .u64)), (1, (.int .u64)), (5, .str), (6, .str)] }, [(.exit 0, { regs := [(0, (.int .u64)), (5, .str), (6, .str)] })])] }
noncomputable def depotref02_digits.env : Dp.Env := ⟨ti, gl, [], [], [(48, Tryz.f48, depotref02_digits.hint)], [], 0, 40⟩
noncomputable def depotref02_digits.r0 (K : Nat) : Nat → (((Int) × Jq4) × (Unit)) → Option ((Jq4 × (Unit))) :=
  loopV [(.exit 0, { regs := [(0, (.int .u64)), (5, .str), (6, .str)] })] { regs := [(0, (.int .u64)), (1, (.int .u64)), (5, .str), (6, .str)] } (interp (depotref02_digits.env.at K) depotref02_digits.hint (callF (depotref02_digits.env.at K) 7) (Code.sub [1, 1, 1, 0, 0, 0] (Tryz.f48.body.getD .skip)) _)
theorem depotref02_digits.s0 (K n : Nat) (x : (((Int) × Jq4) × (Unit))) : depotref02_digits.r0 K (n + 1) x = depotref02_digits.t0 K (depotref02_digits.r0 K n) x := by kernel_rfl
theorem depotref02_digits.e0 (K n : Nat) : depotref02_digits.r0 K n = depotref02_digits.l0 K n := eqR (l := depotref02_digits.l0 K) _ (depotref02_digits.s0 K) (fun _ _ => rfl) (fun _ => rfl) n
theorem depotref02_digits.body_eq (K : Nat) (x : depotref02_digits.spec.args.den) : body (depotref02_digits.env.at K) 8 48 depotref02_digits.spec x = depotref02_digits.tr (depotref02_digits.r0 K) K x.1 x.2.1 := by kernel_rfl
theorem depotref02_digits.contract : Contract Tryz.prog gl 48 depotref02_digits.spec :=
  contract_of (E := depotref02_digits.env) (kn rfl (FnsOK_of ⟨⟨Tryz.func48, Tryz.call48⟩, trivial⟩)) (SpecsOK_of trivial) Tryz.call48 rfl rfl fun K x r h => by
    rw [depotref02_digits.body_eq, show depotref02_digits.r0 K = depotref02_digits.l0 K from funext (depotref02_digits.e0 K)]; exact h

def depotref02_Hex.spec : Dp.Spec := ⟨(.scons (.int .i64) .snil), .str, false, fun K x => depotref02_Hex K x.1⟩
def depotref02_Hex.hint : Dp.Hint := { n := 8 }
noncomputable def depotref02_Hex.env : Dp.Env := ⟨ti, gl, [], [], [(22, Tryz.f22, depotref02_Hex.hint)], [(48, depotref02_digits.spec)], 0, 40⟩
theorem depotref02_Hex.body_eq (K : Nat) (x : depotref02_Hex.spec.args.den) : body (depotref02_Hex.env.at K) 8 22 depotref02_Hex.spec x = depotref02_Hex K x.1 := by kernel_rfl
theorem depotref02_Hex.contract : Contract Tryz.prog gl 22 depotref02_Hex.spec :=
  contract_of (E := depotref02_Hex.env) (kn rfl (FnsOK_of ⟨⟨Tryz.func22, Tryz.call22⟩, trivial⟩)) (SpecsOK_of ⟨depotref02_digits.contract, trivial⟩) Tryz.call22 rfl rfl fun K x r h => by
    rw [depotref02_Hex.body_eq]; exact h

def depotref36_Quote.spec : Dp.Spec := ⟨(.scons .str .snil), .str, false, fun K x => depotref36_Quote K x.1⟩
def depotref36_Quote.hint : Dp.Hint := { n := 69, conds := [(17, [(.normal, { regs := [(0, .str), (3, .str), (4, (.int .i64))] })]), (21, [(.normal, { regs := [(0, .str), (3, .str), (4, (.int .i64))] })]), (25, [(.normal, { regs := [(0, .str), (3, .str), (4, (.int .i64))] })]), (33, [(.normal, { regs := [(0, .str), (3, .str), (4, (.int .i64))] })]), (47, [(.normal, { regs := [(0, .str), (3, .str), (4, (.int .i64))] })])], regions := [(12, [(.normal, { regs := [(0, .str), (3, .str), (4, (.int .i64)), (5, (.int .u8)), (33, .bool)] })]), (14, [(.normal, { regs := [(0, .str), (3, .str), (4, (.int .i64)), (5, (.int .u8)), (47, .bool)] })])], loops := [(3, { regs := [(0, .str), (3, .str), (4, (.int .i64))] }, [(.exit 0, { regs := [(3, .str)] })])] }
noncomputable def depotref36_Quote.env : Dp.Env := ⟨ti, gl, [], [], [(10, Tryz.f10, depotref36_Quote.hint)], [(22, depotref02_Hex.spec)], 0, 40⟩
noncomputable def depotref36_Quote.r0 (K : Nat) : Nat → (Jq1 × (Unit)) → Option ((((List UInt8) × (Unit)) × (Unit))) :=
  loopV [(.exit 0, { regs := [(3, .str)] })] { regs := [(0, .str), (3, .str), (4, (.int .i64))] } (interp (depotref36_Quote.env.at K) depotref36_Quote.hint (callF (depotref36_Quote.env.at K) 7) (Code.sub [1, 1, 0, 1, 0, 0] (Tryz.f10.body.getD .skip)) _)
theorem depotref36_Quote.s0 (K n : Nat) (x : (Jq1 × (Unit))) : depotref36_Quote.r0 K (n + 1) x = depotref36_Quote.t0 K (depotref36_Quote.r0 K n) x := by kernel_rfl
theorem depotref36_Quote.e0 (K n : Nat) : depotref36_Quote.r0 K n = depotref36_Quote.l0 K n := eqR (l := depotref36_Quote.l0 K) _ (depotref36_Quote.s0 K) (fun _ _ => rfl) (fun _ => rfl) n
theorem depotref36_Quote.body_eq (K : Nat) (x : depotref36_Quote.spec.args.den) : body (depotref36_Quote.env.at K) 8 10 depotref36_Quote.spec x = depotref36_Quote.tr (depotref36_Quote.r0 K) K x.1 := by kernel_rfl
theorem depotref36_Quote.contract : Contract Tryz.prog gl 10 depotref36_Quote.spec :=
  contract_of (E := depotref36_Quote.env) (kn rfl (FnsOK_of ⟨⟨Tryz.func10, Tryz.call10⟩, trivial⟩)) (SpecsOK_of ⟨depotref02_Hex.contract, trivial⟩) Tryz.call10 rfl rfl fun K x r h => by
    rw [depotref36_Quote.body_eq, show depotref36_Quote.r0 K = depotref36_Quote.l0 K from funext (depotref36_Quote.e0 K)]; exact h

def depotlaw36_ScriptQuotes.spec : Dp.Spec := ⟨(.scons .str .snil), .bool, false, fun K x => depotlaw36_ScriptQuotes K x.1⟩
def depotlaw36_ScriptQuotes.hint : Dp.Hint := { n := 48 }
noncomputable def depotlaw36_ScriptQuotes.env : Dp.Env := ⟨ti, gl, [], [], [(3, Tryz.f3, depotlaw36_ScriptQuotes.hint)], [(7, script_Unquote.spec), (8, depotref36_Unquote.spec), (9, script_Quote.spec), (10, depotref36_Quote.spec), (6, textsC.spec)], 0, 40⟩
theorem depotlaw36_ScriptQuotes.body_eq (K : Nat) (x : depotlaw36_ScriptQuotes.spec.args.den) : body (depotlaw36_ScriptQuotes.env.at K) 8 3 depotlaw36_ScriptQuotes.spec x = depotlaw36_ScriptQuotes K x.1 := by kernel_rfl
theorem depotlaw36_ScriptQuotes.contract : Contract Tryz.prog gl 3 depotlaw36_ScriptQuotes.spec :=
  contract_of (E := depotlaw36_ScriptQuotes.env) (kn rfl (FnsOK_of ⟨⟨Tryz.func3, Tryz.call3⟩, trivial⟩)) (SpecsOK_of ⟨script_Unquote.contract, depotref36_Unquote.contract, script_Quote.contract, depotref36_Quote.contract, textsC.contract, trivial⟩) Tryz.call3 rfl rfl fun K x r h => by
    rw [depotlaw36_ScriptQuotes.body_eq]; exact h

end Go.Proofs.X