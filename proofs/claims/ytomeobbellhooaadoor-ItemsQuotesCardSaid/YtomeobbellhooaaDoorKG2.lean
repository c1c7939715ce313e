/- That the machine comes to the plain functions. No condition. -/
import Derived.Test.YtomeobbellhooaaDoorKG1
import Derived.Test.YtomeobbellhooaaDoorKS2
import Derived.Test.YtomeobbellhooaaDoorChecked
import Derived.KernelRfl
import Derived.Eval
set_option linter.unusedVariables false
set_option maxRecDepth 20000
namespace Go.Proofs.X
open Go Go.Dp

def ti : List (Nat × TI) := [(1, ⟨.fn, 1, 8, .nilf⟩),
  (2, ⟨.int .i64, 1, 8, (.int .i64)⟩),
  (3, ⟨.int .i64, 1, 8, (.int .i64)⟩),
  (4, ⟨.bool, 1, 1, .bool⟩),
  (5, ⟨.int .u8, 1, 1, (.int .u8)⟩),
  (6, ⟨.int .u8, 1, 1, (.int .u8)⟩),
  (9, ⟨.str, 1, 16, .str⟩),
  (10, ⟨.str, 1, 16, .str⟩),
  (11, ⟨.str, 1, 16, .str⟩),
  (12, ⟨.int .u64, 1, 8, (.int .u64)⟩),
  (15, ⟨.ptr 121, 1, 8, .nilp⟩),
  (16, ⟨.ptr 124, 1, 8, .nilp⟩),
  (17, ⟨.ptr 133, 1, 8, .nilp⟩),
  (18, ⟨.struct [(17, 0)], 1, 8, (.scons .nilp .snil)⟩),
  (19, ⟨.struct [(17, 0)], 1, 8, (.scons .nilp .snil)⟩),
  (20, ⟨.iface false, 1, 16, .nili⟩),
  (21, ⟨.int .i32, 1, 4, (.int .i32)⟩),
  (22, ⟨.slice 33, 1, 24, (.list (.scons .str (.scons .str .snil)))⟩),
  (23, ⟨.fn, 1, 8, .nilf⟩),
  (24, ⟨.fn, 1, 8, .nilf⟩),
  (25, ⟨.fn, 1, 8, .nilf⟩),
  (26, ⟨.fn, 1, 8, .nilf⟩),
  (27, ⟨.fn, 1, 8, .nilf⟩),
  (28, ⟨.slice 9, 1, 24, (.list .str)⟩),
  (29, ⟨.fn, 1, 8, .nilf⟩),
  (30, ⟨.fn, 1, 8, .nilf⟩),
  (31, ⟨.fn, 1, 8, .nilf⟩),
  (32, ⟨.struct [(9, 0), (9, 1)], 2, 32, (.scons .str (.scons .str .snil))⟩),
  (33, ⟨.struct [(9, 0), (9, 1)], 2, 32, (.scons .str (.scons .str .snil))⟩),
  (34, ⟨.fn, 1, 8, .nilf⟩),
  (35, ⟨.fn, 1, 8, .nilf⟩),
  (36, ⟨.fn, 1, 8, .nilf⟩),
  (37, ⟨.int .i64, 1, 8, (.int .i64)⟩),
  (39, ⟨.fn, 1, 8, .nilf⟩),
  (41, ⟨.fn, 1, 8, .nilf⟩),
  (42, ⟨.fn, 1, 8, .nilf⟩),
  (44, ⟨.fn, 1, 8, .nilf⟩),
  (46, ⟨.fn, 1, 8, .nilf⟩),
  (48, ⟨.fn, 1, 8, .nilf⟩),
  (50, ⟨.fn, 1, 8, .nilf⟩),
  (51, ⟨.fn, 1, 8, .nilf⟩),
  (52, ⟨.fn, 1, 8, .nilf⟩),
  (54, ⟨.fn, 1, 8, .nilf⟩),
  (56, ⟨.fn, 1, 8, .nilf⟩),
  (57, ⟨.fn, 1, 8, .nilf⟩),
  (58, ⟨.fn, 1, 8, .nilf⟩),
  (59, ⟨.fn, 1, 8, .nilf⟩),
  (60, ⟨.fn, 1, 8, .nilf⟩),
  (62, ⟨.fn, 1, 8, .nilf⟩),
  (63, ⟨.fn, 1, 8, .nilf⟩),
  (64, ⟨.fn, 1, 8, .nilf⟩),
  (65, ⟨.fn, 1, 8, .nilf⟩),
  (66, ⟨.fn, 1, 8, .nilf⟩),
  (67, ⟨.fn, 1, 8, .nilf⟩),
  (68, ⟨.fn, 1, 8, .nilf⟩),
  (69, ⟨.fn, 1, 8, .nilf⟩),
  (70, ⟨.arr 10 9, 10, 160, (.arr 10 .str)⟩),
  (71, ⟨.fn, 1, 8, .nilf⟩),
  (72, ⟨.fn, 1, 8, .nilf⟩),
  (73, ⟨.ptr 76, 1, 8, .nilp⟩),
  (74, ⟨.slice 5, 1, 24, (.list (.int .u8))⟩),
  (75, ⟨.struct [(73, 0), (74, 1)], 2, 32, (.scons .nilp (.scons (.list (.int .u8)) .snil))⟩),
  (76, ⟨.struct [(73, 0), (74, 1)], 2, 32, (.scons .nilp (.scons (.list (.int .u8)) .snil))⟩),
  (77, ⟨.iface true, 1, 16, .nili⟩),
  (78, ⟨.iface true, 1, 16, .nili⟩),
  (79, ⟨.fn, 1, 8, .nilf⟩),
  (80, ⟨.fn, 1, 8, .nilf⟩),
  (82, ⟨.fn, 1, 8, .nilf⟩),
  (83, ⟨.fn, 1, 8, .nilf⟩),
  (84, ⟨.fn, 1, 8, .nilf⟩),
  (85, ⟨.fn, 1, 8, .nilf⟩),
  (86, ⟨.fn, 1, 8, .nilf⟩),
  (87, ⟨.fn, 1, 8, .nilf⟩),
  (88, ⟨.fn, 1, 8, .nilf⟩),
  (89, ⟨.fn, 1, 8, .nilf⟩),
  (90, ⟨.fn, 1, 8, .nilf⟩),
  (92, ⟨.fn, 1, 8, .nilf⟩),
  (93, ⟨.ptr 5, 1, 8, .nilp⟩),
  (94, ⟨.fn, 1, 8, .nilf⟩),
  (95, ⟨.fn, 1, 8, .nilf⟩),
  (96, ⟨.fn, 1, 8, .nilf⟩),
  (97, ⟨.fn, 1, 8, .nilf⟩),
  (98, ⟨.arr 256 4, 256, 256, (.arr 256 .bool)⟩),
  (99, ⟨.arr 256 4, 256, 256, (.arr 256 .bool)⟩),
  (101, ⟨.fn, 1, 8, .nilf⟩),
  (102, ⟨.fn, 1, 8, .nilf⟩),
  (103, ⟨.ptr 99, 1, 8, .nilp⟩),
  (105, ⟨.fn, 1, 8, .nilf⟩),
  (106, ⟨.slice 85, 1, 24, (.list .nilf)⟩),
  (108, ⟨.fn, 1, 8, .nilf⟩),
  (109, ⟨.fn, 1, 8, .nilf⟩),
  (110, ⟨.fn, 1, 8, .nilf⟩),
  (111, ⟨.fn, 1, 8, .nilf⟩),
  (112, ⟨.arr 256 5, 256, 256, (.arr 256 (.int .u8))⟩),
  (113, ⟨.int .u64, 1, 8, (.int .u64)⟩),
  (114, ⟨.struct [(5, 0), (5, 1)], 2, 2, (.scons (.int .u8) (.scons (.int .u8) .snil))⟩),
  (115, ⟨.struct [(5, 0), (5, 1)], 2, 2, (.scons (.int .u8) (.scons (.int .u8) .snil))⟩),
  (116, ⟨.arr 16 115, 32, 32, (.arr 16 (.scons (.int .u8) (.scons (.int .u8) .snil)))⟩),
  (117, ⟨.fn, 1, 8, .nilf⟩),
  (118, ⟨.fn, 1, 8, .nilf⟩),
  (119, ⟨.fn, 1, 8, .nilf⟩),
  (122, ⟨.arr 0 16, 0, 0, (.arr 0 .nilp)⟩),
  (125, ⟨.fn, 1, 8, .nilf⟩),
  (126, ⟨.int .u32, 1, 4, (.int .u32)⟩),
  (127, ⟨.int .u8, 1, 1, (.int .u8)⟩),
  (128, ⟨.int .u8, 1, 1, (.int .u8)⟩),
  (129, ⟨.fn, 1, 8, .nilf⟩),
  (130, ⟨.int .i32, 1, 4, (.int .i32)⟩),
  (131, ⟨.int .i32, 1, 4, (.int .i32)⟩),
  (132, ⟨.struct [(12, 0), (12, 1), (126, 2), (127, 3), (5, 4), (5, 5), (128, 6), (129, 7), (93, 8), (130, 9), (131, 10)], 11, 48, (.scons (.int .u64) (.scons (.int .u64) (.scons (.int .u32) (.scons (.int .u8) (.scons (.int .u8) (.scons (.int .u8) (.scons (.int .u8) (.scons .nilf (.scons .nilp (.scons (.int .i32) (.scons (.int .i32) .snil)))))))))))⟩),
  (133, ⟨.struct [(12, 0), (12, 1), (126, 2), (127, 3), (5, 4), (5, 5), (128, 6), (129, 7), (93, 8), (130, 9), (131, 10)], 11, 48, (.scons (.int .u64) (.scons (.int .u64) (.scons (.int .u32) (.scons (.int .u8) (.scons (.int .u8) (.scons (.int .u8) (.scons (.int .u8) (.scons .nilf (.scons .nilp (.scons (.int .i32) (.scons (.int .i32) .snil)))))))))))⟩)]
def gl : List (Nat × TV) := []
theorem tiOK : ti.all (fun p => tiOK1 Tryd.prog p.1 p.2) = true := by kernel_rfl
theorem mixed : Tryd.prog.follows .mixedOrders = true := Checked.mixed Tryd.checked

def items_Unquote.spec : Dp.Spec := unquoteSpec
theorem items_Unquote.contract : Contract Tryd.prog gl 34 items_Unquote.spec := items_Unquote_ok
def items_Quote.spec : Dp.Spec := quoteSpec
theorem items_Quote.contract : Contract Tryd.prog gl 38 items_Quote.spec := items_Quote_ok
def joinS.spec : Dp.Spec := joinSpec
theorem joinS.contract : Contract Tryd.prog gl 64 joinS.spec := joinS_ok
def asciiSet.spec : Dp.Spec := asciiSetSpec
theorem asciiSet.contract : Contract Tryd.prog gl 93 asciiSet.spec := asciiSet_ok
def ixb.spec : Dp.Spec := indexByteSpec
theorem ixb.contract : Contract Tryd.prog gl 110 ixb.spec := indexByte_contract Tryd.func110 (by decide +kernel) rfl (by kernel_rfl) (by kernel_rfl)
def strings_trimRightByte.spec : Dp.Spec := { args := (.scons .str (.scons (.int .u8) .snil)), res := .str, own := false, F := fun K x => strings_trimRightByte K x.1 x.2.1 }
def strings_trimRightByte.hint : Dp.Hint := { n := 23, regions := [(1, [(.normal, { regs := [(0, .str), (1, (.int .u8)), (16, .bool)] })])], loops := [(1, { regs := [(0, .str), (1, (.int .u8))] }, [(.exit 0, { regs := [(0, .str)] })])] }
noncomputable def strings_trimRightByte.env : Dp.Env := { ti := ti, gl := gl, fns := [(92, Tryd.f92, strings_trimRightByte.hint)], specs := [], K := 0 }
noncomputable def strings_trimRightByte.r0 (K : Nat) : Nat → (((List UInt8) × ((Int) × (Unit))) × (Unit)) → Option ((((List UInt8) × (Unit)) × (Unit))) :=
  loopV [(.exit 0, { regs := [(0, .str)] })] { regs := [(0, .str), (1, (.int .u8))] } (interp (strings_trimRightByte.env.at K) strings_trimRightByte.hint (callF (strings_trimRightByte.env.at K) 7) (Code.sub [1, 0, 0, 0] (Tryd.f92.body.getD .skip)) _)
theorem strings_trimRightByte.s0 (K n : Nat) (x : (((List UInt8) × ((Int) × (Unit))) × (Unit))) : strings_trimRightByte.r0 K (n + 1) x = strings_trimRightByte.t0 K (strings_trimRightByte.r0 K n) x := by kernel_rfl
theorem strings_trimRightByte.e0 (K n : Nat) : strings_trimRightByte.r0 K n = strings_trimRightByte.l0 K n := by
  induction n with
  | zero => funext x; rfl
  | succ n ih => funext x; rw [strings_trimRightByte.s0, ih]; rfl
theorem strings_trimRightByte.body_eq (K : Nat) (x : strings_trimRightByte.spec.args.den) : body (strings_trimRightByte.env.at K) 8 92 strings_trimRightByte.spec x = strings_trimRightByte.tr (strings_trimRightByte.r0 K) K x.1 x.2.1 := by kernel_rfl
theorem strings_trimRightByte.contract : Contract Tryd.prog gl 92 strings_trimRightByte.spec :=
  contract_of (E := strings_trimRightByte.env) ⟨TIok_of tiOK, FnsOK_of ⟨⟨Tryd.func92, Tryd.call92⟩, trivial⟩, mixed⟩ (SpecsOK_of (E := strings_trimRightByte.env) trivial) Tryd.call92 rfl rfl fun K x r h => by
    rw [strings_trimRightByte.body_eq, show strings_trimRightByte.r0 K = strings_trimRightByte.l0 K from funext (strings_trimRightByte.e0 K)]; exact h

def strings_trimLeftByte.spec : Dp.Spec := { args := (.scons .str (.scons (.int .u8) .snil)), res := .str, own := false, F := fun K x => strings_trimLeftByte K x.1 x.2.1 }
def strings_trimLeftByte.hint : Dp.Hint := { n := 17, regions := [(1, [(.normal, { regs := [(0, .str), (1, (.int .u8)), (13, .bool)] })])], loops := [(1, { regs := [(0, .str), (1, (.int .u8))] }, [(.exit 0, { regs := [(0, .str)] })])] }
noncomputable def strings_trimLeftByte.env : Dp.Env := { ti := ti, gl := gl, fns := [(91, Tryd.f91, strings_trimLeftByte.hint)], specs := [], K := 0 }
noncomputable def strings_trimLeftByte.r0 (K : Nat) : Nat → (((List UInt8) × ((Int) × (Unit))) × (Unit)) → Option ((((List UInt8) × (Unit)) × (Unit))) :=
  loopV [(.exit 0, { regs := [(0, .str)] })] { regs := [(0, .str), (1, (.int .u8))] } (interp (strings_trimLeftByte.env.at K) strings_trimLeftByte.hint (callF (strings_trimLeftByte.env.at K) 7) (Code.sub [1, 0, 0, 0] (Tryd.f91.body.getD .skip)) _)
theorem strings_trimLeftByte.s0 (K n : Nat) (x : (((List UInt8) × ((Int) × (Unit))) × (Unit))) : strings_trimLeftByte.r0 K (n + 1) x = strings_trimLeftByte.t0 K (strings_trimLeftByte.r0 K n) x := by kernel_rfl
theorem strings_trimLeftByte.e0 (K n : Nat) : strings_trimLeftByte.r0 K n = strings_trimLeftByte.l0 K n := by
  induction n with
  | zero => funext x; rfl
  | succ n ih => funext x; rw [strings_trimLeftByte.s0, ih]; rfl
theorem strings_trimLeftByte.body_eq (K : Nat) (x : strings_trimLeftByte.spec.args.den) : body (strings_trimLeftByte.env.at K) 8 91 strings_trimLeftByte.spec x = strings_trimLeftByte.tr (strings_trimLeftByte.r0 K) K x.1 x.2.1 := by kernel_rfl
theorem strings_trimLeftByte.contract : Contract Tryd.prog gl 91 strings_trimLeftByte.spec :=
  contract_of (E := strings_trimLeftByte.env) ⟨TIok_of tiOK, FnsOK_of ⟨⟨Tryd.func91, Tryd.call91⟩, trivial⟩, mixed⟩ (SpecsOK_of (E := strings_trimLeftByte.env) trivial) Tryd.call91 rfl rfl fun K x r h => by
    rw [strings_trimLeftByte.body_eq, show strings_trimLeftByte.r0 K = strings_trimLeftByte.l0 K from funext (strings_trimLeftByte.e0 K)]; exact h

def strings_asciiSet_contains.spec : Dp.Spec := { args := (.scons (.ref (.arr 256 .bool)) (.scons (.int .u8) .snil)), res := .bool, own := false, F := fun K x => strings_asciiSet_contains K x.1 x.2.1 }
def strings_asciiSet_contains.hint : Dp.Hint := { n := 10 }
noncomputable def strings_asciiSet_contains.env : Dp.Env := { ti := ti, gl := gl, fns := [(105, Tryd.f105, strings_asciiSet_contains.hint)], specs := [], K := 0 }
theorem strings_asciiSet_contains.body_eq (K : Nat) (x : strings_asciiSet_contains.spec.args.den) : body (strings_asciiSet_contains.env.at K) 8 105 strings_asciiSet_contains.spec x = strings_asciiSet_contains K x.1 x.2.1 := by kernel_rfl
theorem strings_asciiSet_contains.contract : Contract Tryd.prog gl 105 strings_asciiSet_contains.spec :=
  contract_of (E := strings_asciiSet_contains.env) ⟨TIok_of tiOK, FnsOK_of ⟨⟨Tryd.func105, Tryd.call105⟩, trivial⟩, mixed⟩ (SpecsOK_of (E := strings_asciiSet_contains.env) trivial) Tryd.call105 rfl rfl fun K x r h => by
    rw [strings_asciiSet_contains.body_eq]; exact h

def strings_trimRightASCII.spec : Dp.Spec := { args := (.scons .str (.scons (.ref (.arr 256 .bool)) .snil)), res := .str, own := false, F := fun K x => strings_trimRightASCII K x.1 x.2.1 }
def strings_trimRightASCII.hint : Dp.Hint := { n := 22, loops := [(1, { regs := [(0, .str), (1, (.ref (.arr 256 .bool)))] }, [(.exit 0, { regs := [(0, .str)] })])] }
noncomputable def strings_trimRightASCII.env : Dp.Env := { ti := ti, gl := gl, fns := [(95, Tryd.f95, strings_trimRightASCII.hint)], specs := [(105, strings_asciiSet_contains.spec)], K := 0 }
noncomputable def strings_trimRightASCII.r0 (K : Nat) : Nat → (((List UInt8) × ((List (Bool)) × (Unit))) × (Unit)) → Option ((((List UInt8) × (Unit)) × (Unit))) :=
  loopV [(.exit 0, { regs := [(0, .str)] })] { regs := [(0, .str), (1, (.ref (.arr 256 .bool)))] } (interp (strings_trimRightASCII.env.at K) strings_trimRightASCII.hint (callF (strings_trimRightASCII.env.at K) 7) (Code.sub [1, 0, 0, 0] (Tryd.f95.body.getD .skip)) _)
theorem strings_trimRightASCII.s0 (K n : Nat) (x : (((List UInt8) × ((List (Bool)) × (Unit))) × (Unit))) : strings_trimRightASCII.r0 K (n + 1) x = strings_trimRightASCII.t0 K (strings_trimRightASCII.r0 K n) x := by kernel_rfl
theorem strings_trimRightASCII.e0 (K n : Nat) : strings_trimRightASCII.r0 K n = strings_trimRightASCII.l0 K n := by
  induction n with
  | zero => funext x; rfl
  | succ n ih => funext x; rw [strings_trimRightASCII.s0, ih]; rfl
theorem strings_trimRightASCII.body_eq (K : Nat) (x : strings_trimRightASCII.spec.args.den) : body (strings_trimRightASCII.env.at K) 8 95 strings_trimRightASCII.spec x = strings_trimRightASCII.tr (strings_trimRightASCII.r0 K) K x.1 x.2.1 := by kernel_rfl
theorem strings_trimRightASCII.contract : Contract Tryd.prog gl 95 strings_trimRightASCII.spec :=
  contract_of (E := strings_trimRightASCII.env) ⟨TIok_of tiOK, FnsOK_of ⟨⟨Tryd.func95, Tryd.call95⟩, trivial⟩, mixed⟩ (SpecsOK_of (E := strings_trimRightASCII.env) ⟨strings_asciiSet_contains.contract, trivial⟩) Tryd.call95 rfl rfl fun K x r h => by
    rw [strings_trimRightASCII.body_eq, show strings_trimRightASCII.r0 K = strings_trimRightASCII.l0 K from funext (strings_trimRightASCII.e0 K)]; exact h

def strings_trimLeftASCII.spec : Dp.Spec := { args := (.scons .str (.scons (.ref (.arr 256 .bool)) .snil)), res := .str, own := false, F := fun K x => strings_trimLeftASCII K x.1 x.2.1 }
def strings_trimLeftASCII.hint : Dp.Hint := { n := 16, loops := [(1, { regs := [(0, .str), (1, (.ref (.arr 256 .bool)))] }, [(.exit 0, { regs := [(0, .str)] })])] }
noncomputable def strings_trimLeftASCII.env : Dp.Env := { ti := ti, gl := gl, fns := [(94, Tryd.f94, strings_trimLeftASCII.hint)], specs := [(105, strings_asciiSet_contains.spec)], K := 0 }
noncomputable def strings_trimLeftASCII.r0 (K : Nat) : Nat → (((List UInt8) × ((List (Bool)) × (Unit))) × (Unit)) → Option ((((List UInt8) × (Unit)) × (Unit))) :=
  loopV [(.exit 0, { regs := [(0, .str)] })] { regs := [(0, .str), (1, (.ref (.arr 256 .bool)))] } (interp (strings_trimLeftASCII.env.at K) strings_trimLeftASCII.hint (callF (strings_trimLeftASCII.env.at K) 7) (Code.sub [1, 0, 0, 0] (Tryd.f94.body.getD .skip)) _)
theorem strings_trimLeftASCII.s0 (K n : Nat) (x : (((List UInt8) × ((List (Bool)) × (Unit))) × (Unit))) : strings_trimLeftASCII.r0 K (n + 1) x = strings_trimLeftASCII.t0 K (strings_trimLeftASCII.r0 K n) x := by kernel_rfl
theorem strings_trimLeftASCII.e0 (K n : Nat) : strings_trimLeftASCII.r0 K n = strings_trimLeftASCII.l0 K n := by
  induction n with
  | zero => funext x; rfl
  | succ n ih => funext x; rw [strings_trimLeftASCII.s0, ih]; rfl
theorem strings_trimLeftASCII.body_eq (K : Nat) (x : strings_trimLeftASCII.spec.args.den) : body (strings_trimLeftASCII.env.at K) 8 94 strings_trimLeftASCII.spec x = strings_trimLeftASCII.tr (strings_trimLeftASCII.r0 K) K x.1 x.2.1 := by kernel_rfl
theorem strings_trimLeftASCII.contract : Contract Tryd.prog gl 94 strings_trimLeftASCII.spec :=
  contract_of (E := strings_trimLeftASCII.env) ⟨TIok_of tiOK, FnsOK_of ⟨⟨Tryd.func94, Tryd.call94⟩, trivial⟩, mixed⟩ (SpecsOK_of (E := strings_trimLeftASCII.env) ⟨strings_asciiSet_contains.contract, trivial⟩) Tryd.call94 rfl rfl fun K x r h => by
    rw [strings_trimLeftASCII.body_eq, show strings_trimLeftASCII.r0 K = strings_trimLeftASCII.l0 K from funext (strings_trimLeftASCII.e0 K)]; exact h

def strings_Trim.spec : Dp.Spec := { args := (.scons .str (.scons .str .snil)), res := .str, own := false, F := fun K x => strings_Trim K x.1 x.2.1 }
def strings_Trim.hint : Dp.Hint := { n := 43, regions := [(1, [(.normal, { regs := [(0, .str), (1, .str), (12, .bool)] })]), (3, [(.normal, { regs := [(0, .str), (1, .str), (21, .bool)] })])] }
noncomputable def strings_Trim.env : Dp.Env := { ti := ti, gl := gl, fns := [(74, Tryd.f74, strings_Trim.hint)], specs := [(92, strings_trimRightByte.spec), (91, strings_trimLeftByte.spec), (95, strings_trimRightASCII.spec), (94, strings_trimLeftASCII.spec), (93, asciiSet.spec)], K := 0 }
theorem strings_Trim.body_eq (K : Nat) (x : strings_Trim.spec.args.den) : body (strings_Trim.env.at K) 8 74 strings_Trim.spec x = strings_Trim K x.1 x.2.1 := by kernel_rfl
theorem strings_Trim.contract : Contract Tryd.prog gl 74 strings_Trim.spec :=
  contract_of (E := strings_Trim.env) ⟨TIok_of tiOK, FnsOK_of ⟨⟨Tryd.func74, Tryd.call74⟩, trivial⟩, mixed⟩ (SpecsOK_of (E := strings_Trim.env) ⟨strings_trimRightByte.contract, strings_trimLeftByte.contract, strings_trimRightASCII.contract, strings_trimLeftASCII.contract, asciiSet.contract, trivial⟩) Tryd.call74 rfl rfl fun K x r h => by
    rw [strings_Trim.body_eq]; exact h

def octet_Trim.spec : Dp.Spec := { args := (.scons .str .snil), res := .str, own := false, F := fun K x => octet_Trim K x.1 }
def octet_Trim.hint : Dp.Hint := { n := 5 }
noncomputable def octet_Trim.env : Dp.Env := { ti := ti, gl := gl, fns := [(42, Tryd.f42, octet_Trim.hint)], specs := [(74, strings_Trim.spec)], K := 0 }
theorem octet_Trim.body_eq (K : Nat) (x : octet_Trim.spec.args.den) : body (octet_Trim.env.at K) 8 42 octet_Trim.spec x = octet_Trim K x.1 := by kernel_rfl
theorem octet_Trim.contract : Contract Tryd.prog gl 42 octet_Trim.spec :=
  contract_of (E := octet_Trim.env) ⟨TIok_of tiOK, FnsOK_of ⟨⟨Tryd.func42, Tryd.call42⟩, trivial⟩, mixed⟩ (SpecsOK_of (E := octet_Trim.env) ⟨strings_Trim.contract, trivial⟩) Tryd.call42 rfl rfl fun K x r h => by
    rw [octet_Trim.body_eq]; exact h

def items_Split.spec : Dp.Spec := { args := (.scons .str .snil), res := (.tup (.scons (.list .str) (.scons (.int .i64) .snil))), own := false, F := fun K x => items_Split K x.1 }
def items_Split.hint : Dp.Hint := { n := 49, conds := [(20, [(.exit 1, { regs := [(1, (.ref .str)), (4, (.loc 1 false [])), (6, (.fn 62 (.scons (.ref .str) (.scons (.loc 2 false []) (.scons (.loc 1 false []) .snil))))), (7, .bool), (8, (.int .i64))], heap := [(.row .str), (.slw 0), (.int .i64)], app := [0] }), (.normal, { regs := [(1, (.ref .str)), (4, (.loc 1 false [])), (6, (.fn 62 (.scons (.ref .str) (.scons (.loc 2 false []) (.scons (.loc 1 false []) .snil))))), (7, .bool), (8, (.int .i64))], heap := [(.row .str), (.slw 0), (.int .i64)], app := [0] })]), (33, [(.normal, { regs := [(1, (.ref .str)), (4, (.loc 1 false [])), (6, (.fn 62 (.scons (.ref .str) (.scons (.loc 2 false []) (.scons (.loc 1 false []) .snil))))), (7, .bool), (8, (.int .i64))], heap := [(.row .str), (.slw 0), (.int .i64)], app := [0] })])], blocks := [(1, [(.normal, { regs := [(1, (.ref .str)), (4, (.loc 1 false [])), (6, (.fn 62 (.scons (.ref .str) (.scons (.loc 2 false []) (.scons (.loc 1 false []) .snil))))), (7, .bool), (8, (.int .i64))], heap := [(.row .str), (.slw 0), (.int .i64)], app := [0] })])], regions := [(11, [(.normal, { regs := [(1, (.ref .str)), (4, (.loc 1 false [])), (6, (.fn 62 (.scons (.ref .str) (.scons (.loc 2 false []) (.scons (.loc 1 false []) .snil))))), (7, .bool), (8, (.int .i64)), (9, (.int .u8)), (25, .bool)], heap := [(.row .str), (.slw 0), (.int .i64)], app := [0] })]), (13, [(.normal, { regs := [(1, (.ref .str)), (4, (.loc 1 false [])), (6, (.fn 62 (.scons (.ref .str) (.scons (.loc 2 false []) (.scons (.loc 1 false []) .snil))))), (7, .bool), (8, (.int .i64)), (33, .bool)], heap := [(.row .str), (.slw 0), (.int .i64)], app := [0] })]), (14, [(.normal, { regs := [(1, (.ref .str)), (4, (.loc 1 false [])), (6, (.fn 62 (.scons (.ref .str) (.scons (.loc 2 false []) (.scons (.loc 1 false []) .snil))))), (7, .bool), (8, (.int .i64))], heap := [(.row .str), (.slw 0), (.int .i64)], app := [0] })])], loops := [(6, { regs := [(1, (.ref .str)), (4, (.loc 1 false [])), (6, (.fn 62 (.scons (.ref .str) (.scons (.loc 2 false []) (.scons (.loc 1 false []) .snil))))), (7, .bool), (8, (.int .i64))], heap := [(.row .str), (.slw 0), (.int .i64)], app := [0] }, [(.exit 0, { regs := [(1, (.ref .str)), (4, (.loc 1 false [])), (6, (.fn 62 (.scons (.ref .str) (.scons (.loc 2 false []) (.scons (.loc 1 false []) .snil))))), (7, .bool)], heap := [(.row .str), (.slw 0), (.int .i64)], app := [0] })])], own := [4], imm := [1] }
def items_Split.hint62 : Dp.Hint := { n := 19 }
noncomputable def items_Split.env : Dp.Env := { ti := ti, gl := gl, fns := [(28, Tryd.f28, items_Split.hint), (62, Tryd.f62, items_Split.hint62)], specs := [(42, octet_Trim.spec)], K := 0 }
noncomputable def items_Split.r0 (K : Nat) : Nat → (((List UInt8) × ((Nat) × (((List UInt8) × ((Nat) × ((Nat) × (Unit)))) × ((Bool) × ((Int) × (Unit)))))) × ((List (List UInt8)) × ((Unit) × ((Int) × (Unit))))) → Option ((((List UInt8) × ((Nat) × (((List UInt8) × ((Nat) × ((Nat) × (Unit)))) × ((Bool) × (Unit))))) × ((List (List UInt8)) × ((Unit) × ((Int) × (Unit)))))) :=
  loopV [(.exit 0, { regs := [(1, (.ref .str)), (4, (.loc 1 false [])), (6, (.fn 62 (.scons (.ref .str) (.scons (.loc 2 false []) (.scons (.loc 1 false []) .snil))))), (7, .bool)], heap := [(.row .str), (.slw 0), (.int .i64)], app := [0] })] { regs := [(1, (.ref .str)), (4, (.loc 1 false [])), (6, (.fn 62 (.scons (.ref .str) (.scons (.loc 2 false []) (.scons (.loc 1 false []) .snil))))), (7, .bool), (8, (.int .i64))], heap := [(.row .str), (.slw 0), (.int .i64)], app := [0] } (interp (items_Split.env.at K) items_Split.hint (callF (items_Split.env.at K) 7) (Code.sub [1, 0, 1, 1, 1, 1, 1, 0, 1, 0, 0] (Tryd.f28.body.getD .skip)) _)
theorem items_Split.s0 (K n : Nat) (x : (((List UInt8) × ((Nat) × (((List UInt8) × ((Nat) × ((Nat) × (Unit)))) × ((Bool) × ((Int) × (Unit)))))) × ((List (List UInt8)) × ((Unit) × ((Int) × (Unit)))))) : items_Split.r0 K (n + 1) x = items_Split.t0 K (items_Split.r0 K n) x := by kernel_rfl
theorem items_Split.e0 (K n : Nat) : items_Split.r0 K n = items_Split.l0 K n := by
  induction n with
  | zero => funext x; rfl
  | succ n ih => funext x; rw [items_Split.s0, ih]; rfl
theorem items_Split.body_eq (K : Nat) (x : items_Split.spec.args.den) : body (items_Split.env.at K) 8 28 items_Split.spec x = items_Split.tr (items_Split.r0 K) K x.1 := by kernel_rfl
theorem items_Split.contract : Contract Tryd.prog gl 28 items_Split.spec :=
  contract_of (E := items_Split.env) ⟨TIok_of tiOK, FnsOK_of ⟨⟨Tryd.func28, Tryd.call28⟩, ⟨Tryd.func62, Tryd.call62⟩, trivial⟩, mixed⟩ (SpecsOK_of (E := items_Split.env) ⟨octet_Trim.contract, trivial⟩) Tryd.call28 rfl rfl fun K x r h => by
    rw [items_Split.body_eq, show items_Split.r0 K = items_Split.l0 K from funext (items_Split.e0 K)]; exact h

def stringslite_IndexByte.spec : Dp.Spec := { args := (.scons .str (.scons (.int .u8) .snil)), res := (.int .i64), own := false, F := fun K x => stringslite_IndexByte K x.1 x.2.1 }
def stringslite_IndexByte.hint : Dp.Hint := { n := 8 }
noncomputable def stringslite_IndexByte.env : Dp.Env := { ti := ti, gl := gl, fns := [(103, Tryd.f103, stringslite_IndexByte.hint)], specs := [(110, ixb.spec)], K := 0 }
theorem stringslite_IndexByte.body_eq (K : Nat) (x : stringslite_IndexByte.spec.args.den) : body (stringslite_IndexByte.env.at K) 8 103 stringslite_IndexByte.spec x = stringslite_IndexByte K x.1 x.2.1 := by kernel_rfl
theorem stringslite_IndexByte.contract : Contract Tryd.prog gl 103 stringslite_IndexByte.spec :=
  contract_of (E := stringslite_IndexByte.env) ⟨TIok_of tiOK, FnsOK_of ⟨⟨Tryd.func103, Tryd.call103⟩, trivial⟩, mixed⟩ (SpecsOK_of (E := stringslite_IndexByte.env) ⟨ixb.contract, trivial⟩) Tryd.call103 rfl rfl fun K x r h => by
    rw [stringslite_IndexByte.body_eq]; exact h

def strings_IndexByte.spec : Dp.Spec := { args := (.scons .str (.scons (.int .u8) .snil)), res := (.int .i64), own := false, F := fun K x => strings_IndexByte K x.1 x.2.1 }
def strings_IndexByte.hint : Dp.Hint := { n := 8 }
noncomputable def strings_IndexByte.env : Dp.Env := { ti := ti, gl := gl, fns := [(85, Tryd.f85, strings_IndexByte.hint)], specs := [(103, stringslite_IndexByte.spec)], K := 0 }
theorem strings_IndexByte.body_eq (K : Nat) (x : strings_IndexByte.spec.args.den) : body (strings_IndexByte.env.at K) 8 85 strings_IndexByte.spec x = strings_IndexByte K x.1 x.2.1 := by kernel_rfl
theorem strings_IndexByte.contract : Contract Tryd.prog gl 85 strings_IndexByte.spec :=
  contract_of (E := strings_IndexByte.env) ⟨TIok_of tiOK, FnsOK_of ⟨⟨Tryd.func85, Tryd.call85⟩, trivial⟩, mixed⟩ (SpecsOK_of (E := strings_IndexByte.env) ⟨stringslite_IndexByte.contract, trivial⟩) Tryd.call85 rfl rfl fun K x r h => by
    rw [strings_IndexByte.body_eq]; exact h

def octet_Cut.spec : Dp.Spec := { args := (.scons .str (.scons (.int .u8) .snil)), res := (.tup (.scons .str (.scons .str (.scons .bool .snil)))), own := false, F := fun K x => octet_Cut K x.1 x.2.1 }
def octet_Cut.hint : Dp.Hint := { n := 21 }
noncomputable def octet_Cut.env : Dp.Env := { ti := ti, gl := gl, fns := [(67, Tryd.f67, octet_Cut.hint)], specs := [(85, strings_IndexByte.spec)], K := 0 }
theorem octet_Cut.body_eq (K : Nat) (x : octet_Cut.spec.args.den) : body (octet_Cut.env.at K) 8 67 octet_Cut.spec x = octet_Cut K x.1 x.2.1 := by kernel_rfl
theorem octet_Cut.contract : Contract Tryd.prog gl 67 octet_Cut.spec :=
  contract_of (E := octet_Cut.env) ⟨TIok_of tiOK, FnsOK_of ⟨⟨Tryd.func67, Tryd.call67⟩, trivial⟩, mixed⟩ (SpecsOK_of (E := octet_Cut.env) ⟨strings_IndexByte.contract, trivial⟩) Tryd.call67 rfl rfl fun K x r h => by
    rw [octet_Cut.body_eq]; exact h

def octet_from.spec : Dp.Spec := { args := (.scons (.int .u8) (.scons (.int .u8) .snil)), res := (.fn 90 (.scons (.ref (.int .u8)) (.scons (.ref (.int .u8)) .snil))), own := false, F := fun K x => octet_from K x.1 x.2.1 }
def octet_from.hint : Dp.Hint := { n := 6, imm := [2, 3] }
noncomputable def octet_from.env : Dp.Env := { ti := ti, gl := gl, fns := [(73, Tryd.f73, octet_from.hint)], specs := [], K := 0 }
theorem octet_from.body_eq (K : Nat) (x : octet_from.spec.args.den) : body (octet_from.env.at K) 8 73 octet_from.spec x = octet_from K x.1 x.2.1 := by kernel_rfl
theorem octet_from.contract : Contract Tryd.prog gl 73 octet_from.spec :=
  contract_of (E := octet_from.env) ⟨TIok_of tiOK, FnsOK_of ⟨⟨Tryd.func73, Tryd.call73⟩, trivial⟩, mixed⟩ (SpecsOK_of (E := octet_from.env) trivial) Tryd.call73 rfl rfl fun K x r h => by
    rw [octet_from.body_eq]; exact h

def octet_oneOf.spec : Dp.Spec := { args := (.scons .str .snil), res := (.fn 104 (.scons (.ref .str) .snil)), own := false, F := fun K x => octet_oneOf K x.1 }
def octet_oneOf.hint : Dp.Hint := { n := 4, imm := [1] }
noncomputable def octet_oneOf.env : Dp.Env := { ti := ti, gl := gl, fns := [(89, Tryd.f89, octet_oneOf.hint)], specs := [], K := 0 }
theorem octet_oneOf.body_eq (K : Nat) (x : octet_oneOf.spec.args.den) : body (octet_oneOf.env.at K) 8 89 octet_oneOf.spec x = octet_oneOf K x.1 := by kernel_rfl
theorem octet_oneOf.contract : Contract Tryd.prog gl 89 octet_oneOf.spec :=
  contract_of (E := octet_oneOf.env) ⟨TIok_of tiOK, FnsOK_of ⟨⟨Tryd.func89, Tryd.call89⟩, trivial⟩, mixed⟩ (SpecsOK_of (E := octet_oneOf.env) trivial) Tryd.call89 rfl rfl fun K x r h => by
    rw [octet_oneOf.body_eq]; exact h

def octet_from_c1.spec : Dp.Spec := { args := (.scons (.int .u8) (.scons (.ref (.int .u8)) (.scons (.ref (.int .u8)) .snil))), res := .bool, own := false, F := fun K x => octet_from_c1 K x.1 x.2.1 x.2.2.1 }
def octet_from_c1.hint : Dp.Hint := { n := 13 }
noncomputable def octet_from_c1.env : Dp.Env := { ti := ti, gl := gl, fns := [(90, Tryd.f90, octet_from_c1.hint)], specs := [], K := 0 }
theorem octet_from_c1.body_eq (K : Nat) (x : octet_from_c1.spec.args.den) : body (octet_from_c1.env.at K) 8 90 octet_from_c1.spec x = octet_from_c1 K x.1 x.2.1 x.2.2.1 := by kernel_rfl
theorem octet_from_c1.contract : Contract Tryd.prog gl 90 octet_from_c1.spec :=
  contract_of (E := octet_from_c1.env) ⟨TIok_of tiOK, FnsOK_of ⟨⟨Tryd.func90, Tryd.call90⟩, trivial⟩, mixed⟩ (SpecsOK_of (E := octet_from_c1.env) trivial) Tryd.call90 rfl rfl fun K x r h => by
    rw [octet_from_c1.body_eq]; exact h

def octet_is__from_c1.spec : Dp.Spec := { args := (.scons (.int .u8) (.scons (.hl (.scons (.fn 90 (.scons (.ref (.int .u8)) (.scons (.ref (.int .u8)) .snil))) .snil)) .snil)), res := .bool, own := false, F := fun K x => octet_is__from_c1 K x.1 x.2.1 }
def octet_is__from_c1.hint : Dp.Hint := { n := 17 }
noncomputable def octet_is__from_c1.env : Dp.Env := { ti := ti, gl := gl, fns := [(87, Tryd.f87, octet_is__from_c1.hint)], specs := [(90, octet_from_c1.spec)], K := 0 }
theorem octet_is__from_c1.body_eq (K : Nat) (x : octet_is__from_c1.spec.args.den) : body (octet_is__from_c1.env.at K) 8 87 octet_is__from_c1.spec x = octet_is__from_c1 K x.1 x.2.1 := by kernel_rfl
theorem octet_is__from_c1.contract : Contract Tryd.prog gl 87 octet_is__from_c1.spec :=
  contract_of (E := octet_is__from_c1.env) ⟨TIok_of tiOK, FnsOK_of ⟨⟨Tryd.func87, Tryd.call87⟩, trivial⟩, mixed⟩ (SpecsOK_of (E := octet_is__from_c1.env) ⟨octet_from_c1.contract, trivial⟩) Tryd.call87 rfl rfl fun K x r h => by
    rw [octet_is__from_c1.body_eq]; exact h

def octet_Digit.spec : Dp.Spec := { args := (.scons (.int .u8) .snil), res := .bool, own := false, F := fun K x => octet_Digit K x.1 }
def octet_Digit.hint : Dp.Hint := { n := 7 }
noncomputable def octet_Digit.env : Dp.Env := { ti := ti, gl := gl, fns := [(88, Tryd.f88, octet_Digit.hint)], specs := [(73, octet_from.spec), (87, octet_is__from_c1.spec)], K := 0 }
theorem octet_Digit.body_eq (K : Nat) (x : octet_Digit.spec.args.den) : body (octet_Digit.env.at K) 8 88 octet_Digit.spec x = octet_Digit K x.1 := by kernel_rfl
theorem octet_Digit.contract : Contract Tryd.prog gl 88 octet_Digit.spec :=
  contract_of (E := octet_Digit.env) ⟨TIok_of tiOK, FnsOK_of ⟨⟨Tryd.func88, Tryd.call88⟩, trivial⟩, mixed⟩ (SpecsOK_of (E := octet_Digit.env) ⟨octet_from.contract, octet_is__from_c1.contract, trivial⟩) Tryd.call88 rfl rfl fun K x r h => by
    rw [octet_Digit.body_eq]; exact h

def octet_oneOf_c1.spec : Dp.Spec := { args := (.scons (.int .u8) (.scons (.ref .str) .snil)), res := .bool, own := false, F := fun K x => octet_oneOf_c1 K x.1 x.2.1 }
def octet_oneOf_c1.hint : Dp.Hint := { n := 8 }
noncomputable def octet_oneOf_c1.env : Dp.Env := { ti := ti, gl := gl, fns := [(104, Tryd.f104, octet_oneOf_c1.hint)], specs := [(85, strings_IndexByte.spec)], K := 0 }
theorem octet_oneOf_c1.body_eq (K : Nat) (x : octet_oneOf_c1.spec.args.den) : body (octet_oneOf_c1.env.at K) 8 104 octet_oneOf_c1.spec x = octet_oneOf_c1 K x.1 x.2.1 := by kernel_rfl
theorem octet_oneOf_c1.contract : Contract Tryd.prog gl 104 octet_oneOf_c1.spec :=
  contract_of (E := octet_oneOf_c1.env) ⟨TIok_of tiOK, FnsOK_of ⟨⟨Tryd.func104, Tryd.call104⟩, trivial⟩, mixed⟩ (SpecsOK_of (E := octet_oneOf_c1.env) ⟨strings_IndexByte.contract, trivial⟩) Tryd.call104 rfl rfl fun K x r h => by
    rw [octet_oneOf_c1.body_eq]; exact h

def octet_is__Digit_from_c1_from_c1_oneOf_c1.spec : Dp.Spec := { args := (.scons (.int .u8) (.scons (.hl (.scons (.fn 88 .snil) (.scons (.fn 90 (.scons (.ref (.int .u8)) (.scons (.ref (.int .u8)) .snil))) (.scons (.fn 90 (.scons (.ref (.int .u8)) (.scons (.ref (.int .u8)) .snil))) (.scons (.fn 104 (.scons (.ref .str) .snil)) .snil))))) .snil)), res := .bool, own := false, F := fun K x => octet_is__Digit_from_c1_from_c1_oneOf_c1 K x.1 x.2.1 }
def octet_is__Digit_from_c1_from_c1_oneOf_c1.hint : Dp.Hint := { n := 17 }
noncomputable def octet_is__Digit_from_c1_from_c1_oneOf_c1.env : Dp.Env := { ti := ti, gl := gl, fns := [(87, Tryd.f87, octet_is__Digit_from_c1_from_c1_oneOf_c1.hint)], specs := [(90, octet_from_c1.spec), (88, octet_Digit.spec), (104, octet_oneOf_c1.spec)], K := 0 }
theorem octet_is__Digit_from_c1_from_c1_oneOf_c1.body_eq (K : Nat) (x : octet_is__Digit_from_c1_from_c1_oneOf_c1.spec.args.den) : body (octet_is__Digit_from_c1_from_c1_oneOf_c1.env.at K) 8 87 octet_is__Digit_from_c1_from_c1_oneOf_c1.spec x = octet_is__Digit_from_c1_from_c1_oneOf_c1 K x.1 x.2.1 := by kernel_rfl
theorem octet_is__Digit_from_c1_from_c1_oneOf_c1.contract : Contract Tryd.prog gl 87 octet_is__Digit_from_c1_from_c1_oneOf_c1.spec :=
  contract_of (E := octet_is__Digit_from_c1_from_c1_oneOf_c1.env) ⟨TIok_of tiOK, FnsOK_of ⟨⟨Tryd.func87, Tryd.call87⟩, trivial⟩, mixed⟩ (SpecsOK_of (E := octet_is__Digit_from_c1_from_c1_oneOf_c1.env) ⟨octet_from_c1.contract, octet_Digit.contract, octet_oneOf_c1.contract, trivial⟩) Tryd.call87 rfl rfl fun K x r h => by
    rw [octet_is__Digit_from_c1_from_c1_oneOf_c1.body_eq]; exact h

def octet_Token.spec : Dp.Spec := { args := (.scons (.int .u8) .snil), res := .bool, own := false, F := fun K x => octet_Token K x.1 }
def octet_Token.hint : Dp.Hint := { n := 9 }
noncomputable def octet_Token.env : Dp.Env := { ti := ti, gl := gl, fns := [(72, Tryd.f72, octet_Token.hint)], specs := [(73, octet_from.spec), (89, octet_oneOf.spec), (87, octet_is__Digit_from_c1_from_c1_oneOf_c1.spec)], K := 0 }
theorem octet_Token.body_eq (K : Nat) (x : octet_Token.spec.args.den) : body (octet_Token.env.at K) 8 72 octet_Token.spec x = octet_Token K x.1 := by kernel_rfl
theorem octet_Token.contract : Contract Tryd.prog gl 72 octet_Token.spec :=
  contract_of (E := octet_Token.env) ⟨TIok_of tiOK, FnsOK_of ⟨⟨Tryd.func72, Tryd.call72⟩, trivial⟩, mixed⟩ (SpecsOK_of (E := octet_Token.env) ⟨octet_from.contract, octet_oneOf.contract, octet_is__Digit_from_c1_from_c1_oneOf_c1.contract, trivial⟩) Tryd.call72 rfl rfl fun K x r h => by
    rw [octet_Token.body_eq]; exact h

def octet_all__Token.spec : Dp.Spec := { args := (.scons .str (.scons (.fn 72 .snil) .snil)), res := .bool, own := false, F := fun K x => octet_all__Token K x.1 }
def octet_all__Token.hint : Dp.Hint := { n := 19, loops := [(2, { regs := [(1, (.fn 72 .snil)), (8, (.list (.int .u8))), (9, (.int .i64)), (10, (.int .i64))] }, [(.exit 0, { regs := [] }), (.ret, { regs := [(4, .bool)] })])] }
noncomputable def octet_all__Token.env : Dp.Env := { ti := ti, gl := gl, fns := [(71, Tryd.f71, octet_all__Token.hint)], specs := [(72, octet_Token.spec)], K := 0 }
noncomputable def octet_all__Token.r0 (K : Nat) : Nat → (((Unit) × ((List (Int)) × ((Int) × ((Int) × (Unit))))) × (Unit)) → Option (((Unit) × (Unit)) ⊕ (((Bool) × (Unit)) × (Unit))) :=
  loopV [(.exit 0, { regs := [] }), (.ret, { regs := [(4, .bool)] })] { regs := [(1, (.fn 72 .snil)), (8, (.list (.int .u8))), (9, (.int .i64)), (10, (.int .i64))] } (interp (octet_all__Token.env.at K) octet_all__Token.hint (callF (octet_all__Token.env.at K) 7) (Code.sub [1, 0, 1, 0, 0] (Tryd.f71.body.getD .skip)) _)
theorem octet_all__Token.s0 (K n : Nat) (x : (((Unit) × ((List (Int)) × ((Int) × ((Int) × (Unit))))) × (Unit))) : octet_all__Token.r0 K (n + 1) x = octet_all__Token.t0 K (octet_all__Token.r0 K n) x := by kernel_rfl
theorem octet_all__Token.e0 (K n : Nat) : octet_all__Token.r0 K n = octet_all__Token.l0 K n := by
  induction n with
  | zero => funext x; rfl
  | succ n ih => funext x; rw [octet_all__Token.s0, ih]; rfl
theorem octet_all__Token.body_eq (K : Nat) (x : octet_all__Token.spec.args.den) : body (octet_all__Token.env.at K) 8 71 octet_all__Token.spec x = octet_all__Token.tr (octet_all__Token.r0 K) K x.1 := by kernel_rfl
theorem octet_all__Token.contract : Contract Tryd.prog gl 71 octet_all__Token.spec :=
  contract_of (E := octet_all__Token.env) ⟨TIok_of tiOK, FnsOK_of ⟨⟨Tryd.func71, Tryd.call71⟩, trivial⟩, mixed⟩ (SpecsOK_of (E := octet_all__Token.env) ⟨octet_Token.contract, trivial⟩) Tryd.call71 rfl rfl fun K x r h => by
    rw [octet_all__Token.body_eq, show octet_all__Token.r0 K = octet_all__Token.l0 K from funext (octet_all__Token.e0 K)]; exact h

def octet_IsToken.spec : Dp.Spec := { args := (.scons .str .snil), res := .bool, own := false, F := fun K x => octet_IsToken K x.1 }
def octet_IsToken.hint : Dp.Hint := { n := 9 }
noncomputable def octet_IsToken.env : Dp.Env := { ti := ti, gl := gl, fns := [(40, Tryd.f40, octet_IsToken.hint)], specs := [(71, octet_all__Token.spec)], K := 0 }
theorem octet_IsToken.body_eq (K : Nat) (x : octet_IsToken.spec.args.den) : body (octet_IsToken.env.at K) 8 40 octet_IsToken.spec x = octet_IsToken K x.1 := by kernel_rfl
theorem octet_IsToken.contract : Contract Tryd.prog gl 40 octet_IsToken.spec :=
  contract_of (E := octet_IsToken.env) ⟨TIok_of tiOK, FnsOK_of ⟨⟨Tryd.func40, Tryd.call40⟩, trivial⟩, mixed⟩ (SpecsOK_of (E := octet_IsToken.env) ⟨octet_all__Token.contract, trivial⟩) Tryd.call40 rfl rfl fun K x r h => by
    rw [octet_IsToken.body_eq]; exact h

def octet_Lower.spec : Dp.Spec := { args := (.scons .str .snil), res := .str, own := false, F := fun K x => octet_Lower K x.1 }
def octet_Lower.hint : Dp.Hint := { n := 29, conds := [(19, [(.normal, { regs := [(3, (.fn 90 (.scons (.ref (.int .u8)) (.scons (.ref (.int .u8)) .snil)))), (4, (.slw 0)), (10, (.slw 0)), (11, (.int .i64)), (12, (.int .i64))], heap := [(.row (.int .u8))] })])], loops := [(4, { regs := [(3, (.fn 90 (.scons (.ref (.int .u8)) (.scons (.ref (.int .u8)) .snil)))), (4, (.slw 0)), (10, (.slw 0)), (11, (.int .i64)), (12, (.int .i64))], heap := [(.row (.int .u8))] }, [(.exit 0, { regs := [(4, (.slw 0))], heap := [(.row (.int .u8))] })])], own := [9] }
noncomputable def octet_Lower.env : Dp.Env := { ti := ti, gl := gl, fns := [(41, Tryd.f41, octet_Lower.hint)], specs := [(73, octet_from.spec), (90, octet_from_c1.spec)], K := 0 }
noncomputable def octet_Lower.r0 (K : Nat) : Nat → ((((Int) × ((Int) × (Unit))) × ((Unit) × ((Unit) × ((Int) × ((Int) × (Unit)))))) × ((List (Int)) × (Unit))) → Option ((((Unit) × (Unit)) × ((List (Int)) × (Unit)))) :=
  loopV [(.exit 0, { regs := [(4, (.slw 0))], heap := [(.row (.int .u8))] })] { regs := [(3, (.fn 90 (.scons (.ref (.int .u8)) (.scons (.ref (.int .u8)) .snil)))), (4, (.slw 0)), (10, (.slw 0)), (11, (.int .i64)), (12, (.int .i64))], heap := [(.row (.int .u8))] } (interp (octet_Lower.env.at K) octet_Lower.hint (callF (octet_Lower.env.at K) 7) (Code.sub [1, 1, 1, 0, 1, 0, 0] (Tryd.f41.body.getD .skip)) _)
theorem octet_Lower.s0 (K n : Nat) (x : ((((Int) × ((Int) × (Unit))) × ((Unit) × ((Unit) × ((Int) × ((Int) × (Unit)))))) × ((List (Int)) × (Unit)))) : octet_Lower.r0 K (n + 1) x = octet_Lower.t0 K (octet_Lower.r0 K n) x := by kernel_rfl
theorem octet_Lower.e0 (K n : Nat) : octet_Lower.r0 K n = octet_Lower.l0 K n := by
  induction n with
  | zero => funext x; rfl
  | succ n ih => funext x; rw [octet_Lower.s0, ih]; rfl
theorem octet_Lower.body_eq (K : Nat) (x : octet_Lower.spec.args.den) : body (octet_Lower.env.at K) 8 41 octet_Lower.spec x = octet_Lower.tr (octet_Lower.r0 K) K x.1 := by kernel_rfl
theorem octet_Lower.contract : Contract Tryd.prog gl 41 octet_Lower.spec :=
  contract_of (E := octet_Lower.env) ⟨TIok_of tiOK, FnsOK_of ⟨⟨Tryd.func41, Tryd.call41⟩, trivial⟩, mixed⟩ (SpecsOK_of (E := octet_Lower.env) ⟨octet_from.contract, octet_from_c1.contract, trivial⟩) Tryd.call41 rfl rfl fun K x r h => by
    rw [octet_Lower.body_eq, show octet_Lower.r0 K = octet_Lower.l0 K from funext (octet_Lower.e0 K)]; exact h

def items_Param.spec : Dp.Spec := { args := (.scons .str .snil), res := (.tup (.scons .str (.scons .str (.scons .bool (.scons (.int .i64) .snil))))), own := false, F := fun K x => items_Param K x.1 }
def items_Param.hint : Dp.Hint := { n := 39, conds := [(25, [(.normal, { regs := [(6, .str), (7, .str), (8, .bool)] }), (.ret, { regs := [(2, .str), (3, .str), (4, .bool), (5, (.int .i64))] })])], regions := [(4, [(.normal, { regs := [(6, .str), (7, .str), (8, .bool), (25, .bool)] })])] }
noncomputable def items_Param.env : Dp.Env := { ti := ti, gl := gl, fns := [(36, Tryd.f36, items_Param.hint)], specs := [(67, octet_Cut.spec), (40, octet_IsToken.spec), (41, octet_Lower.spec), (34, items_Unquote.spec)], K := 0 }
theorem items_Param.body_eq (K : Nat) (x : items_Param.spec.args.den) : body (items_Param.env.at K) 8 36 items_Param.spec x = items_Param K x.1 := by kernel_rfl
theorem items_Param.contract : Contract Tryd.prog gl 36 items_Param.spec :=
  contract_of (E := items_Param.env) ⟨TIok_of tiOK, FnsOK_of ⟨⟨Tryd.func36, Tryd.call36⟩, trivial⟩, mixed⟩ (SpecsOK_of (E := items_Param.env) ⟨octet_Cut.contract, octet_IsToken.contract, octet_Lower.contract, items_Unquote.contract, trivial⟩) Tryd.call36 rfl rfl fun K x r h => by
    rw [items_Param.body_eq]; exact h

def depotref06_Same.spec : Dp.Spec := { args := (.scons (.list .str) (.scons (.list .str) .snil)), res := .bool, own := false, F := fun K x => depotref06_Same K x.1 x.2.1 }
def depotref06_Same.hint : Dp.Hint := { n := 26, loops := [(4, { regs := [(0, (.list .str)), (1, (.list .str)), (5, (.int .i64))] }, [(.exit 0, { regs := [] }), (.ret, { regs := [(4, .bool)] })])] }
noncomputable def depotref06_Same.env : Dp.Env := { ti := ti, gl := gl, fns := [(20, Tryd.f20, depotref06_Same.hint)], specs := [], K := 0 }
noncomputable def depotref06_Same.r0 (K : Nat) : Nat → (((List (List UInt8)) × ((List (List UInt8)) × ((Int) × (Unit)))) × (Unit)) → Option (((Unit) × (Unit)) ⊕ (((Bool) × (Unit)) × (Unit))) :=
  loopV [(.exit 0, { regs := [] }), (.ret, { regs := [(4, .bool)] })] { regs := [(0, (.list .str)), (1, (.list .str)), (5, (.int .i64))] } (interp (depotref06_Same.env.at K) depotref06_Same.hint (callF (depotref06_Same.env.at K) 7) (Code.sub [1, 1, 0, 1, 0, 0] (Tryd.f20.body.getD .skip)) _)
theorem depotref06_Same.s0 (K n : Nat) (x : (((List (List UInt8)) × ((List (List UInt8)) × ((Int) × (Unit)))) × (Unit))) : depotref06_Same.r0 K (n + 1) x = depotref06_Same.t0 K (depotref06_Same.r0 K n) x := by kernel_rfl
theorem depotref06_Same.e0 (K n : Nat) : depotref06_Same.r0 K n = depotref06_Same.l0 K n := by
  induction n with
  | zero => funext x; rfl
  | succ n ih => funext x; rw [depotref06_Same.s0, ih]; rfl
theorem depotref06_Same.body_eq (K : Nat) (x : depotref06_Same.spec.args.den) : body (depotref06_Same.env.at K) 8 20 depotref06_Same.spec x = depotref06_Same.tr (depotref06_Same.r0 K) K x.1 x.2.1 := by kernel_rfl
theorem depotref06_Same.contract : Contract Tryd.prog gl 20 depotref06_Same.spec :=
  contract_of (E := depotref06_Same.env) ⟨TIok_of tiOK, FnsOK_of ⟨⟨Tryd.func20, Tryd.call20⟩, trivial⟩, mixed⟩ (SpecsOK_of (E := depotref06_Same.env) trivial) Tryd.call20 rfl rfl fun K x r h => by
    rw [depotref06_Same.body_eq, show depotref06_Same.r0 K = depotref06_Same.l0 K from funext (depotref06_Same.e0 K)]; exact h

def octet_Same.spec : Dp.Spec := { args := (.scons .str (.scons .str .snil)), res := .bool, own := false, F := fun K x => octet_Same K x.1 x.2.1 }
def octet_Same.hint : Dp.Hint := { n := 17 }
noncomputable def octet_Same.env : Dp.Env := { ti := ti, gl := gl, fns := [(25, Tryd.f25, octet_Same.hint)], specs := [(41, octet_Lower.spec)], K := 0 }
theorem octet_Same.body_eq (K : Nat) (x : octet_Same.spec.args.den) : body (octet_Same.env.at K) 8 25 octet_Same.spec x = octet_Same K x.1 x.2.1 := by kernel_rfl
theorem octet_Same.contract : Contract Tryd.prog gl 25 octet_Same.spec :=
  contract_of (E := octet_Same.env) ⟨TIok_of tiOK, FnsOK_of ⟨⟨Tryd.func25, Tryd.call25⟩, trivial⟩, mixed⟩ (SpecsOK_of (E := octet_Same.env) ⟨octet_Lower.contract, trivial⟩) Tryd.call25 rfl rfl fun K x r h => by
    rw [octet_Same.body_eq]; exact h

def items_Has.spec : Dp.Spec := { args := (.scons .str (.scons .str .snil)), res := .bool, own := false, F := fun K x => items_Has K x.1 x.2.1 }
def items_Has.hint : Dp.Hint := { n := 24, loops := [(3, { regs := [(1, .str), (14, (.list .str)), (15, (.int .i64)), (16, (.int .i64))] }, [(.exit 0, { regs := [] }), (.ret, { regs := [(4, .bool)] })])] }
noncomputable def items_Has.env : Dp.Env := { ti := ti, gl := gl, fns := [(30, Tryd.f30, items_Has.hint)], specs := [(28, items_Split.spec), (25, octet_Same.spec)], K := 0 }
noncomputable def items_Has.r0 (K : Nat) : Nat → (((List UInt8) × ((List (List UInt8)) × ((Int) × ((Int) × (Unit))))) × (Unit)) → Option (((Unit) × (Unit)) ⊕ (((Bool) × (Unit)) × (Unit))) :=
  loopV [(.exit 0, { regs := [] }), (.ret, { regs := [(4, .bool)] })] { regs := [(1, .str), (14, (.list .str)), (15, (.int .i64)), (16, (.int .i64))] } (interp (items_Has.env.at K) items_Has.hint (callF (items_Has.env.at K) 7) (Code.sub [1, 1, 0, 1, 0, 0] (Tryd.f30.body.getD .skip)) _)
theorem items_Has.s0 (K n : Nat) (x : (((List UInt8) × ((List (List UInt8)) × ((Int) × ((Int) × (Unit))))) × (Unit))) : items_Has.r0 K (n + 1) x = items_Has.t0 K (items_Has.r0 K n) x := by kernel_rfl
theorem items_Has.e0 (K n : Nat) : items_Has.r0 K n = items_Has.l0 K n := by
  induction n with
  | zero => funext x; rfl
  | succ n ih => funext x; rw [items_Has.s0, ih]; rfl
theorem items_Has.body_eq (K : Nat) (x : items_Has.spec.args.den) : body (items_Has.env.at K) 8 30 items_Has.spec x = items_Has.tr (items_Has.r0 K) K x.1 x.2.1 := by kernel_rfl
theorem items_Has.contract : Contract Tryd.prog gl 30 items_Has.spec :=
  contract_of (E := items_Has.env) ⟨TIok_of tiOK, FnsOK_of ⟨⟨Tryd.func30, Tryd.call30⟩, trivial⟩, mixed⟩ (SpecsOK_of (E := items_Has.env) ⟨items_Split.contract, octet_Same.contract, trivial⟩) Tryd.call30 rfl rfl fun K x r h => by
    rw [items_Has.body_eq, show items_Has.r0 K = items_Has.l0 K from funext (items_Has.e0 K)]; exact h

def items_Join.spec : Dp.Spec := { args := (.scons (.list .str) .snil), res := .str, own := false, F := fun K x => items_Join K x.1 }
def items_Join.hint : Dp.Hint := { n := 5 }
noncomputable def items_Join.env : Dp.Env := { ti := ti, gl := gl, fns := [(32, Tryd.f32, items_Join.hint)], specs := [(64, joinS.spec)], K := 0 }
theorem items_Join.body_eq (K : Nat) (x : items_Join.spec.args.den) : body (items_Join.env.at K) 8 32 items_Join.spec x = items_Join K x.1 := by kernel_rfl
theorem items_Join.contract : Contract Tryd.prog gl 32 items_Join.spec :=
  contract_of (E := items_Join.env) ⟨TIok_of tiOK, FnsOK_of ⟨⟨Tryd.func32, Tryd.call32⟩, trivial⟩, mixed⟩ (SpecsOK_of (E := items_Join.env) ⟨joinS.contract, trivial⟩) Tryd.call32 rfl rfl fun K x r h => by
    rw [items_Join.body_eq]; exact h

def depotlaw06_splits.spec : Dp.Spec := { args := .snil, res := .bool, own := false, F := fun K x => depotlaw06_splits K }
def depotlaw06_splits.hint : Dp.Hint := { n := 75 }
noncomputable def depotlaw06_splits.env : Dp.Env := { ti := ti, gl := gl, fns := [(27, Tryd.f27, depotlaw06_splits.hint)], specs := [(28, items_Split.spec), (36, items_Param.spec), (20, depotref06_Same.spec), (30, items_Has.spec), (32, items_Join.spec), (34, items_Unquote.spec), (38, items_Quote.spec)], K := 0 }
theorem depotlaw06_splits.body_eq (K : Nat) (x : depotlaw06_splits.spec.args.den) : body (depotlaw06_splits.env.at K) 8 27 depotlaw06_splits.spec x = depotlaw06_splits K := by kernel_rfl
theorem depotlaw06_splits.contract : Contract Tryd.prog gl 27 depotlaw06_splits.spec :=
  contract_of (E := depotlaw06_splits.env) ⟨TIok_of tiOK, FnsOK_of ⟨⟨Tryd.func27, Tryd.call27⟩, trivial⟩, mixed⟩ (SpecsOK_of (E := depotlaw06_splits.env) ⟨items_Split.contract, items_Param.contract, depotref06_Same.contract, items_Has.contract, items_Join.contract, items_Unquote.contract, items_Quote.contract, trivial⟩) Tryd.call27 rfl rfl fun K x r h => by
    rw [depotlaw06_splits.body_eq]; exact h

def depotref01_blank.spec : Dp.Spec := { args := (.scons (.int .u8) .snil), res := .bool, own := false, F := fun K x => depotref01_blank K x.1 }
def depotref01_blank.hint : Dp.Hint := { n := 9 }
noncomputable def depotref01_blank.env : Dp.Env := { ti := ti, gl := gl, fns := [(81, Tryd.f81, depotref01_blank.hint)], specs := [], K := 0 }
theorem depotref01_blank.body_eq (K : Nat) (x : depotref01_blank.spec.args.den) : body (depotref01_blank.env.at K) 8 81 depotref01_blank.spec x = depotref01_blank K x.1 := by kernel_rfl
theorem depotref01_blank.contract : Contract Tryd.prog gl 81 depotref01_blank.spec :=
  contract_of (E := depotref01_blank.env) ⟨TIok_of tiOK, FnsOK_of ⟨⟨Tryd.func81, Tryd.call81⟩, trivial⟩, mixed⟩ (SpecsOK_of (E := depotref01_blank.env) trivial) Tryd.call81 rfl rfl fun K x r h => by
    rw [depotref01_blank.body_eq]; exact h

def depotref01_Trim.spec : Dp.Spec := { args := (.scons .str .snil), res := .str, own := false, F := fun K x => depotref01_Trim K x.1 }
def depotref01_Trim.hint : Dp.Hint := { n := 30, regions := [(1, [(.normal, { regs := [(0, .str), (10, .bool)] })]), (3, [(.normal, { regs := [(0, .str), (23, .bool)] })])], loops := [(1, { regs := [(0, .str)] }, [(.exit 0, { regs := [(0, .str)] })]), (3, { regs := [(0, .str)] }, [(.exit 2, { regs := [(0, .str)] })])] }
noncomputable def depotref01_Trim.env : Dp.Env := { ti := ti, gl := gl, fns := [(63, Tryd.f63, depotref01_Trim.hint)], specs := [(81, depotref01_blank.spec)], K := 0 }
noncomputable def depotref01_Trim.r1 (K : Nat) : Nat → (((List UInt8) × (Unit)) × (Unit)) → Option ((((List UInt8) × (Unit)) × (Unit))) :=
  loopV [(.exit 2, { regs := [(0, .str)] })] { regs := [(0, .str)] } (interp (depotref01_Trim.env.at K) depotref01_Trim.hint (callF (depotref01_Trim.env.at K) 7) (Code.sub [1, 1, 0, 0, 0] (Tryd.f63.body.getD .skip)) _)
theorem depotref01_Trim.s1 (K n : Nat) (x : (((List UInt8) × (Unit)) × (Unit))) : depotref01_Trim.r1 K (n + 1) x = depotref01_Trim.t1 K (depotref01_Trim.r1 K n) x := by kernel_rfl
theorem depotref01_Trim.e1 (K n : Nat) : depotref01_Trim.r1 K n = depotref01_Trim.l1 K n := by
  induction n with
  | zero => funext x; rfl
  | succ n ih => funext x; rw [depotref01_Trim.s1, ih]; rfl
noncomputable def depotref01_Trim.r0 (K : Nat) : Nat → (((List UInt8) × (Unit)) × (Unit)) → Option ((((List UInt8) × (Unit)) × (Unit))) :=
  loopV [(.exit 0, { regs := [(0, .str)] })] { regs := [(0, .str)] } (interp (depotref01_Trim.env.at K) depotref01_Trim.hint (callF (depotref01_Trim.env.at K) 7) (Code.sub [1, 0, 0, 0] (Tryd.f63.body.getD .skip)) _)
theorem depotref01_Trim.s0 (K n : Nat) (x : (((List UInt8) × (Unit)) × (Unit))) : depotref01_Trim.r0 K (n + 1) x = depotref01_Trim.t0 K (depotref01_Trim.r0 K n) x := by kernel_rfl
theorem depotref01_Trim.e0 (K n : Nat) : depotref01_Trim.r0 K n = depotref01_Trim.l0 K n := by
  induction n with
  | zero => funext x; rfl
  | succ n ih => funext x; rw [depotref01_Trim.s0, ih]; rfl
theorem depotref01_Trim.body_eq (K : Nat) (x : depotref01_Trim.spec.args.den) : body (depotref01_Trim.env.at K) 8 63 depotref01_Trim.spec x = depotref01_Trim.tr (depotref01_Trim.r0 K) (depotref01_Trim.r1 K) K x.1 := by kernel_rfl
theorem depotref01_Trim.contract : Contract Tryd.prog gl 63 depotref01_Trim.spec :=
  contract_of (E := depotref01_Trim.env) ⟨TIok_of tiOK, FnsOK_of ⟨⟨Tryd.func63, Tryd.call63⟩, trivial⟩, mixed⟩ (SpecsOK_of (E := depotref01_Trim.env) ⟨depotref01_blank.contract, trivial⟩) Tryd.call63 rfl rfl fun K x r h => by
    rw [depotref01_Trim.body_eq, show depotref01_Trim.r0 K = depotref01_Trim.l0 K from funext (depotref01_Trim.e0 K), show depotref01_Trim.r1 K = depotref01_Trim.l1 K from funext (depotref01_Trim.e1 K)]; exact h

def depotref06_Split.spec : Dp.Spec := { args := (.scons .str .snil), res := (.tup (.scons (.list .str) (.scons (.int .i64) .snil))), own := false, F := fun K x => depotref06_Split K x.1 }
def depotref06_Split.hint : Dp.Hint := { n := 76, conds := [(40, [(.normal, { regs := [(0, .str), (4, (.slw 1)), (5, .str), (6, .bool), (7, (.int .i64))], heap := [(.row .str), (.row .str)], app := [1] })]), (53, [(.normal, { regs := [(0, .str), (4, (.slw 1)), (6, .bool), (7, (.int .i64))], heap := [(.row .str), (.row .str)], app := [1] })])], blocks := [(1, [(.normal, { regs := [(0, .str), (4, (.slw 1)), (5, .str), (6, .bool), (7, (.int .i64))], heap := [(.row .str), (.row .str)], app := [1] })])], regions := [(7, [(.normal, { regs := [(0, .str), (4, (.slw 1)), (5, .str), (6, .bool), (7, (.int .i64)), (27, .bool)], heap := [(.row .str), (.row .str)], app := [1] })]), (12, [(.normal, { regs := [(0, .str), (4, (.slw 1)), (5, .str), (6, .bool), (7, (.int .i64)), (50, .bool)], heap := [(.row .str), (.row .str)], app := [1] })])], loops := [(5, { regs := [(0, .str), (4, (.slw 1)), (5, .str), (6, .bool), (7, (.int .i64))], heap := [(.row .str), (.row .str)], app := [1] }, [(.exit 0, { regs := [(4, (.slw 1)), (5, .str), (6, .bool)], heap := [(.row .str), (.row .str)], app := [1] })])], own := [2, 2, 4] }
noncomputable def depotref06_Split.env : Dp.Env := { ti := ti, gl := gl, fns := [(29, Tryd.f29, depotref06_Split.hint)], specs := [(63, depotref01_Trim.spec)], K := 0 }
noncomputable def depotref06_Split.r0 (K : Nat) : Nat → (((List UInt8) × ((Unit) × ((List UInt8) × ((Bool) × ((Int) × (Unit)))))) × ((List (List UInt8)) × ((List (List UInt8)) × (Unit)))) → Option ((((Unit) × ((List UInt8) × ((Bool) × (Unit)))) × ((List (List UInt8)) × ((List (List UInt8)) × (Unit))))) :=
  loopV [(.exit 0, { regs := [(4, (.slw 1)), (5, .str), (6, .bool)], heap := [(.row .str), (.row .str)], app := [1] })] { regs := [(0, .str), (4, (.slw 1)), (5, .str), (6, .bool), (7, (.int .i64))], heap := [(.row .str), (.row .str)], app := [1] } (interp (depotref06_Split.env.at K) depotref06_Split.hint (callF (depotref06_Split.env.at K) 7) (Code.sub [1, 1, 1, 1, 0, 1, 0, 0] (Tryd.f29.body.getD .skip)) _)
theorem depotref06_Split.s0 (K n : Nat) (x : (((List UInt8) × ((Unit) × ((List UInt8) × ((Bool) × ((Int) × (Unit)))))) × ((List (List UInt8)) × ((List (List UInt8)) × (Unit))))) : depotref06_Split.r0 K (n + 1) x = depotref06_Split.t0 K (depotref06_Split.r0 K n) x := by kernel_rfl
theorem depotref06_Split.e0 (K n : Nat) : depotref06_Split.r0 K n = depotref06_Split.l0 K n := by
  induction n with
  | zero => funext x; rfl
  | succ n ih => funext x; rw [depotref06_Split.s0, ih]; rfl
theorem depotref06_Split.body_eq (K : Nat) (x : depotref06_Split.spec.args.den) : body (depotref06_Split.env.at K) 8 29 depotref06_Split.spec x = depotref06_Split.tr (depotref06_Split.r0 K) K x.1 := by kernel_rfl
theorem depotref06_Split.contract : Contract Tryd.prog gl 29 depotref06_Split.spec :=
  contract_of (E := depotref06_Split.env) ⟨TIok_of tiOK, FnsOK_of ⟨⟨Tryd.func29, Tryd.call29⟩, trivial⟩, mixed⟩ (SpecsOK_of (E := depotref06_Split.env) ⟨depotref01_Trim.contract, trivial⟩) Tryd.call29 rfl rfl fun K x r h => by
    rw [depotref06_Split.body_eq, show depotref06_Split.r0 K = depotref06_Split.l0 K from funext (depotref06_Split.e0 K)]; exact h

def depotref01_Lower.spec : Dp.Spec := { args := (.scons .str .snil), res := .str, own := false, F := fun K x => depotref01_Lower K x.1 }
def depotref01_Lower.hint : Dp.Hint := { n := 35, conds := [(24, [(.normal, { regs := [(3, (.slw 0)), (4, (.int .i64))], heap := [(.row (.int .u8))] })])], regions := [(5, [(.normal, { regs := [(3, (.slw 0)), (4, (.int .i64)), (24, .bool)], heap := [(.row (.int .u8))] })])], loops := [(3, { regs := [(3, (.slw 0)), (4, (.int .i64))], heap := [(.row (.int .u8))] }, [(.exit 0, { regs := [(3, (.slw 0))], heap := [(.row (.int .u8))] })])], own := [6] }
noncomputable def depotref01_Lower.env : Dp.Env := { ti := ti, gl := gl, fns := [(70, Tryd.f70, depotref01_Lower.hint)], specs := [], K := 0 }
noncomputable def depotref01_Lower.r0 (K : Nat) : Nat → (((Unit) × ((Int) × (Unit))) × ((List (Int)) × (Unit))) → Option ((((Unit) × (Unit)) × ((List (Int)) × (Unit)))) :=
  loopV [(.exit 0, { regs := [(3, (.slw 0))], heap := [(.row (.int .u8))] })] { regs := [(3, (.slw 0)), (4, (.int .i64))], heap := [(.row (.int .u8))] } (interp (depotref01_Lower.env.at K) depotref01_Lower.hint (callF (depotref01_Lower.env.at K) 7) (Code.sub [1, 1, 0, 1, 0, 0] (Tryd.f70.body.getD .skip)) _)
theorem depotref01_Lower.s0 (K n : Nat) (x : (((Unit) × ((Int) × (Unit))) × ((List (Int)) × (Unit)))) : depotref01_Lower.r0 K (n + 1) x = depotref01_Lower.t0 K (depotref01_Lower.r0 K n) x := by kernel_rfl
theorem depotref01_Lower.e0 (K n : Nat) : depotref01_Lower.r0 K n = depotref01_Lower.l0 K n := by
  induction n with
  | zero => funext x; rfl
  | succ n ih => funext x; rw [depotref01_Lower.s0, ih]; rfl
theorem depotref01_Lower.body_eq (K : Nat) (x : depotref01_Lower.spec.args.den) : body (depotref01_Lower.env.at K) 8 70 depotref01_Lower.spec x = depotref01_Lower.tr (depotref01_Lower.r0 K) K x.1 := by kernel_rfl
theorem depotref01_Lower.contract : Contract Tryd.prog gl 70 depotref01_Lower.spec :=
  contract_of (E := depotref01_Lower.env) ⟨TIok_of tiOK, FnsOK_of ⟨⟨Tryd.func70, Tryd.call70⟩, trivial⟩, mixed⟩ (SpecsOK_of (E := depotref01_Lower.env) trivial) Tryd.call70 rfl rfl fun K x r h => by
    rw [depotref01_Lower.body_eq, show depotref01_Lower.r0 K = depotref01_Lower.l0 K from funext (depotref01_Lower.e0 K)]; exact h

def depotref01_Same.spec : Dp.Spec := { args := (.scons .str (.scons .str .snil)), res := .bool, own := false, F := fun K x => depotref01_Same K x.1 x.2.1 }
def depotref01_Same.hint : Dp.Hint := { n := 10 }
noncomputable def depotref01_Same.env : Dp.Env := { ti := ti, gl := gl, fns := [(61, Tryd.f61, depotref01_Same.hint)], specs := [(70, depotref01_Lower.spec)], K := 0 }
theorem depotref01_Same.body_eq (K : Nat) (x : depotref01_Same.spec.args.den) : body (depotref01_Same.env.at K) 8 61 depotref01_Same.spec x = depotref01_Same K x.1 x.2.1 := by kernel_rfl
theorem depotref01_Same.contract : Contract Tryd.prog gl 61 depotref01_Same.spec :=
  contract_of (E := depotref01_Same.env) ⟨TIok_of tiOK, FnsOK_of ⟨⟨Tryd.func61, Tryd.call61⟩, trivial⟩, mixed⟩ (SpecsOK_of (E := depotref01_Same.env) ⟨depotref01_Lower.contract, trivial⟩) Tryd.call61 rfl rfl fun K x r h => by
    rw [depotref01_Same.body_eq]; exact h

def depotref06_Has.spec : Dp.Spec := { args := (.scons .str (.scons .str .snil)), res := .bool, own := false, F := fun K x => depotref06_Has K x.1 x.2.1 }
def depotref06_Has.hint : Dp.Hint := { n := 25, loops := [(3, { regs := [(1, .str), (5, (.list .str)), (7, (.int .i64))] }, [(.exit 0, { regs := [] }), (.ret, { regs := [(4, .bool)] })])] }
noncomputable def depotref06_Has.env : Dp.Env := { ti := ti, gl := gl, fns := [(31, Tryd.f31, depotref06_Has.hint)], specs := [(29, depotref06_Split.spec), (61, depotref01_Same.spec)], K := 0 }
noncomputable def depotref06_Has.r0 (K : Nat) : Nat → (((List UInt8) × ((List (List UInt8)) × ((Int) × (Unit)))) × (Unit)) → Option (((Unit) × (Unit)) ⊕ (((Bool) × (Unit)) × (Unit))) :=
  loopV [(.exit 0, { regs := [] }), (.ret, { regs := [(4, .bool)] })] { regs := [(1, .str), (5, (.list .str)), (7, (.int .i64))] } (interp (depotref06_Has.env.at K) depotref06_Has.hint (callF (depotref06_Has.env.at K) 7) (Code.sub [1, 1, 0, 1, 0, 0] (Tryd.f31.body.getD .skip)) _)
theorem depotref06_Has.s0 (K n : Nat) (x : (((List UInt8) × ((List (List UInt8)) × ((Int) × (Unit)))) × (Unit))) : depotref06_Has.r0 K (n + 1) x = depotref06_Has.t0 K (depotref06_Has.r0 K n) x := by kernel_rfl
theorem depotref06_Has.e0 (K n : Nat) : depotref06_Has.r0 K n = depotref06_Has.l0 K n := by
  induction n with
  | zero => funext x; rfl
  | succ n ih => funext x; rw [depotref06_Has.s0, ih]; rfl
theorem depotref06_Has.body_eq (K : Nat) (x : depotref06_Has.spec.args.den) : body (depotref06_Has.env.at K) 8 31 depotref06_Has.spec x = depotref06_Has.tr (depotref06_Has.r0 K) K x.1 x.2.1 := by kernel_rfl
theorem depotref06_Has.contract : Contract Tryd.prog gl 31 depotref06_Has.spec :=
  contract_of (E := depotref06_Has.env) ⟨TIok_of tiOK, FnsOK_of ⟨⟨Tryd.func31, Tryd.call31⟩, trivial⟩, mixed⟩ (SpecsOK_of (E := depotref06_Has.env) ⟨depotref06_Split.contract, depotref01_Same.contract, trivial⟩) Tryd.call31 rfl rfl fun K x r h => by
    rw [depotref06_Has.body_eq, show depotref06_Has.r0 K = depotref06_Has.l0 K from funext (depotref06_Has.e0 K)]; exact h

def depotref06_Join.spec : Dp.Spec := { args := (.scons (.list .str) .snil), res := .str, own := false, F := fun K x => depotref06_Join K x.1 }
def depotref06_Join.hint : Dp.Hint := { n := 22, conds := [(12, [(.normal, { regs := [(0, (.list .str)), (3, .str), (4, (.int .i64))] })])], loops := [(3, { regs := [(0, (.list .str)), (3, .str), (4, (.int .i64))] }, [(.exit 0, { regs := [(3, .str)] })])] }
noncomputable def depotref06_Join.env : Dp.Env := { ti := ti, gl := gl, fns := [(33, Tryd.f33, depotref06_Join.hint)], specs := [], K := 0 }
noncomputable def depotref06_Join.r0 (K : Nat) : Nat → (((List (List UInt8)) × ((List UInt8) × ((Int) × (Unit)))) × (Unit)) → Option ((((List UInt8) × (Unit)) × (Unit))) :=
  loopV [(.exit 0, { regs := [(3, .str)] })] { regs := [(0, (.list .str)), (3, .str), (4, (.int .i64))] } (interp (depotref06_Join.env.at K) depotref06_Join.hint (callF (depotref06_Join.env.at K) 7) (Code.sub [1, 1, 0, 1, 0, 0] (Tryd.f33.body.getD .skip)) _)
theorem depotref06_Join.s0 (K n : Nat) (x : (((List (List UInt8)) × ((List UInt8) × ((Int) × (Unit)))) × (Unit))) : depotref06_Join.r0 K (n + 1) x = depotref06_Join.t0 K (depotref06_Join.r0 K n) x := by kernel_rfl
theorem depotref06_Join.e0 (K n : Nat) : depotref06_Join.r0 K n = depotref06_Join.l0 K n := by
  induction n with
  | zero => funext x; rfl
  | succ n ih => funext x; rw [depotref06_Join.s0, ih]; rfl
theorem depotref06_Join.body_eq (K : Nat) (x : depotref06_Join.spec.args.den) : body (depotref06_Join.env.at K) 8 33 depotref06_Join.spec x = depotref06_Join.tr (depotref06_Join.r0 K) K x.1 := by kernel_rfl
theorem depotref06_Join.contract : Contract Tryd.prog gl 33 depotref06_Join.spec :=
  contract_of (E := depotref06_Join.env) ⟨TIok_of tiOK, FnsOK_of ⟨⟨Tryd.func33, Tryd.call33⟩, trivial⟩, mixed⟩ (SpecsOK_of (E := depotref06_Join.env) trivial) Tryd.call33 rfl rfl fun K x r h => by
    rw [depotref06_Join.body_eq, show depotref06_Join.r0 K = depotref06_Join.l0 K from funext (depotref06_Join.e0 K)]; exact h

def depotlaw06_ItemsSplits.spec : Dp.Spec := { args := (.scons .str (.scons .str .snil)), res := .bool, own := false, F := fun K x => depotlaw06_ItemsSplits K x.1 x.2.1 }
def depotlaw06_ItemsSplits.hint : Dp.Hint := { n := 55, regions := [(1, [(.normal, { regs := [(0, .str), (1, .str), (16, .bool)] })])] }
noncomputable def depotlaw06_ItemsSplits.env : Dp.Env := { ti := ti, gl := gl, fns := [(6, Tryd.f6, depotlaw06_ItemsSplits.hint)], specs := [(28, items_Split.spec), (20, depotref06_Same.spec), (30, items_Has.spec), (32, items_Join.spec), (27, depotlaw06_splits.spec), (29, depotref06_Split.spec), (31, depotref06_Has.spec), (33, depotref06_Join.spec)], K := 0 }
theorem depotlaw06_ItemsSplits.body_eq (K : Nat) (x : depotlaw06_ItemsSplits.spec.args.den) : body (depotlaw06_ItemsSplits.env.at K) 8 6 depotlaw06_ItemsSplits.spec x = depotlaw06_ItemsSplits K x.1 x.2.1 := by kernel_rfl
theorem depotlaw06_ItemsSplits.contract : Contract Tryd.prog gl 6 depotlaw06_ItemsSplits.spec :=
  contract_of (E := depotlaw06_ItemsSplits.env) ⟨TIok_of tiOK, FnsOK_of ⟨⟨Tryd.func6, Tryd.call6⟩, trivial⟩, mixed⟩ (SpecsOK_of (E := depotlaw06_ItemsSplits.env) ⟨items_Split.contract, depotref06_Same.contract, items_Has.contract, items_Join.contract, depotlaw06_splits.contract, depotref06_Split.contract, depotref06_Has.contract, depotref06_Join.contract, trivial⟩) Tryd.call6 rfl rfl fun K x r h => by
    rw [depotlaw06_ItemsSplits.body_eq]; exact h

def depotref06_Unquote.spec : Dp.Spec := { args := (.scons .str .snil), res := (.tup (.scons .str (.scons (.int .i64) .snil))), own := false, F := fun K x => depotref06_Unquote K x.1 }
def depotref06_Unquote.hint : Dp.Hint := { n := 48, conds := [(33, [(.normal, { regs := [(0, .str), (4, .str), (5, (.int .i64))] }), (.ret, { regs := [(2, .str), (3, (.int .i64))] })])], regions := [(1, [(.normal, { regs := [(0, .str), (13, .bool)] })])], loops := [(5, { regs := [(0, .str), (4, .str), (5, (.int .i64))] }, [(.exit 0, { regs := [] }), (.ret, { regs := [(2, .str), (3, (.int .i64))] })])] }
noncomputable def depotref06_Unquote.env : Dp.Env := { ti := ti, gl := gl, fns := [(35, Tryd.f35, depotref06_Unquote.hint)], specs := [], K := 0 }
noncomputable def depotref06_Unquote.r0 (K : Nat) : Nat → (((List UInt8) × ((List UInt8) × ((Int) × (Unit)))) × (Unit)) → Option (((Unit) × (Unit)) ⊕ (((List UInt8) × ((Int) × (Unit))) × (Unit))) :=
  loopV [(.exit 0, { regs := [] }), (.ret, { regs := [(2, .str), (3, (.int .i64))] })] { regs := [(0, .str), (4, .str), (5, (.int .i64))] } (interp (depotref06_Unquote.env.at K) depotref06_Unquote.hint (callF (depotref06_Unquote.env.at K) 7) (Code.sub [1, 1, 1, 0, 1, 0, 0] (Tryd.f35.body.getD .skip)) _)
theorem depotref06_Unquote.s0 (K n : Nat) (x : (((List UInt8) × ((List UInt8) × ((Int) × (Unit)))) × (Unit))) : depotref06_Unquote.r0 K (n + 1) x = depotref06_Unquote.t0 K (depotref06_Unquote.r0 K n) x := by kernel_rfl
theorem depotref06_Unquote.e0 (K n : Nat) : depotref06_Unquote.r0 K n = depotref06_Unquote.l0 K n := by
  induction n with
  | zero => funext x; rfl
  | succ n ih => funext x; rw [depotref06_Unquote.s0, ih]; rfl
theorem depotref06_Unquote.body_eq (K : Nat) (x : depotref06_Unquote.spec.args.den) : body (depotref06_Unquote.env.at K) 8 35 depotref06_Unquote.spec x = depotref06_Unquote.tr (depotref06_Unquote.r0 K) K x.1 := by kernel_rfl
theorem depotref06_Unquote.contract : Contract Tryd.prog gl 35 depotref06_Unquote.spec :=
  contract_of (E := depotref06_Unquote.env) ⟨TIok_of tiOK, FnsOK_of ⟨⟨Tryd.func35, Tryd.call35⟩, trivial⟩, mixed⟩ (SpecsOK_of (E := depotref06_Unquote.env) trivial) Tryd.call35 rfl rfl fun K x r h => by
    rw [depotref06_Unquote.body_eq, show depotref06_Unquote.r0 K = depotref06_Unquote.l0 K from funext (depotref06_Unquote.e0 K)]; exact h

def depotref01_Cut.spec : Dp.Spec := { args := (.scons .str (.scons (.int .u8) .snil)), res := (.tup (.scons .str (.scons .str (.scons .bool .snil)))), own := false, F := fun K x => depotref01_Cut K x.1 x.2.1 }
def depotref01_Cut.hint : Dp.Hint := { n := 27, loops := [(2, { regs := [(0, .str), (1, (.int .u8)), (7, (.int .i64))] }, [(.exit 0, { regs := [(0, .str)] }), (.ret, { regs := [(4, .str), (5, .str), (6, .bool)] })])] }
noncomputable def depotref01_Cut.env : Dp.Env := { ti := ti, gl := gl, fns := [(68, Tryd.f68, depotref01_Cut.hint)], specs := [], K := 0 }
noncomputable def depotref01_Cut.r0 (K : Nat) : Nat → (((List UInt8) × ((Int) × ((Int) × (Unit)))) × (Unit)) → Option ((((List UInt8) × (Unit)) × (Unit)) ⊕ (((List UInt8) × ((List UInt8) × ((Bool) × (Unit)))) × (Unit))) :=
  loopV [(.exit 0, { regs := [(0, .str)] }), (.ret, { regs := [(4, .str), (5, .str), (6, .bool)] })] { regs := [(0, .str), (1, (.int .u8)), (7, (.int .i64))] } (interp (depotref01_Cut.env.at K) depotref01_Cut.hint (callF (depotref01_Cut.env.at K) 7) (Code.sub [1, 0, 1, 0, 0] (Tryd.f68.body.getD .skip)) _)
theorem depotref01_Cut.s0 (K n : Nat) (x : (((List UInt8) × ((Int) × ((Int) × (Unit)))) × (Unit))) : depotref01_Cut.r0 K (n + 1) x = depotref01_Cut.t0 K (depotref01_Cut.r0 K n) x := by kernel_rfl
theorem depotref01_Cut.e0 (K n : Nat) : depotref01_Cut.r0 K n = depotref01_Cut.l0 K n := by
  induction n with
  | zero => funext x; rfl
  | succ n ih => funext x; rw [depotref01_Cut.s0, ih]; rfl
theorem depotref01_Cut.body_eq (K : Nat) (x : depotref01_Cut.spec.args.den) : body (depotref01_Cut.env.at K) 8 68 depotref01_Cut.spec x = depotref01_Cut.tr (depotref01_Cut.r0 K) K x.1 x.2.1 := by kernel_rfl
theorem depotref01_Cut.contract : Contract Tryd.prog gl 68 depotref01_Cut.spec :=
  contract_of (E := depotref01_Cut.env) ⟨TIok_of tiOK, FnsOK_of ⟨⟨Tryd.func68, Tryd.call68⟩, trivial⟩, mixed⟩ (SpecsOK_of (E := depotref01_Cut.env) trivial) Tryd.call68 rfl rfl fun K x r h => by
    rw [depotref01_Cut.body_eq, show depotref01_Cut.r0 K = depotref01_Cut.l0 K from funext (depotref01_Cut.e0 K)]; exact h

def depotref01_Token.spec : Dp.Spec := { args := (.scons (.int .u8) .snil), res := .bool, own := false, F := fun K x => depotref01_Token K x.1 }
def depotref01_Token.hint : Dp.Hint := { n := 38, regions := [(1, [(.normal, { regs := [(0, (.int .u8)), (26, .bool)] })])], loops := [(5, { regs := [(0, (.int .u8)), (3, .str), (4, (.int .i64))] }, [(.exit 0, { regs := [] }), (.ret, { regs := [(2, .bool)] })])] }
noncomputable def depotref01_Token.env : Dp.Env := { ti := ti, gl := gl, fns := [(86, Tryd.f86, depotref01_Token.hint)], specs := [], K := 0 }
noncomputable def depotref01_Token.r0 (K : Nat) : Nat → (((Int) × ((List UInt8) × ((Int) × (Unit)))) × (Unit)) → Option (((Unit) × (Unit)) ⊕ (((Bool) × (Unit)) × (Unit))) :=
  loopV [(.exit 0, { regs := [] }), (.ret, { regs := [(2, .bool)] })] { regs := [(0, (.int .u8)), (3, .str), (4, (.int .i64))] } (interp (depotref01_Token.env.at K) depotref01_Token.hint (callF (depotref01_Token.env.at K) 7) (Code.sub [1, 1, 1, 0, 1, 0, 0] (Tryd.f86.body.getD .skip)) _)
theorem depotref01_Token.s0 (K n : Nat) (x : (((Int) × ((List UInt8) × ((Int) × (Unit)))) × (Unit))) : depotref01_Token.r0 K (n + 1) x = depotref01_Token.t0 K (depotref01_Token.r0 K n) x := by kernel_rfl
theorem depotref01_Token.e0 (K n : Nat) : depotref01_Token.r0 K n = depotref01_Token.l0 K n := by
  induction n with
  | zero => funext x; rfl
  | succ n ih => funext x; rw [depotref01_Token.s0, ih]; rfl
theorem depotref01_Token.body_eq (K : Nat) (x : depotref01_Token.spec.args.den) : body (depotref01_Token.env.at K) 8 86 depotref01_Token.spec x = depotref01_Token.tr (depotref01_Token.r0 K) K x.1 := by kernel_rfl
theorem depotref01_Token.contract : Contract Tryd.prog gl 86 depotref01_Token.spec :=
  contract_of (E := depotref01_Token.env) ⟨TIok_of tiOK, FnsOK_of ⟨⟨Tryd.func86, Tryd.call86⟩, trivial⟩, mixed⟩ (SpecsOK_of (E := depotref01_Token.env) trivial) Tryd.call86 rfl rfl fun K x r h => by
    rw [depotref01_Token.body_eq, show depotref01_Token.r0 K = depotref01_Token.l0 K from funext (depotref01_Token.e0 K)]; exact h

def depotref01_IsToken.spec : Dp.Spec := { args := (.scons .str .snil), res := .bool, own := false, F := fun K x => depotref01_IsToken K x.1 }
def depotref01_IsToken.hint : Dp.Hint := { n := 18, loops := [(2, { regs := [(0, .str), (3, (.int .i64))] }, [(.exit 0, { regs := [(0, .str)] }), (.ret, { regs := [(2, .bool)] })])] }
noncomputable def depotref01_IsToken.env : Dp.Env := { ti := ti, gl := gl, fns := [(69, Tryd.f69, depotref01_IsToken.hint)], specs := [(86, depotref01_Token.spec)], K := 0 }
noncomputable def depotref01_IsToken.r0 (K : Nat) : Nat → (((List UInt8) × ((Int) × (Unit))) × (Unit)) → Option ((((List UInt8) × (Unit)) × (Unit)) ⊕ (((Bool) × (Unit)) × (Unit))) :=
  loopV [(.exit 0, { regs := [(0, .str)] }), (.ret, { regs := [(2, .bool)] })] { regs := [(0, .str), (3, (.int .i64))] } (interp (depotref01_IsToken.env.at K) depotref01_IsToken.hint (callF (depotref01_IsToken.env.at K) 7) (Code.sub [1, 0, 1, 0, 0] (Tryd.f69.body.getD .skip)) _)
theorem depotref01_IsToken.s0 (K n : Nat) (x : (((List UInt8) × ((Int) × (Unit))) × (Unit))) : depotref01_IsToken.r0 K (n + 1) x = depotref01_IsToken.t0 K (depotref01_IsToken.r0 K n) x := by kernel_rfl
theorem depotref01_IsToken.e0 (K n : Nat) : depotref01_IsToken.r0 K n = depotref01_IsToken.l0 K n := by
  induction n with
  | zero => funext x; rfl
  | succ n ih => funext x; rw [depotref01_IsToken.s0, ih]; rfl
theorem depotref01_IsToken.body_eq (K : Nat) (x : depotref01_IsToken.spec.args.den) : body (depotref01_IsToken.env.at K) 8 69 depotref01_IsToken.spec x = depotref01_IsToken.tr (depotref01_IsToken.r0 K) K x.1 := by kernel_rfl
theorem depotref01_IsToken.contract : Contract Tryd.prog gl 69 depotref01_IsToken.spec :=
  contract_of (E := depotref01_IsToken.env) ⟨TIok_of tiOK, FnsOK_of ⟨⟨Tryd.func69, Tryd.call69⟩, trivial⟩, mixed⟩ (SpecsOK_of (E := depotref01_IsToken.env) ⟨depotref01_Token.contract, trivial⟩) Tryd.call69 rfl rfl fun K x r h => by
    rw [depotref01_IsToken.body_eq, show depotref01_IsToken.r0 K = depotref01_IsToken.l0 K from funext (depotref01_IsToken.e0 K)]; exact h

def depotref06_Param.spec : Dp.Spec := { args := (.scons .str .snil), res := (.tup (.scons .str (.scons .str (.scons .bool (.scons (.int .i64) .snil))))), own := false, F := fun K x => depotref06_Param K x.1 }
def depotref06_Param.hint : Dp.Hint := { n := 41, regions := [(5, [(.normal, { regs := [(6, .str), (7, .str), (8, .bool), (27, .bool)] })])] }
noncomputable def depotref06_Param.env : Dp.Env := { ti := ti, gl := gl, fns := [(37, Tryd.f37, depotref06_Param.hint)], specs := [(70, depotref01_Lower.spec), (35, depotref06_Unquote.spec), (68, depotref01_Cut.spec), (69, depotref01_IsToken.spec)], K := 0 }
theorem depotref06_Param.body_eq (K : Nat) (x : depotref06_Param.spec.args.den) : body (depotref06_Param.env.at K) 8 37 depotref06_Param.spec x = depotref06_Param K x.1 := by kernel_rfl
theorem depotref06_Param.contract : Contract Tryd.prog gl 37 depotref06_Param.spec :=
  contract_of (E := depotref06_Param.env) ⟨TIok_of tiOK, FnsOK_of ⟨⟨Tryd.func37, Tryd.call37⟩, trivial⟩, mixed⟩ (SpecsOK_of (E := depotref06_Param.env) ⟨depotref01_Lower.contract, depotref06_Unquote.contract, depotref01_Cut.contract, depotref01_IsToken.contract, trivial⟩) Tryd.call37 rfl rfl fun K x r h => by
    rw [depotref06_Param.body_eq]; exact h

def depotref06_Quote.spec : Dp.Spec := { args := (.scons .str .snil), res := .str, own := false, F := fun K x => depotref06_Quote K x.1 }
def depotref06_Quote.hint : Dp.Hint := { n := 32, conds := [(20, [(.normal, { regs := [(0, .str), (3, .str), (4, (.int .i64))] })])], regions := [(5, [(.normal, { regs := [(0, .str), (3, .str), (4, (.int .i64)), (20, .bool)] })])], loops := [(3, { regs := [(0, .str), (3, .str), (4, (.int .i64))] }, [(.exit 0, { regs := [(3, .str)] })])] }
noncomputable def depotref06_Quote.env : Dp.Env := { ti := ti, gl := gl, fns := [(39, Tryd.f39, depotref06_Quote.hint)], specs := [], K := 0 }
noncomputable def depotref06_Quote.r0 (K : Nat) : Nat → (((List UInt8) × ((List UInt8) × ((Int) × (Unit)))) × (Unit)) → Option ((((List UInt8) × (Unit)) × (Unit))) :=
  loopV [(.exit 0, { regs := [(3, .str)] })] { regs := [(0, .str), (3, .str), (4, (.int .i64))] } (interp (depotref06_Quote.env.at K) depotref06_Quote.hint (callF (depotref06_Quote.env.at K) 7) (Code.sub [1, 1, 0, 1, 0, 0] (Tryd.f39.body.getD .skip)) _)
theorem depotref06_Quote.s0 (K n : Nat) (x : (((List UInt8) × ((List UInt8) × ((Int) × (Unit)))) × (Unit))) : depotref06_Quote.r0 K (n + 1) x = depotref06_Quote.t0 K (depotref06_Quote.r0 K n) x := by kernel_rfl
theorem depotref06_Quote.e0 (K n : Nat) : depotref06_Quote.r0 K n = depotref06_Quote.l0 K n := by
  induction n with
  | zero => funext x; rfl
  | succ n ih => funext x; rw [depotref06_Quote.s0, ih]; rfl
theorem depotref06_Quote.body_eq (K : Nat) (x : depotref06_Quote.spec.args.den) : body (depotref06_Quote.env.at K) 8 39 depotref06_Quote.spec x = depotref06_Quote.tr (depotref06_Quote.r0 K) K x.1 := by kernel_rfl
theorem depotref06_Quote.contract : Contract Tryd.prog gl 39 depotref06_Quote.spec :=
  contract_of (E := depotref06_Quote.env) ⟨TIok_of tiOK, FnsOK_of ⟨⟨Tryd.func39, Tryd.call39⟩, trivial⟩, mixed⟩ (SpecsOK_of (E := depotref06_Quote.env) trivial) Tryd.call39 rfl rfl fun K x r h => by
    rw [depotref06_Quote.body_eq, show depotref06_Quote.r0 K = depotref06_Quote.l0 K from funext (depotref06_Quote.e0 K)]; exact h

def depotlaw06_ItemsQuotes.spec : Dp.Spec := { args := (.scons .str .snil), res := .bool, own := false, F := fun K x => depotlaw06_ItemsQuotes K x.1 }
def depotlaw06_ItemsQuotes.hint : Dp.Hint := { n := 81 }
noncomputable def depotlaw06_ItemsQuotes.env : Dp.Env := { ti := ti, gl := gl, fns := [(7, Tryd.f7, depotlaw06_ItemsQuotes.hint)], specs := [(36, items_Param.spec), (27, depotlaw06_splits.spec), (35, depotref06_Unquote.spec), (37, depotref06_Param.spec), (39, depotref06_Quote.spec), (34, items_Unquote.spec), (38, items_Quote.spec)], K := 0 }
theorem depotlaw06_ItemsQuotes.body_eq (K : Nat) (x : depotlaw06_ItemsQuotes.spec.args.den) : body (depotlaw06_ItemsQuotes.env.at K) 8 7 depotlaw06_ItemsQuotes.spec x = depotlaw06_ItemsQuotes K x.1 := by kernel_rfl
theorem depotlaw06_ItemsQuotes.contract : Contract Tryd.prog gl 7 depotlaw06_ItemsQuotes.spec :=
  contract_of (E := depotlaw06_ItemsQuotes.env) ⟨TIok_of tiOK, FnsOK_of ⟨⟨Tryd.func7, Tryd.call7⟩, trivial⟩, mixed⟩ (SpecsOK_of (E := depotlaw06_ItemsQuotes.env) ⟨items_Param.contract, depotlaw06_splits.contract, depotref06_Unquote.contract, depotref06_Param.contract, depotref06_Quote.contract, items_Unquote.contract, items_Quote.contract, trivial⟩) Tryd.call7 rfl rfl fun K x r h => by
    rw [depotlaw06_ItemsQuotes.body_eq]; exact h

def depotlaw06_ItemsBack.spec : Dp.Spec := { args := (.scons .str (.scons .str .snil)), res := .bool, own := false, F := fun K x => depotlaw06_ItemsBack K x.1 x.2.1 }
def depotlaw06_ItemsBack.hint : Dp.Hint := { n := 99, regions := [(1, [(.normal, { regs := [(0, .str), (1, .str), (21, .bool)] })]), (6, [(.normal, { regs := [(0, .str), (1, .str), (5, .str), (57, .bool)] })]), (10, [(.normal, { regs := [(4, .bool)] })])] }
noncomputable def depotlaw06_ItemsBack.env : Dp.Env := { ti := ti, gl := gl, fns := [(8, Tryd.f8, depotlaw06_ItemsBack.hint)], specs := [(28, items_Split.spec), (40, octet_IsToken.spec), (41, octet_Lower.spec), (36, items_Param.spec), (27, depotlaw06_splits.spec), (34, items_Unquote.spec), (38, items_Quote.spec)], K := 0 }
theorem depotlaw06_ItemsBack.body_eq (K : Nat) (x : depotlaw06_ItemsBack.spec.args.den) : body (depotlaw06_ItemsBack.env.at K) 8 8 depotlaw06_ItemsBack.spec x = depotlaw06_ItemsBack K x.1 x.2.1 := by kernel_rfl
theorem depotlaw06_ItemsBack.contract : Contract Tryd.prog gl 8 depotlaw06_ItemsBack.spec :=
  contract_of (E := depotlaw06_ItemsBack.env) ⟨TIok_of tiOK, FnsOK_of ⟨⟨Tryd.func8, Tryd.call8⟩, trivial⟩, mixed⟩ (SpecsOK_of (E := depotlaw06_ItemsBack.env) ⟨items_Split.contract, octet_IsToken.contract, octet_Lower.contract, items_Param.contract, depotlaw06_splits.contract, items_Unquote.contract, items_Quote.contract, trivial⟩) Tryd.call8 rfl rfl fun K x r h => by
    rw [depotlaw06_ItemsBack.body_eq]; exact h

def depotlaw06_ItemsJoined.spec : Dp.Spec := { args := (.scons (.list .str) (.scons .str .snil)), res := .bool, own := false, F := fun K x => depotlaw06_ItemsJoined K x.1 x.2.1 }
def depotlaw06_ItemsJoined.hint : Dp.Hint := { n := 119, conds := [(72, [(.normal, { regs := [(0, (.list .str)), (5, (.list .str)), (8, (.slw 0)), (9, (.int .i64))], heap := [(.row .str)], app := [0] })])], regions := [(1, [(.normal, { regs := [(0, (.list .str)), (1, .str), (21, .bool)] })]), (7, [(.normal, { regs := [(0, (.list .str)), (5, (.list .str)), (6, (.int .i64)), (7, (.int .i64)), (54, .bool)] })])], loops := [(5, { regs := [(0, (.list .str)), (5, (.list .str)), (6, (.int .i64)), (7, (.int .i64))] }, [(.exit 0, { regs := [(0, (.list .str)), (5, (.list .str))] }), (.ret, { regs := [(4, .bool)] })]), (11, { regs := [(0, (.list .str)), (5, (.list .str)), (8, (.slw 0)), (9, (.int .i64))], heap := [(.row .str)], app := [0] }, [(.exit 2, { regs := [(5, (.list .str)), (8, (.slw 0))], heap := [(.row .str)], app := [0] }), (.ret, { regs := [(4, .bool)], heap := [(.row .str)], app := [0] })])], own := [8] }
noncomputable def depotlaw06_ItemsJoined.env : Dp.Env := { ti := ti, gl := gl, fns := [(9, Tryd.f9, depotlaw06_ItemsJoined.hint)], specs := [(42, octet_Trim.spec), (28, items_Split.spec), (40, octet_IsToken.spec), (20, depotref06_Same.spec), (32, items_Join.spec), (27, depotlaw06_splits.spec), (38, items_Quote.spec)], K := 0 }
noncomputable def depotlaw06_ItemsJoined.r1 (K : Nat) : Nat → (((List (List UInt8)) × ((List (List UInt8)) × ((Unit) × ((Int) × (Unit))))) × ((List (List UInt8)) × (Unit))) → Option ((((List (List UInt8)) × ((Unit) × (Unit))) × ((List (List UInt8)) × (Unit))) ⊕ (((Bool) × (Unit)) × ((List (List UInt8)) × (Unit)))) :=
  loopV [(.exit 2, { regs := [(5, (.list .str)), (8, (.slw 0))], heap := [(.row .str)], app := [0] }), (.ret, { regs := [(4, .bool)], heap := [(.row .str)], app := [0] })] { regs := [(0, (.list .str)), (5, (.list .str)), (8, (.slw 0)), (9, (.int .i64))], heap := [(.row .str)], app := [0] } (interp (depotlaw06_ItemsJoined.env.at K) depotlaw06_ItemsJoined.hint (callF (depotlaw06_ItemsJoined.env.at K) 7) (Code.sub [1, 1, 1, 1, 1, 0, 1, 0, 0] (Tryd.f9.body.getD .skip)) _)
theorem depotlaw06_ItemsJoined.s1 (K n : Nat) (x : (((List (List UInt8)) × ((List (List UInt8)) × ((Unit) × ((Int) × (Unit))))) × ((List (List UInt8)) × (Unit)))) : depotlaw06_ItemsJoined.r1 K (n + 1) x = depotlaw06_ItemsJoined.t1 K (depotlaw06_ItemsJoined.r1 K n) x := by kernel_rfl
theorem depotlaw06_ItemsJoined.e1 (K n : Nat) : depotlaw06_ItemsJoined.r1 K n = depotlaw06_ItemsJoined.l1 K n := by
  induction n with
  | zero => funext x; rfl
  | succ n ih => funext x; rw [depotlaw06_ItemsJoined.s1, ih]; rfl
noncomputable def depotlaw06_ItemsJoined.r0 (K : Nat) : Nat → (((List (List UInt8)) × ((List (List UInt8)) × ((Int) × ((Int) × (Unit))))) × (Unit)) → Option ((((List (List UInt8)) × ((List (List UInt8)) × (Unit))) × (Unit)) ⊕ (((Bool) × (Unit)) × (Unit))) :=
  loopV [(.exit 0, { regs := [(0, (.list .str)), (5, (.list .str))] }), (.ret, { regs := [(4, .bool)] })] { regs := [(0, (.list .str)), (5, (.list .str)), (6, (.int .i64)), (7, (.int .i64))] } (interp (depotlaw06_ItemsJoined.env.at K) depotlaw06_ItemsJoined.hint (callF (depotlaw06_ItemsJoined.env.at K) 7) (Code.sub [1, 1, 1, 0, 1, 0, 0] (Tryd.f9.body.getD .skip)) _)
theorem depotlaw06_ItemsJoined.s0 (K n : Nat) (x : (((List (List UInt8)) × ((List (List UInt8)) × ((Int) × ((Int) × (Unit))))) × (Unit))) : depotlaw06_ItemsJoined.r0 K (n + 1) x = depotlaw06_ItemsJoined.t0 K (depotlaw06_ItemsJoined.r0 K n) x := by kernel_rfl
theorem depotlaw06_ItemsJoined.e0 (K n : Nat) : depotlaw06_ItemsJoined.r0 K n = depotlaw06_ItemsJoined.l0 K n := by
  induction n with
  | zero => funext x; rfl
  | succ n ih => funext x; rw [depotlaw06_ItemsJoined.s0, ih]; rfl
theorem depotlaw06_ItemsJoined.body_eq (K : Nat) (x : depotlaw06_ItemsJoined.spec.args.den) : body (depotlaw06_ItemsJoined.env.at K) 8 9 depotlaw06_ItemsJoined.spec x = depotlaw06_ItemsJoined.tr (depotlaw06_ItemsJoined.r0 K) (depotlaw06_ItemsJoined.r1 K) K x.1 x.2.1 := by kernel_rfl
theorem depotlaw06_ItemsJoined.contract : Contract Tryd.prog gl 9 depotlaw06_ItemsJoined.spec :=
  contract_of (E := depotlaw06_ItemsJoined.env) ⟨TIok_of tiOK, FnsOK_of ⟨⟨Tryd.func9, Tryd.call9⟩, trivial⟩, mixed⟩ (SpecsOK_of (E := depotlaw06_ItemsJoined.env) ⟨octet_Trim.contract, items_Split.contract, octet_IsToken.contract, depotref06_Same.contract, items_Join.contract, depotlaw06_splits.contract, items_Quote.contract, trivial⟩) Tryd.call9 rfl rfl fun K x r h => by
    rw [depotlaw06_ItemsJoined.body_eq, show depotlaw06_ItemsJoined.r0 K = depotlaw06_ItemsJoined.l0 K from funext (depotlaw06_ItemsJoined.e0 K), show depotlaw06_ItemsJoined.r1 K = depotlaw06_ItemsJoined.l1 K from funext (depotlaw06_ItemsJoined.e1 K)]; exact h

def depotref09_Few.spec : Dp.Spec := { args := (.scons (.list (.scons .str (.scons .str .snil))) (.scons (.int .i64) (.scons (.int .i64) .snil))), res := .bool, own := false, F := fun K x => depotref09_Few K x.1 x.2.1 x.2.2.1 }
def depotref09_Few.hint : Dp.Hint := { n := 41, regions := [(2, [(.normal, { regs := [(0, (.list (.scons .str (.scons .str .snil)))), (1, (.int .i64)), (2, (.int .i64)), (7, (.int .i64)), (16, .bool)] })]), (4, [(.normal, { regs := [(0, (.list (.scons .str (.scons .str .snil)))), (1, (.int .i64)), (2, (.int .i64)), (7, (.int .i64)), (36, .bool)] })])], loops := [(2, { regs := [(0, (.list (.scons .str (.scons .str .snil)))), (1, (.int .i64)), (2, (.int .i64)), (7, (.int .i64))] }, [(.exit 0, { regs := [(0, (.list (.scons .str (.scons .str .snil)))), (1, (.int .i64))] }), (.ret, { regs := [(6, .bool)] })])] }
noncomputable def depotref09_Few.env : Dp.Env := { ti := ti, gl := gl, fns := [(15, Tryd.f15, depotref09_Few.hint)], specs := [], K := 0 }
noncomputable def depotref09_Few.r0 (K : Nat) : Nat → (((List ((List UInt8) × ((List UInt8) × (Unit)))) × ((Int) × ((Int) × ((Int) × (Unit))))) × (Unit)) → Option ((((List ((List UInt8) × ((List UInt8) × (Unit)))) × ((Int) × (Unit))) × (Unit)) ⊕ (((Bool) × (Unit)) × (Unit))) :=
  loopV [(.exit 0, { regs := [(0, (.list (.scons .str (.scons .str .snil)))), (1, (.int .i64))] }), (.ret, { regs := [(6, .bool)] })] { regs := [(0, (.list (.scons .str (.scons .str .snil)))), (1, (.int .i64)), (2, (.int .i64)), (7, (.int .i64))] } (interp (depotref09_Few.env.at K) depotref09_Few.hint (callF (depotref09_Few.env.at K) 7) (Code.sub [1, 0, 1, 0, 0] (Tryd.f15.body.getD .skip)) _)
theorem depotref09_Few.s0 (K n : Nat) (x : (((List ((List UInt8) × ((List UInt8) × (Unit)))) × ((Int) × ((Int) × ((Int) × (Unit))))) × (Unit))) : depotref09_Few.r0 K (n + 1) x = depotref09_Few.t0 K (depotref09_Few.r0 K n) x := by kernel_rfl
theorem depotref09_Few.e0 (K n : Nat) : depotref09_Few.r0 K n = depotref09_Few.l0 K n := by
  induction n with
  | zero => funext x; rfl
  | succ n ih => funext x; rw [depotref09_Few.s0, ih]; rfl
theorem depotref09_Few.body_eq (K : Nat) (x : depotref09_Few.spec.args.den) : body (depotref09_Few.env.at K) 8 15 depotref09_Few.spec x = depotref09_Few.tr (depotref09_Few.r0 K) K x.1 x.2.1 x.2.2.1 := by kernel_rfl
theorem depotref09_Few.contract : Contract Tryd.prog gl 15 depotref09_Few.spec :=
  contract_of (E := depotref09_Few.env) ⟨TIok_of tiOK, FnsOK_of ⟨⟨Tryd.func15, Tryd.call15⟩, trivial⟩, mixed⟩ (SpecsOK_of (E := depotref09_Few.env) trivial) Tryd.call15 rfl rfl fun K x r h => by
    rw [depotref09_Few.body_eq, show depotref09_Few.r0 K = depotref09_Few.l0 K from funext (depotref09_Few.e0 K)]; exact h

def octet_is__from_c1_oneOf_c1_from_c1.spec : Dp.Spec := { args := (.scons (.int .u8) (.scons (.hl (.scons (.fn 90 (.scons (.ref (.int .u8)) (.scons (.ref (.int .u8)) .snil))) (.scons (.fn 104 (.scons (.ref .str) .snil)) (.scons (.fn 90 (.scons (.ref (.int .u8)) (.scons (.ref (.int .u8)) .snil))) .snil)))) .snil)), res := .bool, own := false, F := fun K x => octet_is__from_c1_oneOf_c1_from_c1 K x.1 x.2.1 }
def octet_is__from_c1_oneOf_c1_from_c1.hint : Dp.Hint := { n := 17 }
noncomputable def octet_is__from_c1_oneOf_c1_from_c1.env : Dp.Env := { ti := ti, gl := gl, fns := [(87, Tryd.f87, octet_is__from_c1_oneOf_c1_from_c1.hint)], specs := [(90, octet_from_c1.spec), (104, octet_oneOf_c1.spec)], K := 0 }
theorem octet_is__from_c1_oneOf_c1_from_c1.body_eq (K : Nat) (x : octet_is__from_c1_oneOf_c1_from_c1.spec.args.den) : body (octet_is__from_c1_oneOf_c1_from_c1.env.at K) 8 87 octet_is__from_c1_oneOf_c1_from_c1.spec x = octet_is__from_c1_oneOf_c1_from_c1 K x.1 x.2.1 := by kernel_rfl
theorem octet_is__from_c1_oneOf_c1_from_c1.contract : Contract Tryd.prog gl 87 octet_is__from_c1_oneOf_c1_from_c1.spec :=
  contract_of (E := octet_is__from_c1_oneOf_c1_from_c1.env) ⟨TIok_of tiOK, FnsOK_of ⟨⟨Tryd.func87, Tryd.call87⟩, trivial⟩, mixed⟩ (SpecsOK_of (E := octet_is__from_c1_oneOf_c1_from_c1.env) ⟨octet_from_c1.contract, octet_oneOf_c1.contract, trivial⟩) Tryd.call87 rfl rfl fun K x r h => by
    rw [octet_is__from_c1_oneOf_c1_from_c1.body_eq]; exact h

def octet_Text.spec : Dp.Spec := { args := (.scons (.int .u8) .snil), res := .bool, own := false, F := fun K x => octet_Text K x.1 }
def octet_Text.hint : Dp.Hint := { n := 9 }
noncomputable def octet_Text.env : Dp.Env := { ti := ti, gl := gl, fns := [(98, Tryd.f98, octet_Text.hint)], specs := [(73, octet_from.spec), (89, octet_oneOf.spec), (87, octet_is__from_c1_oneOf_c1_from_c1.spec)], K := 0 }
theorem octet_Text.body_eq (K : Nat) (x : octet_Text.spec.args.den) : body (octet_Text.env.at K) 8 98 octet_Text.spec x = octet_Text K x.1 := by kernel_rfl
theorem octet_Text.contract : Contract Tryd.prog gl 98 octet_Text.spec :=
  contract_of (E := octet_Text.env) ⟨TIok_of tiOK, FnsOK_of ⟨⟨Tryd.func98, Tryd.call98⟩, trivial⟩, mixed⟩ (SpecsOK_of (E := octet_Text.env) ⟨octet_from.contract, octet_oneOf.contract, octet_is__from_c1_oneOf_c1_from_c1.contract, trivial⟩) Tryd.call98 rfl rfl fun K x r h => by
    rw [octet_Text.body_eq]; exact h

def octet_all__Text.spec : Dp.Spec := { args := (.scons .str (.scons (.fn 98 .snil) .snil)), res := .bool, own := false, F := fun K x => octet_all__Text K x.1 }
def octet_all__Text.hint : Dp.Hint := { n := 19, loops := [(2, { regs := [(1, (.fn 98 .snil)), (8, (.list (.int .u8))), (9, (.int .i64)), (10, (.int .i64))] }, [(.exit 0, { regs := [] }), (.ret, { regs := [(4, .bool)] })])] }
noncomputable def octet_all__Text.env : Dp.Env := { ti := ti, gl := gl, fns := [(71, Tryd.f71, octet_all__Text.hint)], specs := [(98, octet_Text.spec)], K := 0 }
noncomputable def octet_all__Text.r0 (K : Nat) : Nat → (((Unit) × ((List (Int)) × ((Int) × ((Int) × (Unit))))) × (Unit)) → Option (((Unit) × (Unit)) ⊕ (((Bool) × (Unit)) × (Unit))) :=
  loopV [(.exit 0, { regs := [] }), (.ret, { regs := [(4, .bool)] })] { regs := [(1, (.fn 98 .snil)), (8, (.list (.int .u8))), (9, (.int .i64)), (10, (.int .i64))] } (interp (octet_all__Text.env.at K) octet_all__Text.hint (callF (octet_all__Text.env.at K) 7) (Code.sub [1, 0, 1, 0, 0] (Tryd.f71.body.getD .skip)) _)
theorem octet_all__Text.s0 (K n : Nat) (x : (((Unit) × ((List (Int)) × ((Int) × ((Int) × (Unit))))) × (Unit))) : octet_all__Text.r0 K (n + 1) x = octet_all__Text.t0 K (octet_all__Text.r0 K n) x := by kernel_rfl
theorem octet_all__Text.e0 (K n : Nat) : octet_all__Text.r0 K n = octet_all__Text.l0 K n := by
  induction n with
  | zero => funext x; rfl
  | succ n ih => funext x; rw [octet_all__Text.s0, ih]; rfl
theorem octet_all__Text.body_eq (K : Nat) (x : octet_all__Text.spec.args.den) : body (octet_all__Text.env.at K) 8 71 octet_all__Text.spec x = octet_all__Text.tr (octet_all__Text.r0 K) K x.1 := by kernel_rfl
theorem octet_all__Text.contract : Contract Tryd.prog gl 71 octet_all__Text.spec :=
  contract_of (E := octet_all__Text.env) ⟨TIok_of tiOK, FnsOK_of ⟨⟨Tryd.func71, Tryd.call71⟩, trivial⟩, mixed⟩ (SpecsOK_of (E := octet_all__Text.env) ⟨octet_Text.contract, trivial⟩) Tryd.call71 rfl rfl fun K x r h => by
    rw [octet_all__Text.body_eq, show octet_all__Text.r0 K = octet_all__Text.l0 K from funext (octet_all__Text.e0 K)]; exact h

def octet_IsText.spec : Dp.Spec := { args := (.scons .str .snil), res := .bool, own := false, F := fun K x => octet_IsText K x.1 }
def octet_IsText.hint : Dp.Hint := { n := 5 }
noncomputable def octet_IsText.env : Dp.Env := { ti := ti, gl := gl, fns := [(75, Tryd.f75, octet_IsText.hint)], specs := [(71, octet_all__Text.spec)], K := 0 }
theorem octet_IsText.body_eq (K : Nat) (x : octet_IsText.spec.args.den) : body (octet_IsText.env.at K) 8 75 octet_IsText.spec x = octet_IsText K x.1 := by kernel_rfl
theorem octet_IsText.contract : Contract Tryd.prog gl 75 octet_IsText.spec :=
  contract_of (E := octet_IsText.env) ⟨TIok_of tiOK, FnsOK_of ⟨⟨Tryd.func75, Tryd.call75⟩, trivial⟩, mixed⟩ (SpecsOK_of (E := octet_IsText.env) ⟨octet_all__Text.contract, trivial⟩) Tryd.call75 rfl rfl fun K x r h => by
    rw [octet_IsText.body_eq]; exact h

def fields_Parse.spec : Dp.Spec := { args := (.scons .str .snil), res := (.tup (.scons (.scons .str (.scons .str .snil)) (.scons (.int .i64) .snil))), own := false, F := fun K x => fields_Parse K x.1 }
def fields_Parse.hint : Dp.Hint := { n := 35, regions := [(5, [(.normal, { regs := [(2, (.loc 0 false [])), (4, .str), (5, .str), (30, .bool)], heap := [(.scons .str (.scons .str .snil))] })])] }
noncomputable def fields_Parse.env : Dp.Env := { ti := ti, gl := gl, fns := [(44, Tryd.f44, fields_Parse.hint)], specs := [(42, octet_Trim.spec), (67, octet_Cut.spec), (40, octet_IsToken.spec), (75, octet_IsText.spec)], K := 0 }
theorem fields_Parse.body_eq (K : Nat) (x : fields_Parse.spec.args.den) : body (fields_Parse.env.at K) 8 44 fields_Parse.spec x = fields_Parse K x.1 := by kernel_rfl
theorem fields_Parse.contract : Contract Tryd.prog gl 44 fields_Parse.spec :=
  contract_of (E := fields_Parse.env) ⟨TIok_of tiOK, FnsOK_of ⟨⟨Tryd.func44, Tryd.call44⟩, trivial⟩, mixed⟩ (SpecsOK_of (E := fields_Parse.env) ⟨octet_Trim.contract, octet_Cut.contract, octet_IsToken.contract, octet_IsText.contract, trivial⟩) Tryd.call44 rfl rfl fun K x r h => by
    rw [fields_Parse.body_eq]; exact h

def fields_named.spec : Dp.Spec := { args := (.scons .str .snil), res := (.fn 100 (.scons (.ref .str) .snil)), own := false, F := fun K x => fields_named K x.1 }
def fields_named.hint : Dp.Hint := { n := 4, imm := [1] }
noncomputable def fields_named.env : Dp.Env := { ti := ti, gl := gl, fns := [(78, Tryd.f78, fields_named.hint)], specs := [], K := 0 }
theorem fields_named.body_eq (K : Nat) (x : fields_named.spec.args.den) : body (fields_named.env.at K) 8 78 fields_named.spec x = fields_named K x.1 := by kernel_rfl
theorem fields_named.contract : Contract Tryd.prog gl 78 fields_named.spec :=
  contract_of (E := fields_named.env) ⟨TIok_of tiOK, FnsOK_of ⟨⟨Tryd.func78, Tryd.call78⟩, trivial⟩, mixed⟩ (SpecsOK_of (E := fields_named.env) trivial) Tryd.call78 rfl rfl fun K x r h => by
    rw [fields_named.body_eq]; exact h

def fields_named_c1.spec : Dp.Spec := { args := (.scons (.scons .str (.scons .str .snil)) (.scons (.ref .str) .snil)), res := .bool, own := false, F := fun K x => fields_named_c1 K x.1 x.2.1 }
def fields_named_c1.hint : Dp.Hint := { n := 8, imm := [2] }
noncomputable def fields_named_c1.env : Dp.Env := { ti := ti, gl := gl, fns := [(100, Tryd.f100, fields_named_c1.hint)], specs := [(25, octet_Same.spec)], K := 0 }
theorem fields_named_c1.body_eq (K : Nat) (x : fields_named_c1.spec.args.den) : body (fields_named_c1.env.at K) 8 100 fields_named_c1.spec x = fields_named_c1 K x.1 x.2.1 := by kernel_rfl
theorem fields_named_c1.contract : Contract Tryd.prog gl 100 fields_named_c1.spec :=
  contract_of (E := fields_named_c1.env) ⟨TIok_of tiOK, FnsOK_of ⟨⟨Tryd.func100, Tryd.call100⟩, trivial⟩, mixed⟩ (SpecsOK_of (E := fields_named_c1.env) ⟨octet_Same.contract, trivial⟩) Tryd.call100 rfl rfl fun K x r h => by
    rw [fields_named_c1.body_eq]; exact h

def fields_chosen__named_c1.spec : Dp.Spec := { args := (.scons (.list (.scons .str (.scons .str .snil))) (.scons (.fn 100 (.scons (.ref .str) .snil)) .snil)), res := (.list (.scons .str (.scons .str .snil))), own := false, F := fun K x => fields_chosen__named_c1 K x.1 x.2.1 }
def fields_chosen__named_c1.hint : Dp.Hint := { n := 23, conds := [(16, [(.normal, { regs := [(1, (.fn 100 (.scons (.ref .str) .snil))), (5, (.slw 1)), (8, (.list (.scons .str (.scons .str .snil)))), (9, (.int .i64)), (10, (.int .i64))], heap := [(.row (.scons .str (.scons .str .snil))), (.row (.scons .str (.scons .str .snil))), (.scons .str (.scons .str .snil))], app := [1] })])], loops := [(3, { regs := [(1, (.fn 100 (.scons (.ref .str) .snil))), (5, (.slw 1)), (8, (.list (.scons .str (.scons .str .snil)))), (9, (.int .i64)), (10, (.int .i64))], heap := [(.row (.scons .str (.scons .str .snil))), (.row (.scons .str (.scons .str .snil)))], app := [1] }, [(.exit 0, { regs := [(5, (.slw 1))], heap := [(.row (.scons .str (.scons .str .snil))), (.row (.scons .str (.scons .str .snil)))], app := [1] })])], own := [4, 5] }
noncomputable def fields_chosen__named_c1.env : Dp.Env := { ti := ti, gl := gl, fns := [(77, Tryd.f77, fields_chosen__named_c1.hint)], specs := [(100, fields_named_c1.spec)], K := 0 }
noncomputable def fields_chosen__named_c1.r0 (K : Nat) : Nat → ((((List UInt8) × (Unit)) × ((Unit) × ((List ((List UInt8) × ((List UInt8) × (Unit)))) × ((Int) × ((Int) × (Unit)))))) × ((List ((List UInt8) × ((List UInt8) × (Unit)))) × ((List ((List UInt8) × ((List UInt8) × (Unit)))) × (Unit)))) → Option ((((Unit) × (Unit)) × ((List ((List UInt8) × ((List UInt8) × (Unit)))) × ((List ((List UInt8) × ((List UInt8) × (Unit)))) × (Unit))))) :=
  loopV [(.exit 0, { regs := [(5, (.slw 1))], heap := [(.row (.scons .str (.scons .str .snil))), (.row (.scons .str (.scons .str .snil)))], app := [1] })] { regs := [(1, (.fn 100 (.scons (.ref .str) .snil))), (5, (.slw 1)), (8, (.list (.scons .str (.scons .str .snil)))), (9, (.int .i64)), (10, (.int .i64))], heap := [(.row (.scons .str (.scons .str .snil))), (.row (.scons .str (.scons .str .snil)))], app := [1] } (interp (fields_chosen__named_c1.env.at K) fields_chosen__named_c1.hint (callF (fields_chosen__named_c1.env.at K) 7) (Code.sub [1, 1, 0, 1, 0, 0] (Tryd.f77.body.getD .skip)) _)
theorem fields_chosen__named_c1.s0 (K n : Nat) (x : ((((List UInt8) × (Unit)) × ((Unit) × ((List ((List UInt8) × ((List UInt8) × (Unit)))) × ((Int) × ((Int) × (Unit)))))) × ((List ((List UInt8) × ((List UInt8) × (Unit)))) × ((List ((List UInt8) × ((List UInt8) × (Unit)))) × (Unit))))) : fields_chosen__named_c1.r0 K (n + 1) x = fields_chosen__named_c1.t0 K (fields_chosen__named_c1.r0 K n) x := by kernel_rfl
theorem fields_chosen__named_c1.e0 (K n : Nat) : fields_chosen__named_c1.r0 K n = fields_chosen__named_c1.l0 K n := by
  induction n with
  | zero => funext x; rfl
  | succ n ih => funext x; rw [fields_chosen__named_c1.s0, ih]; rfl
theorem fields_chosen__named_c1.body_eq (K : Nat) (x : fields_chosen__named_c1.spec.args.den) : body (fields_chosen__named_c1.env.at K) 8 77 fields_chosen__named_c1.spec x = fields_chosen__named_c1.tr (fields_chosen__named_c1.r0 K) K x.1 x.2.1 := by kernel_rfl
theorem fields_chosen__named_c1.contract : Contract Tryd.prog gl 77 fields_chosen__named_c1.spec :=
  contract_of (E := fields_chosen__named_c1.env) ⟨TIok_of tiOK, FnsOK_of ⟨⟨Tryd.func77, Tryd.call77⟩, trivial⟩, mixed⟩ (SpecsOK_of (E := fields_chosen__named_c1.env) ⟨fields_named_c1.contract, trivial⟩) Tryd.call77 rfl rfl fun K x r h => by
    rw [fields_chosen__named_c1.body_eq, show fields_chosen__named_c1.r0 K = fields_chosen__named_c1.l0 K from funext (fields_chosen__named_c1.e0 K)]; exact h

def fields_All.spec : Dp.Spec := { args := (.scons (.list (.scons .str (.scons .str .snil))) (.scons .str .snil)), res := (.list .str), own := false, F := fun K x => fields_All K x.1 x.2.1 }
def fields_All.hint : Dp.Hint := { n := 24, loops := [(3, { regs := [(5, (.slw 1)), (11, (.list (.scons .str (.scons .str .snil)))), (12, (.int .i64)), (13, (.int .i64))], heap := [(.row .str), (.row .str)], app := [1] }, [(.exit 0, { regs := [(5, (.slw 1))], heap := [(.row .str), (.row .str)], app := [1] })])], own := [4, 5] }
noncomputable def fields_All.env : Dp.Env := { ti := ti, gl := gl, fns := [(52, Tryd.f52, fields_All.hint)], specs := [(78, fields_named.spec), (77, fields_chosen__named_c1.spec)], K := 0 }
noncomputable def fields_All.r0 (K : Nat) : Nat → (((Unit) × ((List ((List UInt8) × ((List UInt8) × (Unit)))) × ((Int) × ((Int) × (Unit))))) × ((List (List UInt8)) × ((List (List UInt8)) × (Unit)))) → Option ((((Unit) × (Unit)) × ((List (List UInt8)) × ((List (List UInt8)) × (Unit))))) :=
  loopV [(.exit 0, { regs := [(5, (.slw 1))], heap := [(.row .str), (.row .str)], app := [1] })] { regs := [(5, (.slw 1)), (11, (.list (.scons .str (.scons .str .snil)))), (12, (.int .i64)), (13, (.int .i64))], heap := [(.row .str), (.row .str)], app := [1] } (interp (fields_All.env.at K) fields_All.hint (callF (fields_All.env.at K) 7) (Code.sub [1, 1, 0, 1, 0, 0] (Tryd.f52.body.getD .skip)) _)
theorem fields_All.s0 (K n : Nat) (x : (((Unit) × ((List ((List UInt8) × ((List UInt8) × (Unit)))) × ((Int) × ((Int) × (Unit))))) × ((List (List UInt8)) × ((List (List UInt8)) × (Unit))))) : fields_All.r0 K (n + 1) x = fields_All.t0 K (fields_All.r0 K n) x := by kernel_rfl
theorem fields_All.e0 (K n : Nat) : fields_All.r0 K n = fields_All.l0 K n := by
  induction n with
  | zero => funext x; rfl
  | succ n ih => funext x; rw [fields_All.s0, ih]; rfl
theorem fields_All.body_eq (K : Nat) (x : fields_All.spec.args.den) : body (fields_All.env.at K) 8 52 fields_All.spec x = fields_All.tr (fields_All.r0 K) K x.1 x.2.1 := by kernel_rfl
theorem fields_All.contract : Contract Tryd.prog gl 52 fields_All.spec :=
  contract_of (E := fields_All.env) ⟨TIok_of tiOK, FnsOK_of ⟨⟨Tryd.func52, Tryd.call52⟩, trivial⟩, mixed⟩ (SpecsOK_of (E := fields_All.env) ⟨fields_named.contract, fields_chosen__named_c1.contract, trivial⟩) Tryd.call52 rfl rfl fun K x r h => by
    rw [fields_All.body_eq, show fields_All.r0 K = fields_All.l0 K from funext (fields_All.e0 K)]; exact h

def fields_Get.spec : Dp.Spec := { args := (.scons (.list (.scons .str (.scons .str .snil))) (.scons .str .snil)), res := (.tup (.scons .str (.scons .bool .snil))), own := false, F := fun K x => fields_Get K x.1 x.2.1 }
def fields_Get.hint : Dp.Hint := { n := 15 }
noncomputable def fields_Get.env : Dp.Env := { ti := ti, gl := gl, fns := [(50, Tryd.f50, fields_Get.hint)], specs := [(52, fields_All.spec), (64, joinS.spec)], K := 0 }
theorem fields_Get.body_eq (K : Nat) (x : fields_Get.spec.args.den) : body (fields_Get.env.at K) 8 50 fields_Get.spec x = fields_Get K x.1 x.2.1 := by kernel_rfl
theorem fields_Get.contract : Contract Tryd.prog gl 50 fields_Get.spec :=
  contract_of (E := fields_Get.env) ⟨TIok_of tiOK, FnsOK_of ⟨⟨Tryd.func50, Tryd.call50⟩, trivial⟩, mixed⟩ (SpecsOK_of (E := fields_Get.env) ⟨fields_All.contract, joinS.contract, trivial⟩) Tryd.call50 rfl rfl fun K x r h => by
    rw [fields_Get.body_eq]; exact h

def fields_Drop_c1.spec : Dp.Spec := { args := (.scons (.scons .str (.scons .str .snil)) (.scons (.ref (.list .str)) .snil)), res := .bool, own := false, F := fun K x => fields_Drop_c1 K x.1 x.2.1 }
def fields_Drop_c1.hint : Dp.Hint := { n := 17, loops := [(2, { regs := [(2, (.ref (.scons .str (.scons .str .snil)))), (6, (.list .str)), (7, (.int .i64)), (8, (.int .i64))] }, [(.exit 0, { regs := [] }), (.ret, { regs := [(3, .bool)] })])], imm := [2] }
noncomputable def fields_Drop_c1.env : Dp.Env := { ti := ti, gl := gl, fns := [(79, Tryd.f79, fields_Drop_c1.hint)], specs := [(25, octet_Same.spec)], K := 0 }
noncomputable def fields_Drop_c1.r0 (K : Nat) : Nat → ((((List UInt8) × ((List UInt8) × (Unit))) × ((List (List UInt8)) × ((Int) × ((Int) × (Unit))))) × (Unit)) → Option (((Unit) × (Unit)) ⊕ (((Bool) × (Unit)) × (Unit))) :=
  loopV [(.exit 0, { regs := [] }), (.ret, { regs := [(3, .bool)] })] { regs := [(2, (.ref (.scons .str (.scons .str .snil)))), (6, (.list .str)), (7, (.int .i64)), (8, (.int .i64))] } (interp (fields_Drop_c1.env.at K) fields_Drop_c1.hint (callF (fields_Drop_c1.env.at K) 7) (Code.sub [1, 0, 1, 0, 0] (Tryd.f79.body.getD .skip)) _)
theorem fields_Drop_c1.s0 (K n : Nat) (x : ((((List UInt8) × ((List UInt8) × (Unit))) × ((List (List UInt8)) × ((Int) × ((Int) × (Unit))))) × (Unit))) : fields_Drop_c1.r0 K (n + 1) x = fields_Drop_c1.t0 K (fields_Drop_c1.r0 K n) x := by kernel_rfl
theorem fields_Drop_c1.e0 (K n : Nat) : fields_Drop_c1.r0 K n = fields_Drop_c1.l0 K n := by
  induction n with
  | zero => funext x; rfl
  | succ n ih => funext x; rw [fields_Drop_c1.s0, ih]; rfl
theorem fields_Drop_c1.body_eq (K : Nat) (x : fields_Drop_c1.spec.args.den) : body (fields_Drop_c1.env.at K) 8 79 fields_Drop_c1.spec x = fields_Drop_c1.tr (fields_Drop_c1.r0 K) K x.1 x.2.1 := by kernel_rfl
theorem fields_Drop_c1.contract : Contract Tryd.prog gl 79 fields_Drop_c1.spec :=
  contract_of (E := fields_Drop_c1.env) ⟨TIok_of tiOK, FnsOK_of ⟨⟨Tryd.func79, Tryd.call79⟩, trivial⟩, mixed⟩ (SpecsOK_of (E := fields_Drop_c1.env) ⟨octet_Same.contract, trivial⟩) Tryd.call79 rfl rfl fun K x r h => by
    rw [fields_Drop_c1.body_eq, show fields_Drop_c1.r0 K = fields_Drop_c1.l0 K from funext (fields_Drop_c1.e0 K)]; exact h

def fields_chosen__Drop_c1.spec : Dp.Spec := { args := (.scons (.list (.scons .str (.scons .str .snil))) (.scons (.fn 79 (.scons (.ref (.list .str)) .snil)) .snil)), res := (.list (.scons .str (.scons .str .snil))), own := false, F := fun K x => fields_chosen__Drop_c1 K x.1 x.2.1 }
def fields_chosen__Drop_c1.hint : Dp.Hint := { n := 23, conds := [(16, [(.normal, { regs := [(1, (.fn 79 (.scons (.ref (.list .str)) .snil))), (5, (.slw 1)), (8, (.list (.scons .str (.scons .str .snil)))), (9, (.int .i64)), (10, (.int .i64))], heap := [(.row (.scons .str (.scons .str .snil))), (.row (.scons .str (.scons .str .snil))), (.scons .str (.scons .str .snil))], app := [1] })])], loops := [(3, { regs := [(1, (.fn 79 (.scons (.ref (.list .str)) .snil))), (5, (.slw 1)), (8, (.list (.scons .str (.scons .str .snil)))), (9, (.int .i64)), (10, (.int .i64))], heap := [(.row (.scons .str (.scons .str .snil))), (.row (.scons .str (.scons .str .snil)))], app := [1] }, [(.exit 0, { regs := [(5, (.slw 1))], heap := [(.row (.scons .str (.scons .str .snil))), (.row (.scons .str (.scons .str .snil)))], app := [1] })])], own := [4, 5] }
noncomputable def fields_chosen__Drop_c1.env : Dp.Env := { ti := ti, gl := gl, fns := [(77, Tryd.f77, fields_chosen__Drop_c1.hint)], specs := [(79, fields_Drop_c1.spec)], K := 0 }
noncomputable def fields_chosen__Drop_c1.r0 (K : Nat) : Nat → ((((List (List UInt8)) × (Unit)) × ((Unit) × ((List ((List UInt8) × ((List UInt8) × (Unit)))) × ((Int) × ((Int) × (Unit)))))) × ((List ((List UInt8) × ((List UInt8) × (Unit)))) × ((List ((List UInt8) × ((List UInt8) × (Unit)))) × (Unit)))) → Option ((((Unit) × (Unit)) × ((List ((List UInt8) × ((List UInt8) × (Unit)))) × ((List ((List UInt8) × ((List UInt8) × (Unit)))) × (Unit))))) :=
  loopV [(.exit 0, { regs := [(5, (.slw 1))], heap := [(.row (.scons .str (.scons .str .snil))), (.row (.scons .str (.scons .str .snil)))], app := [1] })] { regs := [(1, (.fn 79 (.scons (.ref (.list .str)) .snil))), (5, (.slw 1)), (8, (.list (.scons .str (.scons .str .snil)))), (9, (.int .i64)), (10, (.int .i64))], heap := [(.row (.scons .str (.scons .str .snil))), (.row (.scons .str (.scons .str .snil)))], app := [1] } (interp (fields_chosen__Drop_c1.env.at K) fields_chosen__Drop_c1.hint (callF (fields_chosen__Drop_c1.env.at K) 7) (Code.sub [1, 1, 0, 1, 0, 0] (Tryd.f77.body.getD .skip)) _)
theorem fields_chosen__Drop_c1.s0 (K n : Nat) (x : ((((List (List UInt8)) × (Unit)) × ((Unit) × ((List ((List UInt8) × ((List UInt8) × (Unit)))) × ((Int) × ((Int) × (Unit)))))) × ((List ((List UInt8) × ((List UInt8) × (Unit)))) × ((List ((List UInt8) × ((List UInt8) × (Unit)))) × (Unit))))) : fields_chosen__Drop_c1.r0 K (n + 1) x = fields_chosen__Drop_c1.t0 K (fields_chosen__Drop_c1.r0 K n) x := by kernel_rfl
theorem fields_chosen__Drop_c1.e0 (K n : Nat) : fields_chosen__Drop_c1.r0 K n = fields_chosen__Drop_c1.l0 K n := by
  induction n with
  | zero => funext x; rfl
  | succ n ih => funext x; rw [fields_chosen__Drop_c1.s0, ih]; rfl
theorem fields_chosen__Drop_c1.body_eq (K : Nat) (x : fields_chosen__Drop_c1.spec.args.den) : body (fields_chosen__Drop_c1.env.at K) 8 77 fields_chosen__Drop_c1.spec x = fields_chosen__Drop_c1.tr (fields_chosen__Drop_c1.r0 K) K x.1 x.2.1 := by kernel_rfl
theorem fields_chosen__Drop_c1.contract : Contract Tryd.prog gl 77 fields_chosen__Drop_c1.spec :=
  contract_of (E := fields_chosen__Drop_c1.env) ⟨TIok_of tiOK, FnsOK_of ⟨⟨Tryd.func77, Tryd.call77⟩, trivial⟩, mixed⟩ (SpecsOK_of (E := fields_chosen__Drop_c1.env) ⟨fields_Drop_c1.contract, trivial⟩) Tryd.call77 rfl rfl fun K x r h => by
    rw [fields_chosen__Drop_c1.body_eq, show fields_chosen__Drop_c1.r0 K = fields_chosen__Drop_c1.l0 K from funext (fields_chosen__Drop_c1.e0 K)]; exact h

def fields_Drop.spec : Dp.Spec := { args := (.scons (.list (.scons .str (.scons .str .snil))) (.scons (.list .str) .snil)), res := (.list (.scons .str (.scons .str .snil))), own := false, F := fun K x => fields_Drop K x.1 x.2.1 }
def fields_Drop.hint : Dp.Hint := { n := 8, imm := [3] }
noncomputable def fields_Drop.env : Dp.Env := { ti := ti, gl := gl, fns := [(56, Tryd.f56, fields_Drop.hint)], specs := [(77, fields_chosen__Drop_c1.spec)], K := 0 }
theorem fields_Drop.body_eq (K : Nat) (x : fields_Drop.spec.args.den) : body (fields_Drop.env.at K) 8 56 fields_Drop.spec x = fields_Drop K x.1 x.2.1 := by kernel_rfl
theorem fields_Drop.contract : Contract Tryd.prog gl 56 fields_Drop.spec :=
  contract_of (E := fields_Drop.env) ⟨TIok_of tiOK, FnsOK_of ⟨⟨Tryd.func56, Tryd.call56⟩, trivial⟩, mixed⟩ (SpecsOK_of (E := fields_Drop.env) ⟨fields_chosen__Drop_c1.contract, trivial⟩) Tryd.call56 rfl rfl fun K x r h => by
    rw [fields_Drop.body_eq]; exact h

def fields_Set.spec : Dp.Spec := { args := (.scons (.list (.scons .str (.scons .str .snil))) (.scons (.scons .str (.scons .str .snil)) .snil)), res := (.list (.scons .str (.scons .str .snil))), own := false, F := fun K x => fields_Set K x.1 x.2.1 }
def fields_Set.hint : Dp.Hint := { n := 36, loops := [(5, { regs := [(3, (.ref (.scons .str (.scons .str .snil)))), (6, (.loc 2 false [])), (7, (.slw 4)), (16, (.slw 4)), (17, (.int .i64)), (18, (.int .i64))], heap := [(.row (.scons .str (.scons .str .snil))), .bool, (.fn 100 (.scons (.ref .str) .snil)), (.row (.scons .str (.scons .str .snil))), (.row (.scons .str (.scons .str .snil)))], app := [4] }, [(.exit 0, { regs := [(3, (.ref (.scons .str (.scons .str .snil)))), (7, (.slw 4))], heap := [(.row (.scons .str (.scons .str .snil))), .bool, (.fn 100 (.scons (.ref .str) .snil)), (.row (.scons .str (.scons .str .snil))), (.row (.scons .str (.scons .str .snil)))], app := [4] }), (.ret, { regs := [(4, (.slw 4))], heap := [(.row (.scons .str (.scons .str .snil))), .bool, (.fn 100 (.scons (.ref .str) .snil)), (.row (.scons .str (.scons .str .snil))), (.row (.scons .str (.scons .str .snil)))], app := [4] })])], own := [4], imm := [3] }
def fields_Set.hint77 : Dp.Hint := { n := 23, conds := [(16, [(.normal, { regs := [(1, (.fn 80 (.scons (.loc 2 false []) (.scons (.loc 1 false []) .snil)))), (5, (.slw 4)), (8, (.list (.scons .str (.scons .str .snil)))), (9, (.int .i64)), (10, (.int .i64))], heap := [(.row (.scons .str (.scons .str .snil))), .bool, (.fn 100 (.scons (.ref .str) .snil)), (.row (.scons .str (.scons .str .snil))), (.row (.scons .str (.scons .str .snil))), (.scons .str (.scons .str .snil))], app := [4] })])], regions := [(5, [(.normal, { regs := [(1, (.fn 80 (.scons (.loc 2 false []) (.scons (.loc 1 false []) .snil)))), (5, (.slw 4)), (7, (.loc 5 false [])), (8, (.list (.scons .str (.scons .str .snil)))), (9, (.int .i64)), (10, (.int .i64)), (16, .bool)], heap := [(.row (.scons .str (.scons .str .snil))), .bool, (.fn 100 (.scons (.ref .str) .snil)), (.row (.scons .str (.scons .str .snil))), (.row (.scons .str (.scons .str .snil))), (.scons .str (.scons .str .snil))], app := [4] })])], loops := [(3, { regs := [(1, (.fn 80 (.scons (.loc 2 false []) (.scons (.loc 1 false []) .snil)))), (5, (.slw 4)), (8, (.list (.scons .str (.scons .str .snil)))), (9, (.int .i64)), (10, (.int .i64))], heap := [(.row (.scons .str (.scons .str .snil))), .bool, (.fn 100 (.scons (.ref .str) .snil)), (.row (.scons .str (.scons .str .snil))), (.row (.scons .str (.scons .str .snil)))], app := [4] }, [(.exit 0, { regs := [(5, (.slw 4))], heap := [(.row (.scons .str (.scons .str .snil))), .bool, (.fn 100 (.scons (.ref .str) .snil)), (.row (.scons .str (.scons .str .snil))), (.row (.scons .str (.scons .str .snil)))], app := [4] })])], own := [4, 5] }
def fields_Set.hint80 : Dp.Hint := { n := 12, imm := [3] }
noncomputable def fields_Set.env : Dp.Env := { ti := ti, gl := gl, fns := [(58, Tryd.f58, fields_Set.hint), (77, Tryd.f77, fields_Set.hint77), (80, Tryd.f80, fields_Set.hint80)], specs := [(78, fields_named.spec), (100, fields_named_c1.spec)], K := 0 }
noncomputable def fields_Set.r1 (K : Nat) : Nat → ((((List UInt8) × ((List UInt8) × (Unit))) × ((Nat) × ((Unit) × ((Unit) × ((Int) × ((Int) × (Unit))))))) × ((List ((List UInt8) × ((List UInt8) × (Unit)))) × ((Bool) × (((List UInt8) × (Unit)) × ((List ((List UInt8) × ((List UInt8) × (Unit)))) × ((List ((List UInt8) × ((List UInt8) × (Unit)))) × (Unit))))))) → Option (((((List UInt8) × ((List UInt8) × (Unit))) × ((Unit) × (Unit))) × ((List ((List UInt8) × ((List UInt8) × (Unit)))) × ((Bool) × (((List UInt8) × (Unit)) × ((List ((List UInt8) × ((List UInt8) × (Unit)))) × ((List ((List UInt8) × ((List UInt8) × (Unit)))) × (Unit))))))) ⊕ (((Unit) × (Unit)) × ((List ((List UInt8) × ((List UInt8) × (Unit)))) × ((Bool) × (((List UInt8) × (Unit)) × ((List ((List UInt8) × ((List UInt8) × (Unit)))) × ((List ((List UInt8) × ((List UInt8) × (Unit)))) × (Unit)))))))) :=
  loopV [(.exit 0, { regs := [(3, (.ref (.scons .str (.scons .str .snil)))), (7, (.slw 4))], heap := [(.row (.scons .str (.scons .str .snil))), .bool, (.fn 100 (.scons (.ref .str) .snil)), (.row (.scons .str (.scons .str .snil))), (.row (.scons .str (.scons .str .snil)))], app := [4] }), (.ret, { regs := [(4, (.slw 4))], heap := [(.row (.scons .str (.scons .str .snil))), .bool, (.fn 100 (.scons (.ref .str) .snil)), (.row (.scons .str (.scons .str .snil))), (.row (.scons .str (.scons .str .snil)))], app := [4] })] { regs := [(3, (.ref (.scons .str (.scons .str .snil)))), (6, (.loc 2 false [])), (7, (.slw 4)), (16, (.slw 4)), (17, (.int .i64)), (18, (.int .i64))], heap := [(.row (.scons .str (.scons .str .snil))), .bool, (.fn 100 (.scons (.ref .str) .snil)), (.row (.scons .str (.scons .str .snil))), (.row (.scons .str (.scons .str .snil)))], app := [4] } (interp (fields_Set.env.at K) fields_Set.hint (callF (fields_Set.env.at K) 7) (Code.sub [1, 1, 1, 1, 0, 1, 0, 0] (Tryd.f58.body.getD .skip)) _)
theorem fields_Set.s1 (K n : Nat) (x : ((((List UInt8) × ((List UInt8) × (Unit))) × ((Nat) × ((Unit) × ((Unit) × ((Int) × ((Int) × (Unit))))))) × ((List ((List UInt8) × ((List UInt8) × (Unit)))) × ((Bool) × (((List UInt8) × (Unit)) × ((List ((List UInt8) × ((List UInt8) × (Unit)))) × ((List ((List UInt8) × ((List UInt8) × (Unit)))) × (Unit)))))))) : fields_Set.r1 K (n + 1) x = fields_Set.t1 K (fields_Set.r1 K n) x := by kernel_rfl
theorem fields_Set.e1 (K n : Nat) : fields_Set.r1 K n = fields_Set.l1 K n := by
  induction n with
  | zero => funext x; rfl
  | succ n ih => funext x; rw [fields_Set.s1, ih]; rfl
noncomputable def fields_Set.r0 (K : Nat) : Nat → ((((Nat) × ((Nat) × (Unit))) × ((Unit) × ((List ((List UInt8) × ((List UInt8) × (Unit)))) × ((Int) × ((Int) × (Unit)))))) × ((List ((List UInt8) × ((List UInt8) × (Unit)))) × ((Bool) × (((List UInt8) × (Unit)) × ((List ((List UInt8) × ((List UInt8) × (Unit)))) × ((List ((List UInt8) × ((List UInt8) × (Unit)))) × (Unit))))))) → Option ((((Unit) × (Unit)) × ((List ((List UInt8) × ((List UInt8) × (Unit)))) × ((Bool) × (((List UInt8) × (Unit)) × ((List ((List UInt8) × ((List UInt8) × (Unit)))) × ((List ((List UInt8) × ((List UInt8) × (Unit)))) × (Unit)))))))) :=
  loopV [(.exit 0, { regs := [(5, (.slw 4))], heap := [(.row (.scons .str (.scons .str .snil))), .bool, (.fn 100 (.scons (.ref .str) .snil)), (.row (.scons .str (.scons .str .snil))), (.row (.scons .str (.scons .str .snil)))], app := [4] })] { regs := [(1, (.fn 80 (.scons (.loc 2 false []) (.scons (.loc 1 false []) .snil)))), (5, (.slw 4)), (8, (.list (.scons .str (.scons .str .snil)))), (9, (.int .i64)), (10, (.int .i64))], heap := [(.row (.scons .str (.scons .str .snil))), .bool, (.fn 100 (.scons (.ref .str) .snil)), (.row (.scons .str (.scons .str .snil))), (.row (.scons .str (.scons .str .snil)))], app := [4] } (interp (fields_Set.env.at K) fields_Set.hint77 (callF (fields_Set.env.at K) 6) (Code.sub [1, 1, 0, 1, 0, 0] (Tryd.f77.body.getD .skip)) _)
theorem fields_Set.s0 (K n : Nat) (x : ((((Nat) × ((Nat) × (Unit))) × ((Unit) × ((List ((List UInt8) × ((List UInt8) × (Unit)))) × ((Int) × ((Int) × (Unit)))))) × ((List ((List UInt8) × ((List UInt8) × (Unit)))) × ((Bool) × (((List UInt8) × (Unit)) × ((List ((List UInt8) × ((List UInt8) × (Unit)))) × ((List ((List UInt8) × ((List UInt8) × (Unit)))) × (Unit)))))))) : fields_Set.r0 K (n + 1) x = fields_Set.t0 K (fields_Set.r0 K n) x := by kernel_rfl
theorem fields_Set.e0 (K n : Nat) : fields_Set.r0 K n = fields_Set.l0 K n := by
  induction n with
  | zero => funext x; rfl
  | succ n ih => funext x; rw [fields_Set.s0, ih]; rfl
theorem fields_Set.body_eq (K : Nat) (x : fields_Set.spec.args.den) : body (fields_Set.env.at K) 8 58 fields_Set.spec x = fields_Set.tr (fields_Set.r0 K) (fields_Set.r1 K) K x.1 x.2.1 := by kernel_rfl
theorem fields_Set.contract : Contract Tryd.prog gl 58 fields_Set.spec :=
  contract_of (E := fields_Set.env) ⟨TIok_of tiOK, FnsOK_of ⟨⟨Tryd.func58, Tryd.call58⟩, ⟨Tryd.func77, Tryd.call77⟩, ⟨Tryd.func80, Tryd.call80⟩, trivial⟩, mixed⟩ (SpecsOK_of (E := fields_Set.env) ⟨fields_named.contract, fields_named_c1.contract, trivial⟩) Tryd.call58 rfl rfl fun K x r h => by
    rw [fields_Set.body_eq, show fields_Set.r0 K = fields_Set.l0 K from funext (fields_Set.e0 K), show fields_Set.r1 K = fields_Set.l1 K from funext (fields_Set.e1 K)]; exact h

def fields_Has.spec : Dp.Spec := { args := (.scons (.list (.scons .str (.scons .str .snil))) (.scons .str (.scons .str .snil))), res := .bool, own := false, F := fun K x => fields_Has K x.1 x.2.1 x.2.2.1 }
def fields_Has.hint : Dp.Hint := { n := 21, loops := [(2, { regs := [(2, .str), (11, (.list .str)), (12, (.int .i64)), (13, (.int .i64))] }, [(.exit 0, { regs := [] }), (.ret, { regs := [(6, .bool)] })])] }
noncomputable def fields_Has.env : Dp.Env := { ti := ti, gl := gl, fns := [(54, Tryd.f54, fields_Has.hint)], specs := [(30, items_Has.spec), (52, fields_All.spec)], K := 0 }
noncomputable def fields_Has.r0 (K : Nat) : Nat → (((List UInt8) × ((List (List UInt8)) × ((Int) × ((Int) × (Unit))))) × (Unit)) → Option (((Unit) × (Unit)) ⊕ (((Bool) × (Unit)) × (Unit))) :=
  loopV [(.exit 0, { regs := [] }), (.ret, { regs := [(6, .bool)] })] { regs := [(2, .str), (11, (.list .str)), (12, (.int .i64)), (13, (.int .i64))] } (interp (fields_Has.env.at K) fields_Has.hint (callF (fields_Has.env.at K) 7) (Code.sub [1, 0, 1, 0, 0] (Tryd.f54.body.getD .skip)) _)
theorem fields_Has.s0 (K n : Nat) (x : (((List UInt8) × ((List (List UInt8)) × ((Int) × ((Int) × (Unit))))) × (Unit))) : fields_Has.r0 K (n + 1) x = fields_Has.t0 K (fields_Has.r0 K n) x := by kernel_rfl
theorem fields_Has.e0 (K n : Nat) : fields_Has.r0 K n = fields_Has.l0 K n := by
  induction n with
  | zero => funext x; rfl
  | succ n ih => funext x; rw [fields_Has.s0, ih]; rfl
theorem fields_Has.body_eq (K : Nat) (x : fields_Has.spec.args.den) : body (fields_Has.env.at K) 8 54 fields_Has.spec x = fields_Has.tr (fields_Has.r0 K) K x.1 x.2.1 x.2.2.1 := by kernel_rfl
theorem fields_Has.contract : Contract Tryd.prog gl 54 fields_Has.spec :=
  contract_of (E := fields_Has.env) ⟨TIok_of tiOK, FnsOK_of ⟨⟨Tryd.func54, Tryd.call54⟩, trivial⟩, mixed⟩ (SpecsOK_of (E := fields_Has.env) ⟨items_Has.contract, fields_All.contract, trivial⟩) Tryd.call54 rfl rfl fun K x r h => by
    rw [fields_Has.body_eq, show fields_Has.r0 K = fields_Has.l0 K from funext (fields_Has.e0 K)]; exact h

def fields_Line.spec : Dp.Spec := { args := (.scons (.scons .str (.scons .str .snil)) .snil), res := .str, own := false, F := fun K x => fields_Line K x.1 }
def fields_Line.hint : Dp.Hint := { n := 9, imm := [1] }
noncomputable def fields_Line.env : Dp.Env := { ti := ti, gl := gl, fns := [(46, Tryd.f46, fields_Line.hint)], specs := [], K := 0 }
theorem fields_Line.body_eq (K : Nat) (x : fields_Line.spec.args.den) : body (fields_Line.env.at K) 8 46 fields_Line.spec x = fields_Line K x.1 := by kernel_rfl
theorem fields_Line.contract : Contract Tryd.prog gl 46 fields_Line.spec :=
  contract_of (E := fields_Line.env) ⟨TIok_of tiOK, FnsOK_of ⟨⟨Tryd.func46, Tryd.call46⟩, trivial⟩, mixed⟩ (SpecsOK_of (E := fields_Line.env) trivial) Tryd.call46 rfl rfl fun K x r h => by
    rw [fields_Line.body_eq]; exact h

def fields_Check.spec : Dp.Spec := { args := (.scons (.list (.scons .str (.scons .str .snil))) .snil), res := (.int .i64), own := false, F := fun K x => fields_Check K x.1 }
def fields_Check.hint : Dp.Hint := { n := 42, regions := [(7, [(.normal, { regs := [(3, .bool), (5, (.loc 0 false [])), (9, (.list (.scons .str (.scons .str .snil)))), (10, (.int .i64)), (11, (.int .i64)), (32, .bool)], heap := [(.scons .str (.scons .str .snil))] })]), (9, [(.normal, { regs := [(3, .bool), (9, (.list (.scons .str (.scons .str .snil)))), (10, (.int .i64)), (11, (.int .i64))], heap := [(.scons .str (.scons .str .snil))] })])], loops := [(5, { regs := [(3, .bool), (9, (.list (.scons .str (.scons .str .snil)))), (10, (.int .i64)), (11, (.int .i64))] }, [(.exit 0, { regs := [(3, .bool)] }), (.ret, { regs := [(2, (.int .i64))] })])] }
noncomputable def fields_Check.env : Dp.Env := { ti := ti, gl := gl, fns := [(48, Tryd.f48, fields_Check.hint)], specs := [(42, octet_Trim.spec), (40, octet_IsToken.spec), (75, octet_IsText.spec), (46, fields_Line.spec)], K := 0 }
noncomputable def fields_Check.r0 (K : Nat) : Nat → (((Bool) × ((List ((List UInt8) × ((List UInt8) × (Unit)))) × ((Int) × ((Int) × (Unit))))) × (Unit)) → Option ((((Bool) × (Unit)) × (Unit)) ⊕ (((Int) × (Unit)) × (Unit))) :=
  loopV [(.exit 0, { regs := [(3, .bool)] }), (.ret, { regs := [(2, (.int .i64))] })] { regs := [(3, .bool), (9, (.list (.scons .str (.scons .str .snil)))), (10, (.int .i64)), (11, (.int .i64))] } (interp (fields_Check.env.at K) fields_Check.hint (callF (fields_Check.env.at K) 7) (Code.sub [1, 1, 1, 0, 1, 0, 0] (Tryd.f48.body.getD .skip)) _)
theorem fields_Check.s0 (K n : Nat) (x : (((Bool) × ((List ((List UInt8) × ((List UInt8) × (Unit)))) × ((Int) × ((Int) × (Unit))))) × (Unit))) : fields_Check.r0 K (n + 1) x = fields_Check.t0 K (fields_Check.r0 K n) x := by kernel_rfl
theorem fields_Check.e0 (K n : Nat) : fields_Check.r0 K n = fields_Check.l0 K n := by
  induction n with
  | zero => funext x; rfl
  | succ n ih => funext x; rw [fields_Check.s0, ih]; rfl
theorem fields_Check.body_eq (K : Nat) (x : fields_Check.spec.args.den) : body (fields_Check.env.at K) 8 48 fields_Check.spec x = fields_Check.tr (fields_Check.r0 K) K x.1 := by kernel_rfl
theorem fields_Check.contract : Contract Tryd.prog gl 48 fields_Check.spec :=
  contract_of (E := fields_Check.env) ⟨TIok_of tiOK, FnsOK_of ⟨⟨Tryd.func48, Tryd.call48⟩, trivial⟩, mixed⟩ (SpecsOK_of (E := fields_Check.env) ⟨octet_Trim.contract, octet_IsToken.contract, octet_IsText.contract, fields_Line.contract, trivial⟩) Tryd.call48 rfl rfl fun K x r h => by
    rw [fields_Check.body_eq, show fields_Check.r0 K = fields_Check.l0 K from funext (fields_Check.e0 K)]; exact h

def fields_Same.spec : Dp.Spec := { args := (.scons (.list (.scons .str (.scons .str .snil))) (.scons (.list (.scons .str (.scons .str .snil))) .snil)), res := .bool, own := false, F := fun K x => fields_Same K x.1 x.2.1 }
def fields_Same.hint : Dp.Hint := { n := 39, regions := [(6, [(.normal, { regs := [(1, (.list (.scons .str (.scons .str .snil)))), (12, (.list (.scons .str (.scons .str .snil)))), (13, (.int .i64)), (14, (.int .i64)), (37, .bool)], heap := [(.scons .str (.scons .str .snil))] })])], loops := [(4, { regs := [(1, (.list (.scons .str (.scons .str .snil)))), (12, (.list (.scons .str (.scons .str .snil)))), (13, (.int .i64)), (14, (.int .i64))] }, [(.exit 0, { regs := [] }), (.ret, { regs := [(4, .bool)] })])] }
noncomputable def fields_Same.env : Dp.Env := { ti := ti, gl := gl, fns := [(26, Tryd.f26, fields_Same.hint)], specs := [(25, octet_Same.spec)], K := 0 }
noncomputable def fields_Same.r0 (K : Nat) : Nat → (((List ((List UInt8) × ((List UInt8) × (Unit)))) × ((List ((List UInt8) × ((List UInt8) × (Unit)))) × ((Int) × ((Int) × (Unit))))) × (Unit)) → Option (((Unit) × (Unit)) ⊕ (((Bool) × (Unit)) × (Unit))) :=
  loopV [(.exit 0, { regs := [] }), (.ret, { regs := [(4, .bool)] })] { regs := [(1, (.list (.scons .str (.scons .str .snil)))), (12, (.list (.scons .str (.scons .str .snil)))), (13, (.int .i64)), (14, (.int .i64))] } (interp (fields_Same.env.at K) fields_Same.hint (callF (fields_Same.env.at K) 7) (Code.sub [1, 1, 0, 1, 0, 0] (Tryd.f26.body.getD .skip)) _)
theorem fields_Same.s0 (K n : Nat) (x : (((List ((List UInt8) × ((List UInt8) × (Unit)))) × ((List ((List UInt8) × ((List UInt8) × (Unit)))) × ((Int) × ((Int) × (Unit))))) × (Unit))) : fields_Same.r0 K (n + 1) x = fields_Same.t0 K (fields_Same.r0 K n) x := by kernel_rfl
theorem fields_Same.e0 (K n : Nat) : fields_Same.r0 K n = fields_Same.l0 K n := by
  induction n with
  | zero => funext x; rfl
  | succ n ih => funext x; rw [fields_Same.s0, ih]; rfl
theorem fields_Same.body_eq (K : Nat) (x : fields_Same.spec.args.den) : body (fields_Same.env.at K) 8 26 fields_Same.spec x = fields_Same.tr (fields_Same.r0 K) K x.1 x.2.1 := by kernel_rfl
theorem fields_Same.contract : Contract Tryd.prog gl 26 fields_Same.spec :=
  contract_of (E := fields_Same.env) ⟨TIok_of tiOK, FnsOK_of ⟨⟨Tryd.func26, Tryd.call26⟩, trivial⟩, mixed⟩ (SpecsOK_of (E := fields_Same.env) ⟨octet_Same.contract, trivial⟩) Tryd.call26 rfl rfl fun K x r h => by
    rw [fields_Same.body_eq, show fields_Same.r0 K = fields_Same.l0 K from funext (fields_Same.e0 K)]; exact h

def depotlaw09_heads.spec : Dp.Spec := { args := .snil, res := .bool, own := false, F := fun K x => depotlaw09_heads K }
def depotlaw09_heads.hint : Dp.Hint := { n := 100 }
noncomputable def depotlaw09_heads.env : Dp.Env := { ti := ti, gl := gl, fns := [(43, Tryd.f43, depotlaw09_heads.hint)], specs := [(44, fields_Parse.spec), (52, fields_All.spec), (50, fields_Get.spec), (56, fields_Drop.spec), (58, fields_Set.spec), (54, fields_Has.spec), (46, fields_Line.spec), (48, fields_Check.spec), (26, fields_Same.spec)], K := 0 }
theorem depotlaw09_heads.body_eq (K : Nat) (x : depotlaw09_heads.spec.args.den) : body (depotlaw09_heads.env.at K) 8 43 depotlaw09_heads.spec x = depotlaw09_heads K := by kernel_rfl
theorem depotlaw09_heads.contract : Contract Tryd.prog gl 43 depotlaw09_heads.spec :=
  contract_of (E := depotlaw09_heads.env) ⟨TIok_of tiOK, FnsOK_of ⟨⟨Tryd.func43, Tryd.call43⟩, trivial⟩, mixed⟩ (SpecsOK_of (E := depotlaw09_heads.env) ⟨fields_Parse.contract, fields_All.contract, fields_Get.contract, fields_Drop.contract, fields_Set.contract, fields_Has.contract, fields_Line.contract, fields_Check.contract, fields_Same.contract, trivial⟩) Tryd.call43 rfl rfl fun K x r h => by
    rw [depotlaw09_heads.body_eq]; exact h

def depotref01_Text.spec : Dp.Spec := { args := (.scons (.int .u8) .snil), res := .bool, own := false, F := fun K x => depotref01_Text K x.1 }
def depotref01_Text.hint : Dp.Hint := { n := 13 }
noncomputable def depotref01_Text.env : Dp.Env := { ti := ti, gl := gl, fns := [(99, Tryd.f99, depotref01_Text.hint)], specs := [], K := 0 }
theorem depotref01_Text.body_eq (K : Nat) (x : depotref01_Text.spec.args.den) : body (depotref01_Text.env.at K) 8 99 depotref01_Text.spec x = depotref01_Text K x.1 := by kernel_rfl
theorem depotref01_Text.contract : Contract Tryd.prog gl 99 depotref01_Text.spec :=
  contract_of (E := depotref01_Text.env) ⟨TIok_of tiOK, FnsOK_of ⟨⟨Tryd.func99, Tryd.call99⟩, trivial⟩, mixed⟩ (SpecsOK_of (E := depotref01_Text.env) trivial) Tryd.call99 rfl rfl fun K x r h => by
    rw [depotref01_Text.body_eq]; exact h

def depotref01_IsText.spec : Dp.Spec := { args := (.scons .str .snil), res := .bool, own := false, F := fun K x => depotref01_IsText K x.1 }
def depotref01_IsText.hint : Dp.Hint := { n := 15, loops := [(2, { regs := [(0, .str), (3, (.int .i64))] }, [(.exit 0, { regs := [] }), (.ret, { regs := [(2, .bool)] })])] }
noncomputable def depotref01_IsText.env : Dp.Env := { ti := ti, gl := gl, fns := [(76, Tryd.f76, depotref01_IsText.hint)], specs := [(99, depotref01_Text.spec)], K := 0 }
noncomputable def depotref01_IsText.r0 (K : Nat) : Nat → (((List UInt8) × ((Int) × (Unit))) × (Unit)) → Option (((Unit) × (Unit)) ⊕ (((Bool) × (Unit)) × (Unit))) :=
  loopV [(.exit 0, { regs := [] }), (.ret, { regs := [(2, .bool)] })] { regs := [(0, .str), (3, (.int .i64))] } (interp (depotref01_IsText.env.at K) depotref01_IsText.hint (callF (depotref01_IsText.env.at K) 7) (Code.sub [1, 0, 1, 0, 0] (Tryd.f76.body.getD .skip)) _)
theorem depotref01_IsText.s0 (K n : Nat) (x : (((List UInt8) × ((Int) × (Unit))) × (Unit))) : depotref01_IsText.r0 K (n + 1) x = depotref01_IsText.t0 K (depotref01_IsText.r0 K n) x := by kernel_rfl
theorem depotref01_IsText.e0 (K n : Nat) : depotref01_IsText.r0 K n = depotref01_IsText.l0 K n := by
  induction n with
  | zero => funext x; rfl
  | succ n ih => funext x; rw [depotref01_IsText.s0, ih]; rfl
theorem depotref01_IsText.body_eq (K : Nat) (x : depotref01_IsText.spec.args.den) : body (depotref01_IsText.env.at K) 8 76 depotref01_IsText.spec x = depotref01_IsText.tr (depotref01_IsText.r0 K) K x.1 := by kernel_rfl
theorem depotref01_IsText.contract : Contract Tryd.prog gl 76 depotref01_IsText.spec :=
  contract_of (E := depotref01_IsText.env) ⟨TIok_of tiOK, FnsOK_of ⟨⟨Tryd.func76, Tryd.call76⟩, trivial⟩, mixed⟩ (SpecsOK_of (E := depotref01_IsText.env) ⟨depotref01_Text.contract, trivial⟩) Tryd.call76 rfl rfl fun K x r h => by
    rw [depotref01_IsText.body_eq, show depotref01_IsText.r0 K = depotref01_IsText.l0 K from funext (depotref01_IsText.e0 K)]; exact h

def depotref09_Parse.spec : Dp.Spec := { args := (.scons .str .snil), res := (.tup (.scons (.scons .str (.scons .str .snil)) (.scons (.int .i64) .snil))), own := false, F := fun K x => depotref09_Parse K x.1 }
def depotref09_Parse.hint : Dp.Hint := { n := 35, regions := [(5, [(.normal, { regs := [(2, (.loc 0 false [])), (4, .str), (5, .str), (30, .bool)], heap := [(.scons .str (.scons .str .snil))] })])] }
noncomputable def depotref09_Parse.env : Dp.Env := { ti := ti, gl := gl, fns := [(45, Tryd.f45, depotref09_Parse.hint)], specs := [(63, depotref01_Trim.spec), (68, depotref01_Cut.spec), (69, depotref01_IsToken.spec), (76, depotref01_IsText.spec)], K := 0 }
theorem depotref09_Parse.body_eq (K : Nat) (x : depotref09_Parse.spec.args.den) : body (depotref09_Parse.env.at K) 8 45 depotref09_Parse.spec x = depotref09_Parse K x.1 := by kernel_rfl
theorem depotref09_Parse.contract : Contract Tryd.prog gl 45 depotref09_Parse.spec :=
  contract_of (E := depotref09_Parse.env) ⟨TIok_of tiOK, FnsOK_of ⟨⟨Tryd.func45, Tryd.call45⟩, trivial⟩, mixed⟩ (SpecsOK_of (E := depotref09_Parse.env) ⟨depotref01_Trim.contract, depotref01_Cut.contract, depotref01_IsToken.contract, depotref01_IsText.contract, trivial⟩) Tryd.call45 rfl rfl fun K x r h => by
    rw [depotref09_Parse.body_eq]; exact h

def depotref09_Line.spec : Dp.Spec := { args := (.scons (.scons .str (.scons .str .snil)) .snil), res := .str, own := false, F := fun K x => depotref09_Line K x.1 }
def depotref09_Line.hint : Dp.Hint := { n := 9, imm := [1] }
noncomputable def depotref09_Line.env : Dp.Env := { ti := ti, gl := gl, fns := [(47, Tryd.f47, depotref09_Line.hint)], specs := [], K := 0 }
theorem depotref09_Line.body_eq (K : Nat) (x : depotref09_Line.spec.args.den) : body (depotref09_Line.env.at K) 8 47 depotref09_Line.spec x = depotref09_Line K x.1 := by kernel_rfl
theorem depotref09_Line.contract : Contract Tryd.prog gl 47 depotref09_Line.spec :=
  contract_of (E := depotref09_Line.env) ⟨TIok_of tiOK, FnsOK_of ⟨⟨Tryd.func47, Tryd.call47⟩, trivial⟩, mixed⟩ (SpecsOK_of (E := depotref09_Line.env) trivial) Tryd.call47 rfl rfl fun K x r h => by
    rw [depotref09_Line.body_eq]; exact h

def depotref09_Check.spec : Dp.Spec := { args := (.scons (.list (.scons .str (.scons .str .snil))) .snil), res := (.int .i64), own := false, F := fun K x => depotref09_Check K x.1 }
def depotref09_Check.hint : Dp.Hint := { n := 65, regions := [(6, [(.normal, { regs := [(0, (.list (.scons .str (.scons .str .snil)))), (3, (.int .i64)), (43, .bool)] })])], loops := [(4, { regs := [(0, (.list (.scons .str (.scons .str .snil)))), (3, (.int .i64))] }, [(.exit 0, { regs := [(0, (.list (.scons .str (.scons .str .snil))))] }), (.ret, { regs := [(2, (.int .i64))] })]), (9, { regs := [(0, (.list (.scons .str (.scons .str .snil)))), (4, (.int .i64))] }, [(.exit 2, { regs := [] }), (.ret, { regs := [(2, (.int .i64))] })])] }
noncomputable def depotref09_Check.env : Dp.Env := { ti := ti, gl := gl, fns := [(49, Tryd.f49, depotref09_Check.hint)], specs := [(63, depotref01_Trim.spec), (69, depotref01_IsToken.spec), (76, depotref01_IsText.spec)], K := 0 }
noncomputable def depotref09_Check.r1 (K : Nat) : Nat → (((List ((List UInt8) × ((List UInt8) × (Unit)))) × ((Int) × (Unit))) × (Unit)) → Option (((Unit) × (Unit)) ⊕ (((Int) × (Unit)) × (Unit))) :=
  loopV [(.exit 2, { regs := [] }), (.ret, { regs := [(2, (.int .i64))] })] { regs := [(0, (.list (.scons .str (.scons .str .snil)))), (4, (.int .i64))] } (interp (depotref09_Check.env.at K) depotref09_Check.hint (callF (depotref09_Check.env.at K) 7) (Code.sub [1, 1, 1, 0, 1, 0, 0] (Tryd.f49.body.getD .skip)) _)
theorem depotref09_Check.s1 (K n : Nat) (x : (((List ((List UInt8) × ((List UInt8) × (Unit)))) × ((Int) × (Unit))) × (Unit))) : depotref09_Check.r1 K (n + 1) x = depotref09_Check.t1 K (depotref09_Check.r1 K n) x := by kernel_rfl
theorem depotref09_Check.e1 (K n : Nat) : depotref09_Check.r1 K n = depotref09_Check.l1 K n := by
  induction n with
  | zero => funext x; rfl
  | succ n ih => funext x; rw [depotref09_Check.s1, ih]; rfl
noncomputable def depotref09_Check.r0 (K : Nat) : Nat → (((List ((List UInt8) × ((List UInt8) × (Unit)))) × ((Int) × (Unit))) × (Unit)) → Option ((((List ((List UInt8) × ((List UInt8) × (Unit)))) × (Unit)) × (Unit)) ⊕ (((Int) × (Unit)) × (Unit))) :=
  loopV [(.exit 0, { regs := [(0, (.list (.scons .str (.scons .str .snil))))] }), (.ret, { regs := [(2, (.int .i64))] })] { regs := [(0, (.list (.scons .str (.scons .str .snil)))), (3, (.int .i64))] } (interp (depotref09_Check.env.at K) depotref09_Check.hint (callF (depotref09_Check.env.at K) 7) (Code.sub [1, 1, 0, 1, 0, 0] (Tryd.f49.body.getD .skip)) _)
theorem depotref09_Check.s0 (K n : Nat) (x : (((List ((List UInt8) × ((List UInt8) × (Unit)))) × ((Int) × (Unit))) × (Unit))) : depotref09_Check.r0 K (n + 1) x = depotref09_Check.t0 K (depotref09_Check.r0 K n) x := by kernel_rfl
theorem depotref09_Check.e0 (K n : Nat) : depotref09_Check.r0 K n = depotref09_Check.l0 K n := by
  induction n with
  | zero => funext x; rfl
  | succ n ih => funext x; rw [depotref09_Check.s0, ih]; rfl
theorem depotref09_Check.body_eq (K : Nat) (x : depotref09_Check.spec.args.den) : body (depotref09_Check.env.at K) 8 49 depotref09_Check.spec x = depotref09_Check.tr (depotref09_Check.r0 K) (depotref09_Check.r1 K) K x.1 := by kernel_rfl
theorem depotref09_Check.contract : Contract Tryd.prog gl 49 depotref09_Check.spec :=
  contract_of (E := depotref09_Check.env) ⟨TIok_of tiOK, FnsOK_of ⟨⟨Tryd.func49, Tryd.call49⟩, trivial⟩, mixed⟩ (SpecsOK_of (E := depotref09_Check.env) ⟨depotref01_Trim.contract, depotref01_IsToken.contract, depotref01_IsText.contract, trivial⟩) Tryd.call49 rfl rfl fun K x r h => by
    rw [depotref09_Check.body_eq, show depotref09_Check.r0 K = depotref09_Check.l0 K from funext (depotref09_Check.e0 K), show depotref09_Check.r1 K = depotref09_Check.l1 K from funext (depotref09_Check.e1 K)]; exact h

def depotlaw09_FieldsParses.spec : Dp.Spec := { args := (.scons .str (.scons (.list (.scons .str (.scons .str .snil))) .snil)), res := .bool, own := false, F := fun K x => depotlaw09_FieldsParses K x.1 x.2.1 }
def depotlaw09_FieldsParses.hint : Dp.Hint := { n := 64, regions := [(1, [(.normal, { regs := [(0, .str), (1, (.list (.scons .str (.scons .str .snil)))), (17, .bool)] })])], loops := [(6, { regs := [(1, (.list (.scons .str (.scons .str .snil)))), (5, (.loc 0 false [])), (6, (.int .i64)), (7, (.loc 1 false [])), (8, (.int .i64)), (9, (.int .i64))], heap := [(.scons .str (.scons .str .snil)), (.scons .str (.scons .str .snil))] }, [(.exit 0, { regs := [(1, (.list (.scons .str (.scons .str .snil)))), (5, (.loc 0 false [])), (6, (.int .i64)), (7, (.loc 1 false [])), (8, (.int .i64))], heap := [(.scons .str (.scons .str .snil)), (.scons .str (.scons .str .snil))] }), (.ret, { regs := [(4, .bool)], heap := [(.scons .str (.scons .str .snil)), (.scons .str (.scons .str .snil))] })])] }
noncomputable def depotlaw09_FieldsParses.env : Dp.Env := { ti := ti, gl := gl, fns := [(10, Tryd.f10, depotlaw09_FieldsParses.hint)], specs := [(15, depotref09_Few.spec), (44, fields_Parse.spec), (46, fields_Line.spec), (48, fields_Check.spec), (43, depotlaw09_heads.spec), (45, depotref09_Parse.spec), (47, depotref09_Line.spec), (49, depotref09_Check.spec)], K := 0 }
noncomputable def depotlaw09_FieldsParses.r0 (K : Nat) : Nat → (((List ((List UInt8) × ((List UInt8) × (Unit)))) × ((Nat) × ((Int) × ((Nat) × ((Int) × ((Int) × (Unit))))))) × (((List UInt8) × ((List UInt8) × (Unit))) × (((List UInt8) × ((List UInt8) × (Unit))) × (Unit)))) → Option ((((List ((List UInt8) × ((List UInt8) × (Unit)))) × ((Nat) × ((Int) × ((Nat) × ((Int) × (Unit)))))) × (((List UInt8) × ((List UInt8) × (Unit))) × (((List UInt8) × ((List UInt8) × (Unit))) × (Unit)))) ⊕ (((Bool) × (Unit)) × (((List UInt8) × ((List UInt8) × (Unit))) × (((List UInt8) × ((List UInt8) × (Unit))) × (Unit))))) :=
  loopV [(.exit 0, { regs := [(1, (.list (.scons .str (.scons .str .snil)))), (5, (.loc 0 false [])), (6, (.int .i64)), (7, (.loc 1 false [])), (8, (.int .i64))], heap := [(.scons .str (.scons .str .snil)), (.scons .str (.scons .str .snil))] }), (.ret, { regs := [(4, .bool)], heap := [(.scons .str (.scons .str .snil)), (.scons .str (.scons .str .snil))] })] { regs := [(1, (.list (.scons .str (.scons .str .snil)))), (5, (.loc 0 false [])), (6, (.int .i64)), (7, (.loc 1 false [])), (8, (.int .i64)), (9, (.int .i64))], heap := [(.scons .str (.scons .str .snil)), (.scons .str (.scons .str .snil))] } (interp (depotlaw09_FieldsParses.env.at K) depotlaw09_FieldsParses.hint (callF (depotlaw09_FieldsParses.env.at K) 7) (Code.sub [1, 1, 1, 1, 0, 1, 0, 0] (Tryd.f10.body.getD .skip)) _)
theorem depotlaw09_FieldsParses.s0 (K n : Nat) (x : (((List ((List UInt8) × ((List UInt8) × (Unit)))) × ((Nat) × ((Int) × ((Nat) × ((Int) × ((Int) × (Unit))))))) × (((List UInt8) × ((List UInt8) × (Unit))) × (((List UInt8) × ((List UInt8) × (Unit))) × (Unit))))) : depotlaw09_FieldsParses.r0 K (n + 1) x = depotlaw09_FieldsParses.t0 K (depotlaw09_FieldsParses.r0 K n) x := by kernel_rfl
theorem depotlaw09_FieldsParses.e0 (K n : Nat) : depotlaw09_FieldsParses.r0 K n = depotlaw09_FieldsParses.l0 K n := by
  induction n with
  | zero => funext x; rfl
  | succ n ih => funext x; rw [depotlaw09_FieldsParses.s0, ih]; rfl
theorem depotlaw09_FieldsParses.body_eq (K : Nat) (x : depotlaw09_FieldsParses.spec.args.den) : body (depotlaw09_FieldsParses.env.at K) 8 10 depotlaw09_FieldsParses.spec x = depotlaw09_FieldsParses.tr (depotlaw09_FieldsParses.r0 K) K x.1 x.2.1 := by kernel_rfl
theorem depotlaw09_FieldsParses.contract : Contract Tryd.prog gl 10 depotlaw09_FieldsParses.spec :=
  contract_of (E := depotlaw09_FieldsParses.env) ⟨TIok_of tiOK, FnsOK_of ⟨⟨Tryd.func10, Tryd.call10⟩, trivial⟩, mixed⟩ (SpecsOK_of (E := depotlaw09_FieldsParses.env) ⟨depotref09_Few.contract, fields_Parse.contract, fields_Line.contract, fields_Check.contract, depotlaw09_heads.contract, depotref09_Parse.contract, depotref09_Line.contract, depotref09_Check.contract, trivial⟩) Tryd.call10 rfl rfl fun K x r h => by
    rw [depotlaw09_FieldsParses.body_eq, show depotlaw09_FieldsParses.r0 K = depotlaw09_FieldsParses.l0 K from funext (depotlaw09_FieldsParses.e0 K)]; exact h

def depotref09_All.spec : Dp.Spec := { args := (.scons (.list (.scons .str (.scons .str .snil))) (.scons .str .snil)), res := (.list .str), own := false, F := fun K x => depotref09_All K x.1 x.2.1 }
def depotref09_All.hint : Dp.Hint := { n := 29, conds := [(19, [(.normal, { regs := [(0, (.list (.scons .str (.scons .str .snil)))), (1, .str), (5, (.slw 1)), (6, (.int .i64))], heap := [(.row .str), (.row .str)], app := [1] })])], loops := [(3, { regs := [(0, (.list (.scons .str (.scons .str .snil)))), (1, .str), (5, (.slw 1)), (6, (.int .i64))], heap := [(.row .str), (.row .str)], app := [1] }, [(.exit 0, { regs := [(5, (.slw 1))], heap := [(.row .str), (.row .str)], app := [1] })])], own := [4, 5] }
noncomputable def depotref09_All.env : Dp.Env := { ti := ti, gl := gl, fns := [(53, Tryd.f53, depotref09_All.hint)], specs := [(61, depotref01_Same.spec)], K := 0 }
noncomputable def depotref09_All.r0 (K : Nat) : Nat → (((List ((List UInt8) × ((List UInt8) × (Unit)))) × ((List UInt8) × ((Unit) × ((Int) × (Unit))))) × ((List (List UInt8)) × ((List (List UInt8)) × (Unit)))) → Option ((((Unit) × (Unit)) × ((List (List UInt8)) × ((List (List UInt8)) × (Unit))))) :=
  loopV [(.exit 0, { regs := [(5, (.slw 1))], heap := [(.row .str), (.row .str)], app := [1] })] { regs := [(0, (.list (.scons .str (.scons .str .snil)))), (1, .str), (5, (.slw 1)), (6, (.int .i64))], heap := [(.row .str), (.row .str)], app := [1] } (interp (depotref09_All.env.at K) depotref09_All.hint (callF (depotref09_All.env.at K) 7) (Code.sub [1, 1, 0, 1, 0, 0] (Tryd.f53.body.getD .skip)) _)
theorem depotref09_All.s0 (K n : Nat) (x : (((List ((List UInt8) × ((List UInt8) × (Unit)))) × ((List UInt8) × ((Unit) × ((Int) × (Unit))))) × ((List (List UInt8)) × ((List (List UInt8)) × (Unit))))) : depotref09_All.r0 K (n + 1) x = depotref09_All.t0 K (depotref09_All.r0 K n) x := by kernel_rfl
theorem depotref09_All.e0 (K n : Nat) : depotref09_All.r0 K n = depotref09_All.l0 K n := by
  induction n with
  | zero => funext x; rfl
  | succ n ih => funext x; rw [depotref09_All.s0, ih]; rfl
theorem depotref09_All.body_eq (K : Nat) (x : depotref09_All.spec.args.den) : body (depotref09_All.env.at K) 8 53 depotref09_All.spec x = depotref09_All.tr (depotref09_All.r0 K) K x.1 x.2.1 := by kernel_rfl
theorem depotref09_All.contract : Contract Tryd.prog gl 53 depotref09_All.spec :=
  contract_of (E := depotref09_All.env) ⟨TIok_of tiOK, FnsOK_of ⟨⟨Tryd.func53, Tryd.call53⟩, trivial⟩, mixed⟩ (SpecsOK_of (E := depotref09_All.env) ⟨depotref01_Same.contract, trivial⟩) Tryd.call53 rfl rfl fun K x r h => by
    rw [depotref09_All.body_eq, show depotref09_All.r0 K = depotref09_All.l0 K from funext (depotref09_All.e0 K)]; exact h

def depotref09_Get.spec : Dp.Spec := { args := (.scons (.list (.scons .str (.scons .str .snil))) (.scons .str .snil)), res := (.tup (.scons .str (.scons .bool .snil))), own := false, F := fun K x => depotref09_Get K x.1 x.2.1 }
def depotref09_Get.hint : Dp.Hint := { n := 15 }
noncomputable def depotref09_Get.env : Dp.Env := { ti := ti, gl := gl, fns := [(51, Tryd.f51, depotref09_Get.hint)], specs := [(33, depotref06_Join.spec), (53, depotref09_All.spec)], K := 0 }
theorem depotref09_Get.body_eq (K : Nat) (x : depotref09_Get.spec.args.den) : body (depotref09_Get.env.at K) 8 51 depotref09_Get.spec x = depotref09_Get K x.1 x.2.1 := by kernel_rfl
theorem depotref09_Get.contract : Contract Tryd.prog gl 51 depotref09_Get.spec :=
  contract_of (E := depotref09_Get.env) ⟨TIok_of tiOK, FnsOK_of ⟨⟨Tryd.func51, Tryd.call51⟩, trivial⟩, mixed⟩ (SpecsOK_of (E := depotref09_Get.env) ⟨depotref06_Join.contract, depotref09_All.contract, trivial⟩) Tryd.call51 rfl rfl fun K x r h => by
    rw [depotref09_Get.body_eq]; exact h

def depotref09_Has.spec : Dp.Spec := { args := (.scons (.list (.scons .str (.scons .str .snil))) (.scons .str (.scons .str .snil))), res := .bool, own := false, F := fun K x => depotref09_Has K x.1 x.2.1 x.2.2.1 }
def depotref09_Has.hint : Dp.Hint := { n := 24, loops := [(3, { regs := [(2, .str), (7, (.list .str)), (8, (.int .i64))] }, [(.exit 0, { regs := [] }), (.ret, { regs := [(6, .bool)] })])] }
noncomputable def depotref09_Has.env : Dp.Env := { ti := ti, gl := gl, fns := [(55, Tryd.f55, depotref09_Has.hint)], specs := [(31, depotref06_Has.spec), (53, depotref09_All.spec)], K := 0 }
noncomputable def depotref09_Has.r0 (K : Nat) : Nat → (((List UInt8) × ((List (List UInt8)) × ((Int) × (Unit)))) × (Unit)) → Option (((Unit) × (Unit)) ⊕ (((Bool) × (Unit)) × (Unit))) :=
  loopV [(.exit 0, { regs := [] }), (.ret, { regs := [(6, .bool)] })] { regs := [(2, .str), (7, (.list .str)), (8, (.int .i64))] } (interp (depotref09_Has.env.at K) depotref09_Has.hint (callF (depotref09_Has.env.at K) 7) (Code.sub [1, 1, 0, 1, 0, 0] (Tryd.f55.body.getD .skip)) _)
theorem depotref09_Has.s0 (K n : Nat) (x : (((List UInt8) × ((List (List UInt8)) × ((Int) × (Unit)))) × (Unit))) : depotref09_Has.r0 K (n + 1) x = depotref09_Has.t0 K (depotref09_Has.r0 K n) x := by kernel_rfl
theorem depotref09_Has.e0 (K n : Nat) : depotref09_Has.r0 K n = depotref09_Has.l0 K n := by
  induction n with
  | zero => funext x; rfl
  | succ n ih => funext x; rw [depotref09_Has.s0, ih]; rfl
theorem depotref09_Has.body_eq (K : Nat) (x : depotref09_Has.spec.args.den) : body (depotref09_Has.env.at K) 8 55 depotref09_Has.spec x = depotref09_Has.tr (depotref09_Has.r0 K) K x.1 x.2.1 x.2.2.1 := by kernel_rfl
theorem depotref09_Has.contract : Contract Tryd.prog gl 55 depotref09_Has.spec :=
  contract_of (E := depotref09_Has.env) ⟨TIok_of tiOK, FnsOK_of ⟨⟨Tryd.func55, Tryd.call55⟩, trivial⟩, mixed⟩ (SpecsOK_of (E := depotref09_Has.env) ⟨depotref06_Has.contract, depotref09_All.contract, trivial⟩) Tryd.call55 rfl rfl fun K x r h => by
    rw [depotref09_Has.body_eq, show depotref09_Has.r0 K = depotref09_Has.l0 K from funext (depotref09_Has.e0 K)]; exact h

def depotlaw09_FieldsAsks.spec : Dp.Spec := { args := (.scons (.list (.scons .str (.scons .str .snil))) (.scons .str (.scons .str .snil))), res := .bool, own := false, F := fun K x => depotlaw09_FieldsAsks K x.1 x.2.1 x.2.2.1 }
def depotlaw09_FieldsAsks.hint : Dp.Hint := { n := 68, regions := [(1, [(.normal, { regs := [(0, (.list (.scons .str (.scons .str .snil)))), (1, .str), (2, .str), (23, .bool)] })])] }
noncomputable def depotlaw09_FieldsAsks.env : Dp.Env := { ti := ti, gl := gl, fns := [(11, Tryd.f11, depotlaw09_FieldsAsks.hint)], specs := [(20, depotref06_Same.spec), (15, depotref09_Few.spec), (52, fields_All.spec), (50, fields_Get.spec), (54, fields_Has.spec), (43, depotlaw09_heads.spec), (53, depotref09_All.spec), (51, depotref09_Get.spec), (55, depotref09_Has.spec)], K := 0 }
theorem depotlaw09_FieldsAsks.body_eq (K : Nat) (x : depotlaw09_FieldsAsks.spec.args.den) : body (depotlaw09_FieldsAsks.env.at K) 8 11 depotlaw09_FieldsAsks.spec x = depotlaw09_FieldsAsks K x.1 x.2.1 x.2.2.1 := by kernel_rfl
theorem depotlaw09_FieldsAsks.contract : Contract Tryd.prog gl 11 depotlaw09_FieldsAsks.spec :=
  contract_of (E := depotlaw09_FieldsAsks.env) ⟨TIok_of tiOK, FnsOK_of ⟨⟨Tryd.func11, Tryd.call11⟩, trivial⟩, mixed⟩ (SpecsOK_of (E := depotlaw09_FieldsAsks.env) ⟨depotref06_Same.contract, depotref09_Few.contract, fields_All.contract, fields_Get.contract, fields_Has.contract, depotlaw09_heads.contract, depotref09_All.contract, depotref09_Get.contract, depotref09_Has.contract, trivial⟩) Tryd.call11 rfl rfl fun K x r h => by
    rw [depotlaw09_FieldsAsks.body_eq]; exact h

def depotref09_Drop.spec : Dp.Spec := { args := (.scons (.list (.scons .str (.scons .str .snil))) (.scons (.list .str) .snil)), res := (.list (.scons .str (.scons .str .snil))), own := false, F := fun K x => depotref09_Drop K x.1 x.2.1 }
def depotref09_Drop.hint : Dp.Hint := { n := 44, conds := [(35, [(.normal, { regs := [(0, (.list (.scons .str (.scons .str .snil)))), (1, (.list .str)), (5, (.slw 1)), (6, (.int .i64))], heap := [(.row (.scons .str (.scons .str .snil))), (.row (.scons .str (.scons .str .snil)))], app := [1] })])], regions := [(9, [(.normal, { regs := [(0, (.list (.scons .str (.scons .str .snil)))), (1, (.list .str)), (5, (.slw 1)), (6, (.int .i64)), (7, .bool), (8, (.int .i64))], heap := [(.row (.scons .str (.scons .str .snil))), (.row (.scons .str (.scons .str .snil)))], app := [1] })])], loops := [(3, { regs := [(0, (.list (.scons .str (.scons .str .snil)))), (1, (.list .str)), (5, (.slw 1)), (6, (.int .i64))], heap := [(.row (.scons .str (.scons .str .snil))), (.row (.scons .str (.scons .str .snil)))], app := [1] }, [(.exit 0, { regs := [(5, (.slw 1))], heap := [(.row (.scons .str (.scons .str .snil))), (.row (.scons .str (.scons .str .snil)))], app := [1] })]), (7, { regs := [(0, (.list (.scons .str (.scons .str .snil)))), (1, (.list .str)), (5, (.slw 1)), (6, (.int .i64)), (7, .bool), (8, (.int .i64))], heap := [(.row (.scons .str (.scons .str .snil))), (.row (.scons .str (.scons .str .snil)))], app := [1] }, [(.exit 2, { regs := [(0, (.list (.scons .str (.scons .str .snil)))), (1, (.list .str)), (5, (.slw 1)), (6, (.int .i64)), (7, .bool)], heap := [(.row (.scons .str (.scons .str .snil))), (.row (.scons .str (.scons .str .snil)))], app := [1] })])], own := [4, 5] }
noncomputable def depotref09_Drop.env : Dp.Env := { ti := ti, gl := gl, fns := [(57, Tryd.f57, depotref09_Drop.hint)], specs := [(61, depotref01_Same.spec)], K := 0 }
noncomputable def depotref09_Drop.r0 (K : Nat) : Nat → (((List ((List UInt8) × ((List UInt8) × (Unit)))) × ((List (List UInt8)) × ((Unit) × ((Int) × ((Bool) × ((Int) × (Unit))))))) × ((List ((List UInt8) × ((List UInt8) × (Unit)))) × ((List ((List UInt8) × ((List UInt8) × (Unit)))) × (Unit)))) → Option ((((List ((List UInt8) × ((List UInt8) × (Unit)))) × ((List (List UInt8)) × ((Unit) × ((Int) × ((Bool) × (Unit)))))) × ((List ((List UInt8) × ((List UInt8) × (Unit)))) × ((List ((List UInt8) × ((List UInt8) × (Unit)))) × (Unit))))) :=
  loopV [(.exit 2, { regs := [(0, (.list (.scons .str (.scons .str .snil)))), (1, (.list .str)), (5, (.slw 1)), (6, (.int .i64)), (7, .bool)], heap := [(.row (.scons .str (.scons .str .snil))), (.row (.scons .str (.scons .str .snil)))], app := [1] })] { regs := [(0, (.list (.scons .str (.scons .str .snil)))), (1, (.list .str)), (5, (.slw 1)), (6, (.int .i64)), (7, .bool), (8, (.int .i64))], heap := [(.row (.scons .str (.scons .str .snil))), (.row (.scons .str (.scons .str .snil)))], app := [1] } (interp (depotref09_Drop.env.at K) depotref09_Drop.hint (callF (depotref09_Drop.env.at K) 7) (Code.sub [1, 1, 0, 1, 0, 0, 1, 0, 0, 1, 0, 1, 0, 0] (Tryd.f57.body.getD .skip)) _)
theorem depotref09_Drop.s0 (K n : Nat) (x : (((List ((List UInt8) × ((List UInt8) × (Unit)))) × ((List (List UInt8)) × ((Unit) × ((Int) × ((Bool) × ((Int) × (Unit))))))) × ((List ((List UInt8) × ((List UInt8) × (Unit)))) × ((List ((List UInt8) × ((List UInt8) × (Unit)))) × (Unit))))) : depotref09_Drop.r0 K (n + 1) x = depotref09_Drop.t0 K (depotref09_Drop.r0 K n) x := by kernel_rfl
theorem depotref09_Drop.e0 (K n : Nat) : depotref09_Drop.r0 K n = depotref09_Drop.l0 K n := by
  induction n with
  | zero => funext x; rfl
  | succ n ih => funext x; rw [depotref09_Drop.s0, ih]; rfl
noncomputable def depotref09_Drop.r1 (K : Nat) : Nat → (((List ((List UInt8) × ((List UInt8) × (Unit)))) × ((List (List UInt8)) × ((Unit) × ((Int) × (Unit))))) × ((List ((List UInt8) × ((List UInt8) × (Unit)))) × ((List ((List UInt8) × ((List UInt8) × (Unit)))) × (Unit)))) → Option ((((Unit) × (Unit)) × ((List ((List UInt8) × ((List UInt8) × (Unit)))) × ((List ((List UInt8) × ((List UInt8) × (Unit)))) × (Unit))))) :=
  loopV [(.exit 0, { regs := [(5, (.slw 1))], heap := [(.row (.scons .str (.scons .str .snil))), (.row (.scons .str (.scons .str .snil)))], app := [1] })] { regs := [(0, (.list (.scons .str (.scons .str .snil)))), (1, (.list .str)), (5, (.slw 1)), (6, (.int .i64))], heap := [(.row (.scons .str (.scons .str .snil))), (.row (.scons .str (.scons .str .snil)))], app := [1] } (interp (depotref09_Drop.env.at K) depotref09_Drop.hint (callF (depotref09_Drop.env.at K) 7) (Code.sub [1, 1, 0, 1, 0, 0] (Tryd.f57.body.getD .skip)) _)
theorem depotref09_Drop.s1 (K n : Nat) (x : (((List ((List UInt8) × ((List UInt8) × (Unit)))) × ((List (List UInt8)) × ((Unit) × ((Int) × (Unit))))) × ((List ((List UInt8) × ((List UInt8) × (Unit)))) × ((List ((List UInt8) × ((List UInt8) × (Unit)))) × (Unit))))) : depotref09_Drop.r1 K (n + 1) x = depotref09_Drop.t1 (depotref09_Drop.r0 K) K (depotref09_Drop.r1 K n) x := by kernel_rfl
theorem depotref09_Drop.e1 (K n : Nat) : depotref09_Drop.r1 K n = depotref09_Drop.l1 K n := by
  induction n with
  | zero => funext x; rfl
  | succ n ih => funext x; rw [depotref09_Drop.s1, ih, show depotref09_Drop.r0 K = depotref09_Drop.l0 K from funext (depotref09_Drop.e0 K)]; rfl
theorem depotref09_Drop.body_eq (K : Nat) (x : depotref09_Drop.spec.args.den) : body (depotref09_Drop.env.at K) 8 57 depotref09_Drop.spec x = depotref09_Drop.tr (depotref09_Drop.r1 K) K x.1 x.2.1 := by kernel_rfl
theorem depotref09_Drop.contract : Contract Tryd.prog gl 57 depotref09_Drop.spec :=
  contract_of (E := depotref09_Drop.env) ⟨TIok_of tiOK, FnsOK_of ⟨⟨Tryd.func57, Tryd.call57⟩, trivial⟩, mixed⟩ (SpecsOK_of (E := depotref09_Drop.env) ⟨depotref01_Same.contract, trivial⟩) Tryd.call57 rfl rfl fun K x r h => by
    rw [depotref09_Drop.body_eq, show depotref09_Drop.r1 K = depotref09_Drop.l1 K from funext (depotref09_Drop.e1 K)]; exact h

def depotref09_Equal.spec : Dp.Spec := { args := (.scons (.list (.scons .str (.scons .str .snil))) (.scons (.list (.scons .str (.scons .str .snil))) .snil)), res := .bool, own := false, F := fun K x => depotref09_Equal K x.1 x.2.1 }
def depotref09_Equal.hint : Dp.Hint := { n := 26, loops := [(4, { regs := [(0, (.list (.scons .str (.scons .str .snil)))), (1, (.list (.scons .str (.scons .str .snil)))), (5, (.int .i64))] }, [(.exit 0, { regs := [] }), (.ret, { regs := [(4, .bool)] })])] }
noncomputable def depotref09_Equal.env : Dp.Env := { ti := ti, gl := gl, fns := [(17, Tryd.f17, depotref09_Equal.hint)], specs := [], K := 0 }
noncomputable def depotref09_Equal.r0 (K : Nat) : Nat → (((List ((List UInt8) × ((List UInt8) × (Unit)))) × ((List ((List UInt8) × ((List UInt8) × (Unit)))) × ((Int) × (Unit)))) × (Unit)) → Option (((Unit) × (Unit)) ⊕ (((Bool) × (Unit)) × (Unit))) :=
  loopV [(.exit 0, { regs := [] }), (.ret, { regs := [(4, .bool)] })] { regs := [(0, (.list (.scons .str (.scons .str .snil)))), (1, (.list (.scons .str (.scons .str .snil)))), (5, (.int .i64))] } (interp (depotref09_Equal.env.at K) depotref09_Equal.hint (callF (depotref09_Equal.env.at K) 7) (Code.sub [1, 1, 0, 1, 0, 0] (Tryd.f17.body.getD .skip)) _)
theorem depotref09_Equal.s0 (K n : Nat) (x : (((List ((List UInt8) × ((List UInt8) × (Unit)))) × ((List ((List UInt8) × ((List UInt8) × (Unit)))) × ((Int) × (Unit)))) × (Unit))) : depotref09_Equal.r0 K (n + 1) x = depotref09_Equal.t0 K (depotref09_Equal.r0 K n) x := by kernel_rfl
theorem depotref09_Equal.e0 (K n : Nat) : depotref09_Equal.r0 K n = depotref09_Equal.l0 K n := by
  induction n with
  | zero => funext x; rfl
  | succ n ih => funext x; rw [depotref09_Equal.s0, ih]; rfl
theorem depotref09_Equal.body_eq (K : Nat) (x : depotref09_Equal.spec.args.den) : body (depotref09_Equal.env.at K) 8 17 depotref09_Equal.spec x = depotref09_Equal.tr (depotref09_Equal.r0 K) K x.1 x.2.1 := by kernel_rfl
theorem depotref09_Equal.contract : Contract Tryd.prog gl 17 depotref09_Equal.spec :=
  contract_of (E := depotref09_Equal.env) ⟨TIok_of tiOK, FnsOK_of ⟨⟨Tryd.func17, Tryd.call17⟩, trivial⟩, mixed⟩ (SpecsOK_of (E := depotref09_Equal.env) trivial) Tryd.call17 rfl rfl fun K x r h => by
    rw [depotref09_Equal.body_eq, show depotref09_Equal.r0 K = depotref09_Equal.l0 K from funext (depotref09_Equal.e0 K)]; exact h

def depotref09_Set.spec : Dp.Spec := { args := (.scons (.list (.scons .str (.scons .str .snil))) (.scons (.scons .str (.scons .str .snil)) .snil)), res := (.list (.scons .str (.scons .str .snil))), own := false, F := fun K x => depotref09_Set K x.1 x.2.1 }
def depotref09_Set.hint : Dp.Hint := { n := 43, conds := [(22, [(.normal, { regs := [(0, (.list (.scons .str (.scons .str .snil)))), (3, (.ref (.scons .str (.scons .str .snil)))), (5, (.slw 1)), (6, .bool), (7, (.int .i64))], heap := [(.row (.scons .str (.scons .str .snil))), (.row (.scons .str (.scons .str .snil)))], app := [1] })]), (31, [(.normal, { regs := [(0, (.list (.scons .str (.scons .str .snil)))), (3, (.ref (.scons .str (.scons .str .snil)))), (5, (.slw 1)), (6, .bool), (7, (.int .i64))], heap := [(.row (.scons .str (.scons .str .snil))), (.row (.scons .str (.scons .str .snil)))], app := [1] })])], loops := [(4, { regs := [(0, (.list (.scons .str (.scons .str .snil)))), (3, (.ref (.scons .str (.scons .str .snil)))), (5, (.slw 1)), (6, .bool), (7, (.int .i64))], heap := [(.row (.scons .str (.scons .str .snil))), (.row (.scons .str (.scons .str .snil)))], app := [1] }, [(.exit 0, { regs := [(3, (.ref (.scons .str (.scons .str .snil)))), (5, (.slw 1)), (6, .bool)], heap := [(.row (.scons .str (.scons .str .snil))), (.row (.scons .str (.scons .str .snil)))], app := [1] })])], own := [4, 5], imm := [3] }
noncomputable def depotref09_Set.env : Dp.Env := { ti := ti, gl := gl, fns := [(59, Tryd.f59, depotref09_Set.hint)], specs := [(61, depotref01_Same.spec)], K := 0 }
noncomputable def depotref09_Set.r0 (K : Nat) : Nat → (((List ((List UInt8) × ((List UInt8) × (Unit)))) × (((List UInt8) × ((List UInt8) × (Unit))) × ((Unit) × ((Bool) × ((Int) × (Unit)))))) × ((List ((List UInt8) × ((List UInt8) × (Unit)))) × ((List ((List UInt8) × ((List UInt8) × (Unit)))) × (Unit)))) → Option (((((List UInt8) × ((List UInt8) × (Unit))) × ((Unit) × ((Bool) × (Unit)))) × ((List ((List UInt8) × ((List UInt8) × (Unit)))) × ((List ((List UInt8) × ((List UInt8) × (Unit)))) × (Unit))))) :=
  loopV [(.exit 0, { regs := [(3, (.ref (.scons .str (.scons .str .snil)))), (5, (.slw 1)), (6, .bool)], heap := [(.row (.scons .str (.scons .str .snil))), (.row (.scons .str (.scons .str .snil)))], app := [1] })] { regs := [(0, (.list (.scons .str (.scons .str .snil)))), (3, (.ref (.scons .str (.scons .str .snil)))), (5, (.slw 1)), (6, .bool), (7, (.int .i64))], heap := [(.row (.scons .str (.scons .str .snil))), (.row (.scons .str (.scons .str .snil)))], app := [1] } (interp (depotref09_Set.env.at K) depotref09_Set.hint (callF (depotref09_Set.env.at K) 7) (Code.sub [1, 1, 1, 0, 1, 0, 0] (Tryd.f59.body.getD .skip)) _)
theorem depotref09_Set.s0 (K n : Nat) (x : (((List ((List UInt8) × ((List UInt8) × (Unit)))) × (((List UInt8) × ((List UInt8) × (Unit))) × ((Unit) × ((Bool) × ((Int) × (Unit)))))) × ((List ((List UInt8) × ((List UInt8) × (Unit)))) × ((List ((List UInt8) × ((List UInt8) × (Unit)))) × (Unit))))) : depotref09_Set.r0 K (n + 1) x = depotref09_Set.t0 K (depotref09_Set.r0 K n) x := by kernel_rfl
theorem depotref09_Set.e0 (K n : Nat) : depotref09_Set.r0 K n = depotref09_Set.l0 K n := by
  induction n with
  | zero => funext x; rfl
  | succ n ih => funext x; rw [depotref09_Set.s0, ih]; rfl
theorem depotref09_Set.body_eq (K : Nat) (x : depotref09_Set.spec.args.den) : body (depotref09_Set.env.at K) 8 59 depotref09_Set.spec x = depotref09_Set.tr (depotref09_Set.r0 K) K x.1 x.2.1 := by kernel_rfl
theorem depotref09_Set.contract : Contract Tryd.prog gl 59 depotref09_Set.spec :=
  contract_of (E := depotref09_Set.env) ⟨TIok_of tiOK, FnsOK_of ⟨⟨Tryd.func59, Tryd.call59⟩, trivial⟩, mixed⟩ (SpecsOK_of (E := depotref09_Set.env) ⟨depotref01_Same.contract, trivial⟩) Tryd.call59 rfl rfl fun K x r h => by
    rw [depotref09_Set.body_eq, show depotref09_Set.r0 K = depotref09_Set.l0 K from funext (depotref09_Set.e0 K)]; exact h

def depotref09_Same.spec : Dp.Spec := { args := (.scons (.list (.scons .str (.scons .str .snil))) (.scons (.list (.scons .str (.scons .str .snil))) .snil)), res := .bool, own := false, F := fun K x => depotref09_Same K x.1 x.2.1 }
def depotref09_Same.hint : Dp.Hint := { n := 42, regions := [(6, [(.normal, { regs := [(0, (.list (.scons .str (.scons .str .snil)))), (1, (.list (.scons .str (.scons .str .snil)))), (5, (.int .i64)), (41, .bool)] })])], loops := [(4, { regs := [(0, (.list (.scons .str (.scons .str .snil)))), (1, (.list (.scons .str (.scons .str .snil)))), (5, (.int .i64))] }, [(.exit 0, { regs := [] }), (.ret, { regs := [(4, .bool)] })])] }
noncomputable def depotref09_Same.env : Dp.Env := { ti := ti, gl := gl, fns := [(60, Tryd.f60, depotref09_Same.hint)], specs := [(61, depotref01_Same.spec)], K := 0 }
noncomputable def depotref09_Same.r0 (K : Nat) : Nat → (((List ((List UInt8) × ((List UInt8) × (Unit)))) × ((List ((List UInt8) × ((List UInt8) × (Unit)))) × ((Int) × (Unit)))) × (Unit)) → Option (((Unit) × (Unit)) ⊕ (((Bool) × (Unit)) × (Unit))) :=
  loopV [(.exit 0, { regs := [] }), (.ret, { regs := [(4, .bool)] })] { regs := [(0, (.list (.scons .str (.scons .str .snil)))), (1, (.list (.scons .str (.scons .str .snil)))), (5, (.int .i64))] } (interp (depotref09_Same.env.at K) depotref09_Same.hint (callF (depotref09_Same.env.at K) 7) (Code.sub [1, 1, 0, 1, 0, 0] (Tryd.f60.body.getD .skip)) _)
theorem depotref09_Same.s0 (K n : Nat) (x : (((List ((List UInt8) × ((List UInt8) × (Unit)))) × ((List ((List UInt8) × ((List UInt8) × (Unit)))) × ((Int) × (Unit)))) × (Unit))) : depotref09_Same.r0 K (n + 1) x = depotref09_Same.t0 K (depotref09_Same.r0 K n) x := by kernel_rfl
theorem depotref09_Same.e0 (K n : Nat) : depotref09_Same.r0 K n = depotref09_Same.l0 K n := by
  induction n with
  | zero => funext x; rfl
  | succ n ih => funext x; rw [depotref09_Same.s0, ih]; rfl
theorem depotref09_Same.body_eq (K : Nat) (x : depotref09_Same.spec.args.den) : body (depotref09_Same.env.at K) 8 60 depotref09_Same.spec x = depotref09_Same.tr (depotref09_Same.r0 K) K x.1 x.2.1 := by kernel_rfl
theorem depotref09_Same.contract : Contract Tryd.prog gl 60 depotref09_Same.spec :=
  contract_of (E := depotref09_Same.env) ⟨TIok_of tiOK, FnsOK_of ⟨⟨Tryd.func60, Tryd.call60⟩, trivial⟩, mixed⟩ (SpecsOK_of (E := depotref09_Same.env) ⟨depotref01_Same.contract, trivial⟩) Tryd.call60 rfl rfl fun K x r h => by
    rw [depotref09_Same.body_eq, show depotref09_Same.r0 K = depotref09_Same.l0 K from funext (depotref09_Same.e0 K)]; exact h

def depotlaw09_FieldsTurns.spec : Dp.Spec := { args := (.scons (.list (.scons .str (.scons .str .snil))) (.scons (.list .str) (.scons (.scons .str (.scons .str .snil)) (.scons (.list (.scons .str (.scons .str .snil))) .snil)))), res := .bool, own := false, F := fun K x => depotlaw09_FieldsTurns K x.1 x.2.1 x.2.2.1 x.2.2.2.1 }
def depotlaw09_FieldsTurns.hint : Dp.Hint := { n := 57, regions := [(1, [(.normal, { regs := [(0, (.list (.scons .str (.scons .str .snil)))), (1, (.list .str)), (3, (.list (.scons .str (.scons .str .snil)))), (6, (.ref (.scons .str (.scons .str .snil)))), (27, .bool)] })])], imm := [6] }
noncomputable def depotlaw09_FieldsTurns.env : Dp.Env := { ti := ti, gl := gl, fns := [(12, Tryd.f12, depotlaw09_FieldsTurns.hint)], specs := [(15, depotref09_Few.spec), (56, fields_Drop.spec), (58, fields_Set.spec), (26, fields_Same.spec), (43, depotlaw09_heads.spec), (57, depotref09_Drop.spec), (17, depotref09_Equal.spec), (59, depotref09_Set.spec), (60, depotref09_Same.spec)], K := 0 }
theorem depotlaw09_FieldsTurns.body_eq (K : Nat) (x : depotlaw09_FieldsTurns.spec.args.den) : body (depotlaw09_FieldsTurns.env.at K) 8 12 depotlaw09_FieldsTurns.spec x = depotlaw09_FieldsTurns K x.1 x.2.1 x.2.2.1 x.2.2.2.1 := by kernel_rfl
theorem depotlaw09_FieldsTurns.contract : Contract Tryd.prog gl 12 depotlaw09_FieldsTurns.spec :=
  contract_of (E := depotlaw09_FieldsTurns.env) ⟨TIok_of tiOK, FnsOK_of ⟨⟨Tryd.func12, Tryd.call12⟩, trivial⟩, mixed⟩ (SpecsOK_of (E := depotlaw09_FieldsTurns.env) ⟨depotref09_Few.contract, fields_Drop.contract, fields_Set.contract, fields_Same.contract, depotlaw09_heads.contract, depotref09_Drop.contract, depotref09_Equal.contract, depotref09_Set.contract, depotref09_Same.contract, trivial⟩) Tryd.call12 rfl rfl fun K x r h => by
    rw [depotlaw09_FieldsTurns.body_eq]; exact h

def depotlaw09_FieldsBack.spec : Dp.Spec := { args := (.scons (.list (.scons .str (.scons .str .snil))) (.scons .str .snil)), res := .bool, own := false, F := fun K x => depotlaw09_FieldsBack K x.1 x.2.1 }
def depotlaw09_FieldsBack.hint : Dp.Hint := { n := 62, regions := [(1, [(.normal, { regs := [(0, (.list (.scons .str (.scons .str .snil)))), (1, .str), (17, .bool)] })]), (4, [(.normal, { regs := [(0, (.list (.scons .str (.scons .str .snil)))), (31, .bool)], heap := [(.scons .str (.scons .str .snil))] })]), (12, [(.normal, { regs := [(0, (.list (.scons .str (.scons .str .snil)))), (7, (.int .i64)), (60, .bool)], heap := [(.scons .str (.scons .str .snil)), (.scons .str (.scons .str .snil))] })])], loops := [(9, { regs := [(0, (.list (.scons .str (.scons .str .snil)))), (7, (.int .i64))], heap := [(.scons .str (.scons .str .snil))] }, [(.exit 0, { regs := [], heap := [(.scons .str (.scons .str .snil))] }), (.ret, { regs := [(4, .bool)], heap := [(.scons .str (.scons .str .snil))] })])] }
noncomputable def depotlaw09_FieldsBack.env : Dp.Env := { ti := ti, gl := gl, fns := [(13, Tryd.f13, depotlaw09_FieldsBack.hint)], specs := [(15, depotref09_Few.spec), (44, fields_Parse.spec), (46, fields_Line.spec), (48, fields_Check.spec), (43, depotlaw09_heads.spec)], K := 0 }
noncomputable def depotlaw09_FieldsBack.r0 (K : Nat) : Nat → (((List ((List UInt8) × ((List UInt8) × (Unit)))) × ((Int) × (Unit))) × (((List UInt8) × ((List UInt8) × (Unit))) × (Unit))) → Option (((Unit) × (((List UInt8) × ((List UInt8) × (Unit))) × (Unit))) ⊕ (((Bool) × (Unit)) × (((List UInt8) × ((List UInt8) × (Unit))) × (Unit)))) :=
  loopV [(.exit 0, { regs := [], heap := [(.scons .str (.scons .str .snil))] }), (.ret, { regs := [(4, .bool)], heap := [(.scons .str (.scons .str .snil))] })] { regs := [(0, (.list (.scons .str (.scons .str .snil)))), (7, (.int .i64))], heap := [(.scons .str (.scons .str .snil))] } (interp (depotlaw09_FieldsBack.env.at K) depotlaw09_FieldsBack.hint (callF (depotlaw09_FieldsBack.env.at K) 7) (Code.sub [1, 1, 1, 1, 1, 0, 1, 0, 0] (Tryd.f13.body.getD .skip)) _)
theorem depotlaw09_FieldsBack.s0 (K n : Nat) (x : (((List ((List UInt8) × ((List UInt8) × (Unit)))) × ((Int) × (Unit))) × (((List UInt8) × ((List UInt8) × (Unit))) × (Unit)))) : depotlaw09_FieldsBack.r0 K (n + 1) x = depotlaw09_FieldsBack.t0 K (depotlaw09_FieldsBack.r0 K n) x := by kernel_rfl
theorem depotlaw09_FieldsBack.e0 (K n : Nat) : depotlaw09_FieldsBack.r0 K n = depotlaw09_FieldsBack.l0 K n := by
  induction n with
  | zero => funext x; rfl
  | succ n ih => funext x; rw [depotlaw09_FieldsBack.s0, ih]; rfl
theorem depotlaw09_FieldsBack.body_eq (K : Nat) (x : depotlaw09_FieldsBack.spec.args.den) : body (depotlaw09_FieldsBack.env.at K) 8 13 depotlaw09_FieldsBack.spec x = depotlaw09_FieldsBack.tr (depotlaw09_FieldsBack.r0 K) K x.1 x.2.1 := by kernel_rfl
theorem depotlaw09_FieldsBack.contract : Contract Tryd.prog gl 13 depotlaw09_FieldsBack.spec :=
  contract_of (E := depotlaw09_FieldsBack.env) ⟨TIok_of tiOK, FnsOK_of ⟨⟨Tryd.func13, Tryd.call13⟩, trivial⟩, mixed⟩ (SpecsOK_of (E := depotlaw09_FieldsBack.env) ⟨depotref09_Few.contract, fields_Parse.contract, fields_Line.contract, fields_Check.contract, depotlaw09_heads.contract, trivial⟩) Tryd.call13 rfl rfl fun K x r h => by
    rw [depotlaw09_FieldsBack.body_eq, show depotlaw09_FieldsBack.r0 K = depotlaw09_FieldsBack.l0 K from funext (depotlaw09_FieldsBack.e0 K)]; exact h

def depotlaw09_FieldsSets.spec : Dp.Spec := { args := (.scons (.list (.scons .str (.scons .str .snil))) (.scons (.scons .str (.scons .str .snil)) (.scons .str .snil))), res := .bool, own := false, F := fun K x => depotlaw09_FieldsSets K x.1 x.2.1 x.2.2.1 }
def depotlaw09_FieldsSets.hint : Dp.Hint := { n := 106, regions := [(1, [(.normal, { regs := [(0, (.list (.scons .str (.scons .str .snil)))), (2, .str), (4, (.ref (.scons .str (.scons .str .snil)))), (27, .bool)] })]), (6, [(.normal, { regs := [(0, (.list (.scons .str (.scons .str .snil)))), (2, .str), (4, (.ref (.scons .str (.scons .str .snil)))), (7, (.list (.scons .str (.scons .str .snil)))), (8, (.list (.scons .str (.scons .str .snil)))), (73, .bool)] })])], imm := [4] }
noncomputable def depotlaw09_FieldsSets.env : Dp.Env := { ti := ti, gl := gl, fns := [(14, Tryd.f14, depotlaw09_FieldsSets.hint)], specs := [(20, depotref06_Same.spec), (25, octet_Same.spec), (15, depotref09_Few.spec), (52, fields_All.spec), (50, fields_Get.spec), (56, fields_Drop.spec), (58, fields_Set.spec), (26, fields_Same.spec), (43, depotlaw09_heads.spec)], K := 0 }
theorem depotlaw09_FieldsSets.body_eq (K : Nat) (x : depotlaw09_FieldsSets.spec.args.den) : body (depotlaw09_FieldsSets.env.at K) 8 14 depotlaw09_FieldsSets.spec x = depotlaw09_FieldsSets K x.1 x.2.1 x.2.2.1 := by kernel_rfl
theorem depotlaw09_FieldsSets.contract : Contract Tryd.prog gl 14 depotlaw09_FieldsSets.spec :=
  contract_of (E := depotlaw09_FieldsSets.env) ⟨TIok_of tiOK, FnsOK_of ⟨⟨Tryd.func14, Tryd.call14⟩, trivial⟩, mixed⟩ (SpecsOK_of (E := depotlaw09_FieldsSets.env) ⟨depotref06_Same.contract, octet_Same.contract, depotref09_Few.contract, fields_All.contract, fields_Get.contract, fields_Drop.contract, fields_Set.contract, fields_Same.contract, depotlaw09_heads.contract, trivial⟩) Tryd.call14 rfl rfl fun K x r h => by
    rw [depotlaw09_FieldsSets.body_eq]; exact h

end Go.Proofs.X