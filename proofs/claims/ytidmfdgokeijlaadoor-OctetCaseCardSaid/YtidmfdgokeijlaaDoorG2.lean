/-
  A part of the proof. No condition.
-/
import Derived.Test.YtidmfdgokeijlaaDoorG1
import Derived.Test.YtidmfdgokeijlaaDoorS1
import Derived.Test.YtidmfdgokeijlaaDoorChecked
import Derived.KernelRfl
import Derived.Eval
set_option linter.unusedVariables false
namespace Go.Proofs.X
open Go Go.Dp

def ti : List (Nat × TI) := [(1, ⟨.fn, 1, 8, .nilf⟩),
  (2, ⟨.int .i64, 1, 8, (.int .i64)⟩),
  (3, ⟨.int .i64, 1, 8, (.int .i64)⟩),
  (4, ⟨.bool, 1, 1, .bool⟩),
  (5, ⟨.int .u8, 1, 1, (.int .u8)⟩),
  (6, ⟨.int .u8, 1, 1, (.int .u8)⟩),
  (7, ⟨.struct [(2, 0), (3, 1), (4, 2), (6, 3)], 4, 24, (.scons (.int .i64) (.scons (.int .i64) (.scons .bool (.scons (.int .u8) .snil))))⟩),
  (8, ⟨.struct [(2, 0), (3, 1), (4, 2), (6, 3)], 4, 24, (.scons (.int .i64) (.scons (.int .i64) (.scons .bool (.scons (.int .u8) .snil))))⟩),
  (9, ⟨.str, 1, 16, .str⟩),
  (10, ⟨.str, 1, 16, .str⟩),
  (11, ⟨.str, 1, 16, .str⟩),
  (12, ⟨.int .u64, 1, 8, (.int .u64)⟩),
  (13, ⟨.struct [(9, 0), (12, 1)], 2, 24, (.scons .str (.scons (.int .u64) .snil))⟩),
  (14, ⟨.struct [(9, 0), (12, 1)], 2, 24, (.scons .str (.scons (.int .u64) .snil))⟩),
  (15, ⟨.ptr 64, 1, 8, .nilp⟩),
  (16, ⟨.ptr 67, 1, 8, .nilp⟩),
  (17, ⟨.ptr 77, 1, 8, .nilp⟩),
  (18, ⟨.struct [(17, 0)], 1, 8, (.scons .nilp .snil)⟩),
  (19, ⟨.struct [(17, 0)], 1, 8, (.scons .nilp .snil)⟩),
  (20, ⟨.iface false, 1, 16, .nili⟩),
  (21, ⟨.int .i32, 1, 4, (.int .i32)⟩),
  (23, ⟨.fn, 1, 8, .nilf⟩),
  (24, ⟨.fn, 1, 8, .nilf⟩),
  (25, ⟨.fn, 1, 8, .nilf⟩),
  (27, ⟨.fn, 1, 8, .nilf⟩),
  (28, ⟨.fn, 1, 8, .nilf⟩),
  (29, ⟨.fn, 1, 8, .nilf⟩),
  (30, ⟨.fn, 1, 8, .nilf⟩),
  (31, ⟨.fn, 1, 8, .nilf⟩),
  (32, ⟨.fn, 1, 8, .nilf⟩),
  (33, ⟨.slice 5, 1, 24, (.list (.int .u8))⟩),
  (34, ⟨.fn, 1, 8, .nilf⟩),
  (35, ⟨.fn, 1, 8, .nilf⟩),
  (36, ⟨.fn, 1, 8, .nilf⟩),
  (37, ⟨.fn, 1, 8, .nilf⟩),
  (38, ⟨.fn, 1, 8, .nilf⟩),
  (39, ⟨.fn, 1, 8, .nilf⟩),
  (40, ⟨.fn, 1, 8, .nilf⟩),
  (41, ⟨.fn, 1, 8, .nilf⟩),
  (42, ⟨.slice 36, 1, 24, (.list .nilf)⟩),
  (43, ⟨.fn, 1, 8, .nilf⟩),
  (44, ⟨.arr 256 4, 256, 256, (.arr 256 .bool)⟩),
  (45, ⟨.arr 256 4, 256, 256, (.arr 256 .bool)⟩),
  (47, ⟨.fn, 1, 8, .nilf⟩),
  (48, ⟨.fn, 1, 8, .nilf⟩),
  (49, ⟨.ptr 45, 1, 8, .nilp⟩),
  (51, ⟨.fn, 1, 8, .nilf⟩),
  (52, ⟨.fn, 1, 8, .nilf⟩),
  (53, ⟨.fn, 1, 8, .nilf⟩),
  (54, ⟨.arr 256 5, 256, 256, (.arr 256 (.int .u8))⟩),
  (55, ⟨.int .u64, 1, 8, (.int .u64)⟩),
  (56, ⟨.struct [(5, 0), (5, 1)], 2, 2, (.scons (.int .u8) (.scons (.int .u8) .snil))⟩),
  (57, ⟨.struct [(5, 0), (5, 1)], 2, 2, (.scons (.int .u8) (.scons (.int .u8) .snil))⟩),
  (58, ⟨.arr 16 57, 32, 32, (.arr 16 (.scons (.int .u8) (.scons (.int .u8) .snil)))⟩),
  (59, ⟨.fn, 1, 8, .nilf⟩),
  (60, ⟨.fn, 1, 8, .nilf⟩),
  (61, ⟨.fn, 1, 8, .nilf⟩),
  (62, ⟨.fn, 1, 8, .nilf⟩),
  (63, ⟨.struct [(17, 0), (17, 1), (17, 2), (9, 3)], 4, 40, (.scons .nilp (.scons .nilp (.scons .nilp (.scons .str .snil))))⟩),
  (64, ⟨.struct [(17, 0), (17, 1), (17, 2), (9, 3)], 4, 40, (.scons .nilp (.scons .nilp (.scons .nilp (.scons .str .snil))))⟩),
  (65, ⟨.arr 0 16, 0, 0, (.arr 0 .nilp)⟩),
  (66, ⟨.struct [(65, 0)], 0, 0, (.scons (.arr 0 .nilp) .snil)⟩),
  (67, ⟨.struct [(65, 0)], 0, 0, (.scons (.arr 0 .nilp) .snil)⟩),
  (68, ⟨.fn, 1, 8, .nilf⟩),
  (69, ⟨.int .u32, 1, 4, (.int .u32)⟩),
  (70, ⟨.int .u8, 1, 1, (.int .u8)⟩),
  (71, ⟨.int .u8, 1, 1, (.int .u8)⟩),
  (72, ⟨.fn, 1, 8, .nilf⟩),
  (73, ⟨.ptr 5, 1, 8, .nilp⟩),
  (74, ⟨.int .i32, 1, 4, (.int .i32)⟩),
  (75, ⟨.int .i32, 1, 4, (.int .i32)⟩),
  (76, ⟨.struct [(12, 0), (12, 1), (69, 2), (70, 3), (5, 4), (5, 5), (71, 6), (72, 7), (73, 8), (74, 9), (75, 10)], 11, 48, (.scons (.int .u64) (.scons (.int .u64) (.scons (.int .u32) (.scons (.int .u8) (.scons (.int .u8) (.scons (.int .u8) (.scons (.int .u8) (.scons .nilf (.scons .nilp (.scons (.int .i32) (.scons (.int .i32) .snil)))))))))))⟩),
  (77, ⟨.struct [(12, 0), (12, 1), (69, 2), (70, 3), (5, 4), (5, 5), (71, 6), (72, 7), (73, 8), (74, 9), (75, 10)], 11, 48, (.scons (.int .u64) (.scons (.int .u64) (.scons (.int .u32) (.scons (.int .u8) (.scons (.int .u8) (.scons (.int .u8) (.scons (.int .u8) (.scons .nilf (.scons .nilp (.scons (.int .i32) (.scons (.int .i32) .snil)))))))))))⟩)]
def gl : List (Nat × TV) := []
theorem tiOK : ti.all (fun p => tiOK1 Tryd.prog p.1 p.2) = true := by kernel_rfl
theorem mixed : Tryd.prog.follows .mixedOrders = true := Checked.mixed Tryd.checked

def ixb.spec : Dp.Spec := indexByteSpec
def asciiSet.spec : Dp.Spec := asciiSetSpec
theorem ixb.contract : Contract Tryd.prog gl 46 ixb.spec := indexByte_contract Tryd.func46 (by decide +kernel) rfl (by kernel_rfl) (by kernel_rfl)
theorem asciiSet.contract : Contract Tryd.prog gl 41 asciiSet.spec := asciiSet_ok
def octet_from.spec : Dp.Spec := { args := (.scons (.int .u8) (.scons (.int .u8) .snil)), res := (.fn 36 (.scons (.ref (.int .u8)) (.scons (.ref (.int .u8)) .snil))), own := false, F := fun K x => octet_from K x.1 x.2.1 }
def octet_from.hint : Dp.Hint := { n := 6, imm := [2, 3] }
noncomputable def octet_from.env : Dp.Env := { ti := ti, gl := gl, fns := [(30, Tryd.f30, octet_from.hint)], specs := [], K := 0 }
theorem octet_from.body_eq (K : Nat) (x : octet_from.spec.args.den) : body (octet_from.env.at K) 8 30 octet_from.spec x = octet_from K x.1 x.2.1 := by kernel_rfl
theorem octet_from.contract : Contract Tryd.prog gl 30 octet_from.spec :=
  contract_of (E := octet_from.env) ⟨TIok_of tiOK, FnsOK_of ⟨⟨Tryd.func30, Tryd.call30⟩, trivial⟩, mixed⟩ (SpecsOK_of (E := octet_from.env) trivial) Tryd.call30 rfl rfl fun K x r h => by
    rw [octet_from.body_eq]; exact h

def octet_from_c1.spec : Dp.Spec := { args := (.scons (.int .u8) (.scons (.ref (.int .u8)) (.scons (.ref (.int .u8)) .snil))), res := .bool, own := false, F := fun K x => octet_from_c1 K x.1 x.2.1 x.2.2.1 }
def octet_from_c1.hint : Dp.Hint := { n := 13 }
noncomputable def octet_from_c1.env : Dp.Env := { ti := ti, gl := gl, fns := [(36, Tryd.f36, octet_from_c1.hint)], specs := [], K := 0 }
theorem octet_from_c1.body_eq (K : Nat) (x : octet_from_c1.spec.args.den) : body (octet_from_c1.env.at K) 8 36 octet_from_c1.spec x = octet_from_c1 K x.1 x.2.1 x.2.2.1 := by kernel_rfl
theorem octet_from_c1.contract : Contract Tryd.prog gl 36 octet_from_c1.spec :=
  contract_of (E := octet_from_c1.env) ⟨TIok_of tiOK, FnsOK_of ⟨⟨Tryd.func36, Tryd.call36⟩, trivial⟩, mixed⟩ (SpecsOK_of (E := octet_from_c1.env) trivial) Tryd.call36 rfl rfl fun K x r h => by
    rw [octet_from_c1.body_eq]; exact h

def octet_is__from_c1.spec : Dp.Spec := { args := (.scons (.int .u8) (.scons (.hl (.scons (.fn 36 (.scons (.ref (.int .u8)) (.scons (.ref (.int .u8)) .snil))) .snil)) .snil)), res := .bool, own := false, F := fun K x => octet_is__from_c1 K x.1 x.2.1 }
def octet_is__from_c1.hint : Dp.Hint := { n := 17 }
noncomputable def octet_is__from_c1.env : Dp.Env := { ti := ti, gl := gl, fns := [(29, Tryd.f29, octet_is__from_c1.hint)], specs := [(36, octet_from_c1.spec)], K := 0 }
theorem octet_is__from_c1.body_eq (K : Nat) (x : octet_is__from_c1.spec.args.den) : body (octet_is__from_c1.env.at K) 8 29 octet_is__from_c1.spec x = octet_is__from_c1 K x.1 x.2.1 := by kernel_rfl
theorem octet_is__from_c1.contract : Contract Tryd.prog gl 29 octet_is__from_c1.spec :=
  contract_of (E := octet_is__from_c1.env) ⟨TIok_of tiOK, FnsOK_of ⟨⟨Tryd.func29, Tryd.call29⟩, trivial⟩, mixed⟩ (SpecsOK_of (E := octet_is__from_c1.env) ⟨octet_from_c1.contract, trivial⟩) Tryd.call29 rfl rfl fun K x r h => by
    rw [octet_is__from_c1.body_eq]; exact h

def octet_Digit.spec : Dp.Spec := { args := (.scons (.int .u8) .snil), res := .bool, own := false, F := fun K x => octet_Digit K x.1 }
def octet_Digit.hint : Dp.Hint := { n := 7 }
noncomputable def octet_Digit.env : Dp.Env := { ti := ti, gl := gl, fns := [(14, Tryd.f14, octet_Digit.hint)], specs := [(30, octet_from.spec), (29, octet_is__from_c1.spec)], K := 0 }
theorem octet_Digit.body_eq (K : Nat) (x : octet_Digit.spec.args.den) : body (octet_Digit.env.at K) 8 14 octet_Digit.spec x = octet_Digit K x.1 := by kernel_rfl
theorem octet_Digit.contract : Contract Tryd.prog gl 14 octet_Digit.spec :=
  contract_of (E := octet_Digit.env) ⟨TIok_of tiOK, FnsOK_of ⟨⟨Tryd.func14, Tryd.call14⟩, trivial⟩, mixed⟩ (SpecsOK_of (E := octet_Digit.env) ⟨octet_from.contract, octet_is__from_c1.contract, trivial⟩) Tryd.call14 rfl rfl fun K x r h => by
    rw [octet_Digit.body_eq]; exact h

def octet_Hex.spec : Dp.Spec := { args := (.scons (.int .u8) .snil), res := (.tup (.scons (.int .i64) (.scons .bool .snil))), own := false, F := fun K x => octet_Hex K x.1 }
def octet_Hex.hint : Dp.Hint := { n := 28 }
noncomputable def octet_Hex.env : Dp.Env := { ti := ti, gl := gl, fns := [(8, Tryd.f8, octet_Hex.hint)], specs := [(30, octet_from.spec), (29, octet_is__from_c1.spec), (14, octet_Digit.spec)], K := 0 }
theorem octet_Hex.body_eq (K : Nat) (x : octet_Hex.spec.args.den) : body (octet_Hex.env.at K) 8 8 octet_Hex.spec x = octet_Hex K x.1 := by kernel_rfl
theorem octet_Hex.contract : Contract Tryd.prog gl 8 octet_Hex.spec :=
  contract_of (E := octet_Hex.env) ⟨TIok_of tiOK, FnsOK_of ⟨⟨Tryd.func8, Tryd.call8⟩, trivial⟩, mixed⟩ (SpecsOK_of (E := octet_Hex.env) ⟨octet_from.contract, octet_is__from_c1.contract, octet_Digit.contract, trivial⟩) Tryd.call8 rfl rfl fun K x r h => by
    rw [octet_Hex.body_eq]; exact h

def depotref01_Hex.spec : Dp.Spec := { args := (.scons (.int .u8) .snil), res := (.tup (.scons (.int .i64) (.scons .bool .snil))), own := false, F := fun K x => depotref01_Hex K x.1 }
def depotref01_Hex.hint : Dp.Hint := { n := 24, regions := [(5, [(.normal, { regs := [(0, (.int .u8)), (4, .str), (5, .str), (6, (.int .i64)), (22, .bool)] })])], loops := [(3, { regs := [(0, (.int .u8)), (4, .str), (5, .str), (6, (.int .i64))] }, [(.exit 0, { regs := [] }), (.ret, { regs := [(2, (.int .i64)), (3, .bool)] })])] }
noncomputable def depotref01_Hex.env : Dp.Env := { ti := ti, gl := gl, fns := [(9, Tryd.f9, depotref01_Hex.hint)], specs := [], K := 0 }
noncomputable def depotref01_Hex.r0 (K : Nat) : Nat → (((Int) × ((List UInt8) × ((List UInt8) × ((Int) × (Unit))))) × (Unit)) → Option (((Unit) × (Unit)) ⊕ (((Int) × ((Bool) × (Unit))) × (Unit))) :=
  loopV [(.exit 0, { regs := [] }), (.ret, { regs := [(2, (.int .i64)), (3, .bool)] })] { regs := [(0, (.int .u8)), (4, .str), (5, .str), (6, (.int .i64))] } (interp (depotref01_Hex.env.at K) depotref01_Hex.hint (callF (depotref01_Hex.env.at K) 7) (Code.sub [1, 1, 0, 1, 0, 0] (Tryd.f9.body.getD .skip)) _)
theorem depotref01_Hex.s0 (K n : Nat) (x : (((Int) × ((List UInt8) × ((List UInt8) × ((Int) × (Unit))))) × (Unit))) : depotref01_Hex.r0 K (n + 1) x = depotref01_Hex.t0 K (depotref01_Hex.r0 K n) x := by kernel_rfl
theorem depotref01_Hex.e0 (K n : Nat) : depotref01_Hex.r0 K n = depotref01_Hex.l0 K n := by
  induction n with
  | zero => funext x; rfl
  | succ n ih => funext x; rw [depotref01_Hex.s0, ih]; rfl
theorem depotref01_Hex.body_eq (K : Nat) (x : depotref01_Hex.spec.args.den) : body (depotref01_Hex.env.at K) 8 9 depotref01_Hex.spec x = depotref01_Hex.tr (depotref01_Hex.r0 K) K x.1 := by kernel_rfl
theorem depotref01_Hex.contract : Contract Tryd.prog gl 9 depotref01_Hex.spec :=
  contract_of (E := depotref01_Hex.env) ⟨TIok_of tiOK, FnsOK_of ⟨⟨Tryd.func9, Tryd.call9⟩, trivial⟩, mixed⟩ (SpecsOK_of (E := depotref01_Hex.env) trivial) Tryd.call9 rfl rfl fun K x r h => by
    rw [depotref01_Hex.body_eq, show depotref01_Hex.r0 K = depotref01_Hex.l0 K from funext (depotref01_Hex.e0 K)]; exact h

def octet_oneOf.spec : Dp.Spec := { args := (.scons .str .snil), res := (.fn 37 (.scons (.ref .str) .snil)), own := false, F := fun K x => octet_oneOf K x.1 }
def octet_oneOf.hint : Dp.Hint := { n := 4, imm := [1] }
noncomputable def octet_oneOf.env : Dp.Env := { ti := ti, gl := gl, fns := [(31, Tryd.f31, octet_oneOf.hint)], specs := [], K := 0 }
theorem octet_oneOf.body_eq (K : Nat) (x : octet_oneOf.spec.args.den) : body (octet_oneOf.env.at K) 8 31 octet_oneOf.spec x = octet_oneOf K x.1 := by kernel_rfl
theorem octet_oneOf.contract : Contract Tryd.prog gl 31 octet_oneOf.spec :=
  contract_of (E := octet_oneOf.env) ⟨TIok_of tiOK, FnsOK_of ⟨⟨Tryd.func31, Tryd.call31⟩, trivial⟩, mixed⟩ (SpecsOK_of (E := octet_oneOf.env) trivial) Tryd.call31 rfl rfl fun K x r h => by
    rw [octet_oneOf.body_eq]; exact h

def stringslite_IndexByte.spec : Dp.Spec := { args := (.scons .str (.scons (.int .u8) .snil)), res := (.int .i64), own := false, F := fun K x => stringslite_IndexByte K x.1 x.2.1 }
def stringslite_IndexByte.hint : Dp.Hint := { n := 8 }
noncomputable def stringslite_IndexByte.env : Dp.Env := { ti := ti, gl := gl, fns := [(38, Tryd.f38, stringslite_IndexByte.hint)], specs := [(46, ixb.spec)], K := 0 }
theorem stringslite_IndexByte.body_eq (K : Nat) (x : stringslite_IndexByte.spec.args.den) : body (stringslite_IndexByte.env.at K) 8 38 stringslite_IndexByte.spec x = stringslite_IndexByte K x.1 x.2.1 := by kernel_rfl
theorem stringslite_IndexByte.contract : Contract Tryd.prog gl 38 stringslite_IndexByte.spec :=
  contract_of (E := stringslite_IndexByte.env) ⟨TIok_of tiOK, FnsOK_of ⟨⟨Tryd.func38, Tryd.call38⟩, trivial⟩, mixed⟩ (SpecsOK_of (E := stringslite_IndexByte.env) ⟨ixb.contract, trivial⟩) Tryd.call38 rfl rfl fun K x r h => by
    rw [stringslite_IndexByte.body_eq]; exact h

def strings_IndexByte.spec : Dp.Spec := { args := (.scons .str (.scons (.int .u8) .snil)), res := (.int .i64), own := false, F := fun K x => strings_IndexByte K x.1 x.2.1 }
def strings_IndexByte.hint : Dp.Hint := { n := 8 }
noncomputable def strings_IndexByte.env : Dp.Env := { ti := ti, gl := gl, fns := [(32, Tryd.f32, strings_IndexByte.hint)], specs := [(38, stringslite_IndexByte.spec)], K := 0 }
theorem strings_IndexByte.body_eq (K : Nat) (x : strings_IndexByte.spec.args.den) : body (strings_IndexByte.env.at K) 8 32 strings_IndexByte.spec x = strings_IndexByte K x.1 x.2.1 := by kernel_rfl
theorem strings_IndexByte.contract : Contract Tryd.prog gl 32 strings_IndexByte.spec :=
  contract_of (E := strings_IndexByte.env) ⟨TIok_of tiOK, FnsOK_of ⟨⟨Tryd.func32, Tryd.call32⟩, trivial⟩, mixed⟩ (SpecsOK_of (E := strings_IndexByte.env) ⟨stringslite_IndexByte.contract, trivial⟩) Tryd.call32 rfl rfl fun K x r h => by
    rw [strings_IndexByte.body_eq]; exact h

def octet_oneOf_c1.spec : Dp.Spec := { args := (.scons (.int .u8) (.scons (.ref .str) .snil)), res := .bool, own := false, F := fun K x => octet_oneOf_c1 K x.1 x.2.1 }
def octet_oneOf_c1.hint : Dp.Hint := { n := 8 }
noncomputable def octet_oneOf_c1.env : Dp.Env := { ti := ti, gl := gl, fns := [(37, Tryd.f37, octet_oneOf_c1.hint)], specs := [(32, strings_IndexByte.spec)], K := 0 }
theorem octet_oneOf_c1.body_eq (K : Nat) (x : octet_oneOf_c1.spec.args.den) : body (octet_oneOf_c1.env.at K) 8 37 octet_oneOf_c1.spec x = octet_oneOf_c1 K x.1 x.2.1 := by kernel_rfl
theorem octet_oneOf_c1.contract : Contract Tryd.prog gl 37 octet_oneOf_c1.spec :=
  contract_of (E := octet_oneOf_c1.env) ⟨TIok_of tiOK, FnsOK_of ⟨⟨Tryd.func37, Tryd.call37⟩, trivial⟩, mixed⟩ (SpecsOK_of (E := octet_oneOf_c1.env) ⟨strings_IndexByte.contract, trivial⟩) Tryd.call37 rfl rfl fun K x r h => by
    rw [octet_oneOf_c1.body_eq]; exact h

def octet_is__Digit_from_c1_from_c1_oneOf_c1.spec : Dp.Spec := { args := (.scons (.int .u8) (.scons (.hl (.scons (.fn 14 .snil) (.scons (.fn 36 (.scons (.ref (.int .u8)) (.scons (.ref (.int .u8)) .snil))) (.scons (.fn 36 (.scons (.ref (.int .u8)) (.scons (.ref (.int .u8)) .snil))) (.scons (.fn 37 (.scons (.ref .str) .snil)) .snil))))) .snil)), res := .bool, own := false, F := fun K x => octet_is__Digit_from_c1_from_c1_oneOf_c1 K x.1 x.2.1 }
def octet_is__Digit_from_c1_from_c1_oneOf_c1.hint : Dp.Hint := { n := 17 }
noncomputable def octet_is__Digit_from_c1_from_c1_oneOf_c1.env : Dp.Env := { ti := ti, gl := gl, fns := [(29, Tryd.f29, octet_is__Digit_from_c1_from_c1_oneOf_c1.hint)], specs := [(36, octet_from_c1.spec), (14, octet_Digit.spec), (37, octet_oneOf_c1.spec)], K := 0 }
theorem octet_is__Digit_from_c1_from_c1_oneOf_c1.body_eq (K : Nat) (x : octet_is__Digit_from_c1_from_c1_oneOf_c1.spec.args.den) : body (octet_is__Digit_from_c1_from_c1_oneOf_c1.env.at K) 8 29 octet_is__Digit_from_c1_from_c1_oneOf_c1.spec x = octet_is__Digit_from_c1_from_c1_oneOf_c1 K x.1 x.2.1 := by kernel_rfl
theorem octet_is__Digit_from_c1_from_c1_oneOf_c1.contract : Contract Tryd.prog gl 29 octet_is__Digit_from_c1_from_c1_oneOf_c1.spec :=
  contract_of (E := octet_is__Digit_from_c1_from_c1_oneOf_c1.env) ⟨TIok_of tiOK, FnsOK_of ⟨⟨Tryd.func29, Tryd.call29⟩, trivial⟩, mixed⟩ (SpecsOK_of (E := octet_is__Digit_from_c1_from_c1_oneOf_c1.env) ⟨octet_from_c1.contract, octet_Digit.contract, octet_oneOf_c1.contract, trivial⟩) Tryd.call29 rfl rfl fun K x r h => by
    rw [octet_is__Digit_from_c1_from_c1_oneOf_c1.body_eq]; exact h

def octet_Token.spec : Dp.Spec := { args := (.scons (.int .u8) .snil), res := .bool, own := false, F := fun K x => octet_Token K x.1 }
def octet_Token.hint : Dp.Hint := { n := 9 }
noncomputable def octet_Token.env : Dp.Env := { ti := ti, gl := gl, fns := [(10, Tryd.f10, octet_Token.hint)], specs := [(30, octet_from.spec), (31, octet_oneOf.spec), (29, octet_is__Digit_from_c1_from_c1_oneOf_c1.spec)], K := 0 }
theorem octet_Token.body_eq (K : Nat) (x : octet_Token.spec.args.den) : body (octet_Token.env.at K) 8 10 octet_Token.spec x = octet_Token K x.1 := by kernel_rfl
theorem octet_Token.contract : Contract Tryd.prog gl 10 octet_Token.spec :=
  contract_of (E := octet_Token.env) ⟨TIok_of tiOK, FnsOK_of ⟨⟨Tryd.func10, Tryd.call10⟩, trivial⟩, mixed⟩ (SpecsOK_of (E := octet_Token.env) ⟨octet_from.contract, octet_oneOf.contract, octet_is__Digit_from_c1_from_c1_oneOf_c1.contract, trivial⟩) Tryd.call10 rfl rfl fun K x r h => by
    rw [octet_Token.body_eq]; exact h

def depotref01_Token.spec : Dp.Spec := { args := (.scons (.int .u8) .snil), res := .bool, own := false, F := fun K x => depotref01_Token K x.1 }
def depotref01_Token.hint : Dp.Hint := { n := 38, regions := [(1, [(.normal, { regs := [(0, (.int .u8)), (26, .bool)] })])], loops := [(5, { regs := [(0, (.int .u8)), (3, .str), (4, (.int .i64))] }, [(.exit 0, { regs := [] }), (.ret, { regs := [(2, .bool)] })])] }
noncomputable def depotref01_Token.env : Dp.Env := { ti := ti, gl := gl, fns := [(11, Tryd.f11, depotref01_Token.hint)], specs := [], K := 0 }
noncomputable def depotref01_Token.r0 (K : Nat) : Nat → (((Int) × ((List UInt8) × ((Int) × (Unit)))) × (Unit)) → Option (((Unit) × (Unit)) ⊕ (((Bool) × (Unit)) × (Unit))) :=
  loopV [(.exit 0, { regs := [] }), (.ret, { regs := [(2, .bool)] })] { regs := [(0, (.int .u8)), (3, .str), (4, (.int .i64))] } (interp (depotref01_Token.env.at K) depotref01_Token.hint (callF (depotref01_Token.env.at K) 7) (Code.sub [1, 1, 1, 0, 1, 0, 0] (Tryd.f11.body.getD .skip)) _)
theorem depotref01_Token.s0 (K n : Nat) (x : (((Int) × ((List UInt8) × ((Int) × (Unit)))) × (Unit))) : depotref01_Token.r0 K (n + 1) x = depotref01_Token.t0 K (depotref01_Token.r0 K n) x := by kernel_rfl
theorem depotref01_Token.e0 (K n : Nat) : depotref01_Token.r0 K n = depotref01_Token.l0 K n := by
  induction n with
  | zero => funext x; rfl
  | succ n ih => funext x; rw [depotref01_Token.s0, ih]; rfl
theorem depotref01_Token.body_eq (K : Nat) (x : depotref01_Token.spec.args.den) : body (depotref01_Token.env.at K) 8 11 depotref01_Token.spec x = depotref01_Token.tr (depotref01_Token.r0 K) K x.1 := by kernel_rfl
theorem depotref01_Token.contract : Contract Tryd.prog gl 11 depotref01_Token.spec :=
  contract_of (E := depotref01_Token.env) ⟨TIok_of tiOK, FnsOK_of ⟨⟨Tryd.func11, Tryd.call11⟩, trivial⟩, mixed⟩ (SpecsOK_of (E := depotref01_Token.env) trivial) Tryd.call11 rfl rfl fun K x r h => by
    rw [depotref01_Token.body_eq, show depotref01_Token.r0 K = depotref01_Token.l0 K from funext (depotref01_Token.e0 K)]; exact h

def octet_is__from_c1_oneOf_c1_from_c1.spec : Dp.Spec := { args := (.scons (.int .u8) (.scons (.hl (.scons (.fn 36 (.scons (.ref (.int .u8)) (.scons (.ref (.int .u8)) .snil))) (.scons (.fn 37 (.scons (.ref .str) .snil)) (.scons (.fn 36 (.scons (.ref (.int .u8)) (.scons (.ref (.int .u8)) .snil))) .snil)))) .snil)), res := .bool, own := false, F := fun K x => octet_is__from_c1_oneOf_c1_from_c1 K x.1 x.2.1 }
def octet_is__from_c1_oneOf_c1_from_c1.hint : Dp.Hint := { n := 17 }
noncomputable def octet_is__from_c1_oneOf_c1_from_c1.env : Dp.Env := { ti := ti, gl := gl, fns := [(29, Tryd.f29, octet_is__from_c1_oneOf_c1_from_c1.hint)], specs := [(36, octet_from_c1.spec), (37, octet_oneOf_c1.spec)], K := 0 }
theorem octet_is__from_c1_oneOf_c1_from_c1.body_eq (K : Nat) (x : octet_is__from_c1_oneOf_c1_from_c1.spec.args.den) : body (octet_is__from_c1_oneOf_c1_from_c1.env.at K) 8 29 octet_is__from_c1_oneOf_c1_from_c1.spec x = octet_is__from_c1_oneOf_c1_from_c1 K x.1 x.2.1 := by kernel_rfl
theorem octet_is__from_c1_oneOf_c1_from_c1.contract : Contract Tryd.prog gl 29 octet_is__from_c1_oneOf_c1_from_c1.spec :=
  contract_of (E := octet_is__from_c1_oneOf_c1_from_c1.env) ⟨TIok_of tiOK, FnsOK_of ⟨⟨Tryd.func29, Tryd.call29⟩, trivial⟩, mixed⟩ (SpecsOK_of (E := octet_is__from_c1_oneOf_c1_from_c1.env) ⟨octet_from_c1.contract, octet_oneOf_c1.contract, trivial⟩) Tryd.call29 rfl rfl fun K x r h => by
    rw [octet_is__from_c1_oneOf_c1_from_c1.body_eq]; exact h

def octet_Text.spec : Dp.Spec := { args := (.scons (.int .u8) .snil), res := .bool, own := false, F := fun K x => octet_Text K x.1 }
def octet_Text.hint : Dp.Hint := { n := 9 }
noncomputable def octet_Text.env : Dp.Env := { ti := ti, gl := gl, fns := [(12, Tryd.f12, octet_Text.hint)], specs := [(30, octet_from.spec), (31, octet_oneOf.spec), (29, octet_is__from_c1_oneOf_c1_from_c1.spec)], K := 0 }
theorem octet_Text.body_eq (K : Nat) (x : octet_Text.spec.args.den) : body (octet_Text.env.at K) 8 12 octet_Text.spec x = octet_Text K x.1 := by kernel_rfl
theorem octet_Text.contract : Contract Tryd.prog gl 12 octet_Text.spec :=
  contract_of (E := octet_Text.env) ⟨TIok_of tiOK, FnsOK_of ⟨⟨Tryd.func12, Tryd.call12⟩, trivial⟩, mixed⟩ (SpecsOK_of (E := octet_Text.env) ⟨octet_from.contract, octet_oneOf.contract, octet_is__from_c1_oneOf_c1_from_c1.contract, trivial⟩) Tryd.call12 rfl rfl fun K x r h => by
    rw [octet_Text.body_eq]; exact h

def depotref01_Text.spec : Dp.Spec := { args := (.scons (.int .u8) .snil), res := .bool, own := false, F := fun K x => depotref01_Text K x.1 }
def depotref01_Text.hint : Dp.Hint := { n := 13 }
noncomputable def depotref01_Text.env : Dp.Env := { ti := ti, gl := gl, fns := [(13, Tryd.f13, depotref01_Text.hint)], specs := [], K := 0 }
theorem depotref01_Text.body_eq (K : Nat) (x : depotref01_Text.spec.args.den) : body (depotref01_Text.env.at K) 8 13 depotref01_Text.spec x = depotref01_Text K x.1 := by kernel_rfl
theorem depotref01_Text.contract : Contract Tryd.prog gl 13 depotref01_Text.spec :=
  contract_of (E := depotref01_Text.env) ⟨TIok_of tiOK, FnsOK_of ⟨⟨Tryd.func13, Tryd.call13⟩, trivial⟩, mixed⟩ (SpecsOK_of (E := depotref01_Text.env) trivial) Tryd.call13 rfl rfl fun K x r h => by
    rw [depotref01_Text.body_eq]; exact h

def depotref01_Digit.spec : Dp.Spec := { args := (.scons (.int .u8) .snil), res := .bool, own := false, F := fun K x => depotref01_Digit K x.1 }
def depotref01_Digit.hint : Dp.Hint := { n := 15 }
noncomputable def depotref01_Digit.env : Dp.Env := { ti := ti, gl := gl, fns := [(15, Tryd.f15, depotref01_Digit.hint)], specs := [(9, depotref01_Hex.spec)], K := 0 }
theorem depotref01_Digit.body_eq (K : Nat) (x : depotref01_Digit.spec.args.den) : body (depotref01_Digit.env.at K) 8 15 depotref01_Digit.spec x = depotref01_Digit K x.1 := by kernel_rfl
theorem depotref01_Digit.contract : Contract Tryd.prog gl 15 depotref01_Digit.spec :=
  contract_of (E := depotref01_Digit.env) ⟨TIok_of tiOK, FnsOK_of ⟨⟨Tryd.func15, Tryd.call15⟩, trivial⟩, mixed⟩ (SpecsOK_of (E := depotref01_Digit.env) ⟨depotref01_Hex.contract, trivial⟩) Tryd.call15 rfl rfl fun K x r h => by
    rw [depotref01_Digit.body_eq]; exact h

def octet_Cut.spec : Dp.Spec := { args := (.scons .str (.scons (.int .u8) .snil)), res := (.tup (.scons .str (.scons .str (.scons .bool .snil)))), own := false, F := fun K x => octet_Cut K x.1 x.2.1 }
def octet_Cut.hint : Dp.Hint := { n := 21 }
noncomputable def octet_Cut.env : Dp.Env := { ti := ti, gl := gl, fns := [(17, Tryd.f17, octet_Cut.hint)], specs := [(32, strings_IndexByte.spec)], K := 0 }
theorem octet_Cut.body_eq (K : Nat) (x : octet_Cut.spec.args.den) : body (octet_Cut.env.at K) 8 17 octet_Cut.spec x = octet_Cut K x.1 x.2.1 := by kernel_rfl
theorem octet_Cut.contract : Contract Tryd.prog gl 17 octet_Cut.spec :=
  contract_of (E := octet_Cut.env) ⟨TIok_of tiOK, FnsOK_of ⟨⟨Tryd.func17, Tryd.call17⟩, trivial⟩, mixed⟩ (SpecsOK_of (E := octet_Cut.env) ⟨strings_IndexByte.contract, trivial⟩) Tryd.call17 rfl rfl fun K x r h => by
    rw [octet_Cut.body_eq]; exact h

def strings_trimRightByte.spec : Dp.Spec := { args := (.scons .str (.scons (.int .u8) .snil)), res := .str, own := false, F := fun K x => strings_trimRightByte K x.1 x.2.1 }
def strings_trimRightByte.hint : Dp.Hint := { n := 23, regions := [(1, [(.normal, { regs := [(0, .str), (1, (.int .u8)), (16, .bool)] })])], loops := [(1, { regs := [(0, .str), (1, (.int .u8))] }, [(.exit 0, { regs := [(0, .str)] })])] }
noncomputable def strings_trimRightByte.env : Dp.Env := { ti := ti, gl := gl, fns := [(40, Tryd.f40, strings_trimRightByte.hint)], specs := [], K := 0 }
noncomputable def strings_trimRightByte.r0 (K : Nat) : Nat → (((List UInt8) × ((Int) × (Unit))) × (Unit)) → Option ((((List UInt8) × (Unit)) × (Unit))) :=
  loopV [(.exit 0, { regs := [(0, .str)] })] { regs := [(0, .str), (1, (.int .u8))] } (interp (strings_trimRightByte.env.at K) strings_trimRightByte.hint (callF (strings_trimRightByte.env.at K) 7) (Code.sub [1, 0, 0, 0] (Tryd.f40.body.getD .skip)) _)
theorem strings_trimRightByte.s0 (K n : Nat) (x : (((List UInt8) × ((Int) × (Unit))) × (Unit))) : strings_trimRightByte.r0 K (n + 1) x = strings_trimRightByte.t0 K (strings_trimRightByte.r0 K n) x := by kernel_rfl
theorem strings_trimRightByte.e0 (K n : Nat) : strings_trimRightByte.r0 K n = strings_trimRightByte.l0 K n := by
  induction n with
  | zero => funext x; rfl
  | succ n ih => funext x; rw [strings_trimRightByte.s0, ih]; rfl
theorem strings_trimRightByte.body_eq (K : Nat) (x : strings_trimRightByte.spec.args.den) : body (strings_trimRightByte.env.at K) 8 40 strings_trimRightByte.spec x = strings_trimRightByte.tr (strings_trimRightByte.r0 K) K x.1 x.2.1 := by kernel_rfl
theorem strings_trimRightByte.contract : Contract Tryd.prog gl 40 strings_trimRightByte.spec :=
  contract_of (E := strings_trimRightByte.env) ⟨TIok_of tiOK, FnsOK_of ⟨⟨Tryd.func40, Tryd.call40⟩, trivial⟩, mixed⟩ (SpecsOK_of (E := strings_trimRightByte.env) trivial) Tryd.call40 rfl rfl fun K x r h => by
    rw [strings_trimRightByte.body_eq, show strings_trimRightByte.r0 K = strings_trimRightByte.l0 K from funext (strings_trimRightByte.e0 K)]; exact h

def strings_trimLeftByte.spec : Dp.Spec := { args := (.scons .str (.scons (.int .u8) .snil)), res := .str, own := false, F := fun K x => strings_trimLeftByte K x.1 x.2.1 }
def strings_trimLeftByte.hint : Dp.Hint := { n := 17, regions := [(1, [(.normal, { regs := [(0, .str), (1, (.int .u8)), (13, .bool)] })])], loops := [(1, { regs := [(0, .str), (1, (.int .u8))] }, [(.exit 0, { regs := [(0, .str)] })])] }
noncomputable def strings_trimLeftByte.env : Dp.Env := { ti := ti, gl := gl, fns := [(39, Tryd.f39, strings_trimLeftByte.hint)], specs := [], K := 0 }
noncomputable def strings_trimLeftByte.r0 (K : Nat) : Nat → (((List UInt8) × ((Int) × (Unit))) × (Unit)) → Option ((((List UInt8) × (Unit)) × (Unit))) :=
  loopV [(.exit 0, { regs := [(0, .str)] })] { regs := [(0, .str), (1, (.int .u8))] } (interp (strings_trimLeftByte.env.at K) strings_trimLeftByte.hint (callF (strings_trimLeftByte.env.at K) 7) (Code.sub [1, 0, 0, 0] (Tryd.f39.body.getD .skip)) _)
theorem strings_trimLeftByte.s0 (K n : Nat) (x : (((List UInt8) × ((Int) × (Unit))) × (Unit))) : strings_trimLeftByte.r0 K (n + 1) x = strings_trimLeftByte.t0 K (strings_trimLeftByte.r0 K n) x := by kernel_rfl
theorem strings_trimLeftByte.e0 (K n : Nat) : strings_trimLeftByte.r0 K n = strings_trimLeftByte.l0 K n := by
  induction n with
  | zero => funext x; rfl
  | succ n ih => funext x; rw [strings_trimLeftByte.s0, ih]; rfl
theorem strings_trimLeftByte.body_eq (K : Nat) (x : strings_trimLeftByte.spec.args.den) : body (strings_trimLeftByte.env.at K) 8 39 strings_trimLeftByte.spec x = strings_trimLeftByte.tr (strings_trimLeftByte.r0 K) K x.1 x.2.1 := by kernel_rfl
theorem strings_trimLeftByte.contract : Contract Tryd.prog gl 39 strings_trimLeftByte.spec :=
  contract_of (E := strings_trimLeftByte.env) ⟨TIok_of tiOK, FnsOK_of ⟨⟨Tryd.func39, Tryd.call39⟩, trivial⟩, mixed⟩ (SpecsOK_of (E := strings_trimLeftByte.env) trivial) Tryd.call39 rfl rfl fun K x r h => by
    rw [strings_trimLeftByte.body_eq, show strings_trimLeftByte.r0 K = strings_trimLeftByte.l0 K from funext (strings_trimLeftByte.e0 K)]; exact h

def strings_asciiSet_contains.spec : Dp.Spec := { args := (.scons (.ref (.arr 256 .bool)) (.scons (.int .u8) .snil)), res := .bool, own := false, F := fun K x => strings_asciiSet_contains K x.1 x.2.1 }
def strings_asciiSet_contains.hint : Dp.Hint := { n := 10 }
noncomputable def strings_asciiSet_contains.env : Dp.Env := { ti := ti, gl := gl, fns := [(47, Tryd.f47, strings_asciiSet_contains.hint)], specs := [], K := 0 }
theorem strings_asciiSet_contains.body_eq (K : Nat) (x : strings_asciiSet_contains.spec.args.den) : body (strings_asciiSet_contains.env.at K) 8 47 strings_asciiSet_contains.spec x = strings_asciiSet_contains K x.1 x.2.1 := by kernel_rfl
theorem strings_asciiSet_contains.contract : Contract Tryd.prog gl 47 strings_asciiSet_contains.spec :=
  contract_of (E := strings_asciiSet_contains.env) ⟨TIok_of tiOK, FnsOK_of ⟨⟨Tryd.func47, Tryd.call47⟩, trivial⟩, mixed⟩ (SpecsOK_of (E := strings_asciiSet_contains.env) trivial) Tryd.call47 rfl rfl fun K x r h => by
    rw [strings_asciiSet_contains.body_eq]; exact h

def strings_trimRightASCII.spec : Dp.Spec := { args := (.scons .str (.scons (.ref (.arr 256 .bool)) .snil)), res := .str, own := false, F := fun K x => strings_trimRightASCII K x.1 x.2.1 }
def strings_trimRightASCII.hint : Dp.Hint := { n := 22, loops := [(1, { regs := [(0, .str), (1, (.ref (.arr 256 .bool)))] }, [(.exit 0, { regs := [(0, .str)] })])] }
noncomputable def strings_trimRightASCII.env : Dp.Env := { ti := ti, gl := gl, fns := [(43, Tryd.f43, strings_trimRightASCII.hint)], specs := [(47, strings_asciiSet_contains.spec)], K := 0 }
noncomputable def strings_trimRightASCII.r0 (K : Nat) : Nat → (((List UInt8) × ((List (Bool)) × (Unit))) × (Unit)) → Option ((((List UInt8) × (Unit)) × (Unit))) :=
  loopV [(.exit 0, { regs := [(0, .str)] })] { regs := [(0, .str), (1, (.ref (.arr 256 .bool)))] } (interp (strings_trimRightASCII.env.at K) strings_trimRightASCII.hint (callF (strings_trimRightASCII.env.at K) 7) (Code.sub [1, 0, 0, 0] (Tryd.f43.body.getD .skip)) _)
theorem strings_trimRightASCII.s0 (K n : Nat) (x : (((List UInt8) × ((List (Bool)) × (Unit))) × (Unit))) : strings_trimRightASCII.r0 K (n + 1) x = strings_trimRightASCII.t0 K (strings_trimRightASCII.r0 K n) x := by kernel_rfl
theorem strings_trimRightASCII.e0 (K n : Nat) : strings_trimRightASCII.r0 K n = strings_trimRightASCII.l0 K n := by
  induction n with
  | zero => funext x; rfl
  | succ n ih => funext x; rw [strings_trimRightASCII.s0, ih]; rfl
theorem strings_trimRightASCII.body_eq (K : Nat) (x : strings_trimRightASCII.spec.args.den) : body (strings_trimRightASCII.env.at K) 8 43 strings_trimRightASCII.spec x = strings_trimRightASCII.tr (strings_trimRightASCII.r0 K) K x.1 x.2.1 := by kernel_rfl
theorem strings_trimRightASCII.contract : Contract Tryd.prog gl 43 strings_trimRightASCII.spec :=
  contract_of (E := strings_trimRightASCII.env) ⟨TIok_of tiOK, FnsOK_of ⟨⟨Tryd.func43, Tryd.call43⟩, trivial⟩, mixed⟩ (SpecsOK_of (E := strings_trimRightASCII.env) ⟨strings_asciiSet_contains.contract, trivial⟩) Tryd.call43 rfl rfl fun K x r h => by
    rw [strings_trimRightASCII.body_eq, show strings_trimRightASCII.r0 K = strings_trimRightASCII.l0 K from funext (strings_trimRightASCII.e0 K)]; exact h

def strings_trimLeftASCII.spec : Dp.Spec := { args := (.scons .str (.scons (.ref (.arr 256 .bool)) .snil)), res := .str, own := false, F := fun K x => strings_trimLeftASCII K x.1 x.2.1 }
def strings_trimLeftASCII.hint : Dp.Hint := { n := 16, loops := [(1, { regs := [(0, .str), (1, (.ref (.arr 256 .bool)))] }, [(.exit 0, { regs := [(0, .str)] })])] }
noncomputable def strings_trimLeftASCII.env : Dp.Env := { ti := ti, gl := gl, fns := [(42, Tryd.f42, strings_trimLeftASCII.hint)], specs := [(47, strings_asciiSet_contains.spec)], K := 0 }
noncomputable def strings_trimLeftASCII.r0 (K : Nat) : Nat → (((List UInt8) × ((List (Bool)) × (Unit))) × (Unit)) → Option ((((List UInt8) × (Unit)) × (Unit))) :=
  loopV [(.exit 0, { regs := [(0, .str)] })] { regs := [(0, .str), (1, (.ref (.arr 256 .bool)))] } (interp (strings_trimLeftASCII.env.at K) strings_trimLeftASCII.hint (callF (strings_trimLeftASCII.env.at K) 7) (Code.sub [1, 0, 0, 0] (Tryd.f42.body.getD .skip)) _)
theorem strings_trimLeftASCII.s0 (K n : Nat) (x : (((List UInt8) × ((List (Bool)) × (Unit))) × (Unit))) : strings_trimLeftASCII.r0 K (n + 1) x = strings_trimLeftASCII.t0 K (strings_trimLeftASCII.r0 K n) x := by kernel_rfl
theorem strings_trimLeftASCII.e0 (K n : Nat) : strings_trimLeftASCII.r0 K n = strings_trimLeftASCII.l0 K n := by
  induction n with
  | zero => funext x; rfl
  | succ n ih => funext x; rw [strings_trimLeftASCII.s0, ih]; rfl
theorem strings_trimLeftASCII.body_eq (K : Nat) (x : strings_trimLeftASCII.spec.args.den) : body (strings_trimLeftASCII.env.at K) 8 42 strings_trimLeftASCII.spec x = strings_trimLeftASCII.tr (strings_trimLeftASCII.r0 K) K x.1 x.2.1 := by kernel_rfl
theorem strings_trimLeftASCII.contract : Contract Tryd.prog gl 42 strings_trimLeftASCII.spec :=
  contract_of (E := strings_trimLeftASCII.env) ⟨TIok_of tiOK, FnsOK_of ⟨⟨Tryd.func42, Tryd.call42⟩, trivial⟩, mixed⟩ (SpecsOK_of (E := strings_trimLeftASCII.env) ⟨strings_asciiSet_contains.contract, trivial⟩) Tryd.call42 rfl rfl fun K x r h => by
    rw [strings_trimLeftASCII.body_eq, show strings_trimLeftASCII.r0 K = strings_trimLeftASCII.l0 K from funext (strings_trimLeftASCII.e0 K)]; exact h

def strings_Trim.spec : Dp.Spec := { args := (.scons .str (.scons .str .snil)), res := .str, own := false, F := fun K x => strings_Trim K x.1 x.2.1 }
def strings_Trim.hint : Dp.Hint := { n := 43, regions := [(1, [(.normal, { regs := [(0, .str), (1, .str), (12, .bool)] })]), (3, [(.normal, { regs := [(0, .str), (1, .str), (21, .bool)] })])] }
noncomputable def strings_Trim.env : Dp.Env := { ti := ti, gl := gl, fns := [(33, Tryd.f33, strings_Trim.hint)], specs := [(40, strings_trimRightByte.spec), (39, strings_trimLeftByte.spec), (43, strings_trimRightASCII.spec), (42, strings_trimLeftASCII.spec), (41, asciiSet.spec)], K := 0 }
theorem strings_Trim.body_eq (K : Nat) (x : strings_Trim.spec.args.den) : body (strings_Trim.env.at K) 8 33 strings_Trim.spec x = strings_Trim K x.1 x.2.1 := by kernel_rfl
theorem strings_Trim.contract : Contract Tryd.prog gl 33 strings_Trim.spec :=
  contract_of (E := strings_Trim.env) ⟨TIok_of tiOK, FnsOK_of ⟨⟨Tryd.func33, Tryd.call33⟩, trivial⟩, mixed⟩ (SpecsOK_of (E := strings_Trim.env) ⟨strings_trimRightByte.contract, strings_trimLeftByte.contract, strings_trimRightASCII.contract, strings_trimLeftASCII.contract, asciiSet.contract, trivial⟩) Tryd.call33 rfl rfl fun K x r h => by
    rw [strings_Trim.body_eq]; exact h

def octet_Trim.spec : Dp.Spec := { args := (.scons .str .snil), res := .str, own := false, F := fun K x => octet_Trim K x.1 }
def octet_Trim.hint : Dp.Hint := { n := 5 }
noncomputable def octet_Trim.env : Dp.Env := { ti := ti, gl := gl, fns := [(23, Tryd.f23, octet_Trim.hint)], specs := [(33, strings_Trim.spec)], K := 0 }
theorem octet_Trim.body_eq (K : Nat) (x : octet_Trim.spec.args.den) : body (octet_Trim.env.at K) 8 23 octet_Trim.spec x = octet_Trim K x.1 := by kernel_rfl
theorem octet_Trim.contract : Contract Tryd.prog gl 23 octet_Trim.spec :=
  contract_of (E := octet_Trim.env) ⟨TIok_of tiOK, FnsOK_of ⟨⟨Tryd.func23, Tryd.call23⟩, trivial⟩, mixed⟩ (SpecsOK_of (E := octet_Trim.env) ⟨strings_Trim.contract, trivial⟩) Tryd.call23 rfl rfl fun K x r h => by
    rw [octet_Trim.body_eq]; exact h

def octet_Lower.spec : Dp.Spec := { args := (.scons .str .snil), res := .str, own := false, F := fun K x => octet_Lower K x.1 }
def octet_Lower.hint : Dp.Hint := { n := 29, conds := [(19, [(.normal, { regs := [(3, (.fn 36 (.scons (.ref (.int .u8)) (.scons (.ref (.int .u8)) .snil)))), (4, (.slw 0)), (10, (.slw 0)), (11, (.int .i64)), (12, (.int .i64))], heap := [(.row (.int .u8))] })])], loops := [(4, { regs := [(3, (.fn 36 (.scons (.ref (.int .u8)) (.scons (.ref (.int .u8)) .snil)))), (4, (.slw 0)), (10, (.slw 0)), (11, (.int .i64)), (12, (.int .i64))], heap := [(.row (.int .u8))] }, [(.exit 0, { regs := [(4, (.slw 0))], heap := [(.row (.int .u8))] })])], own := [9] }
noncomputable def octet_Lower.env : Dp.Env := { ti := ti, gl := gl, fns := [(19, Tryd.f19, octet_Lower.hint)], specs := [(30, octet_from.spec), (36, octet_from_c1.spec)], K := 0 }
noncomputable def octet_Lower.r0 (K : Nat) : Nat → ((((Int) × ((Int) × (Unit))) × ((Unit) × ((Unit) × ((Int) × ((Int) × (Unit)))))) × ((List (Int)) × (Unit))) → Option ((((Unit) × (Unit)) × ((List (Int)) × (Unit)))) :=
  loopV [(.exit 0, { regs := [(4, (.slw 0))], heap := [(.row (.int .u8))] })] { regs := [(3, (.fn 36 (.scons (.ref (.int .u8)) (.scons (.ref (.int .u8)) .snil)))), (4, (.slw 0)), (10, (.slw 0)), (11, (.int .i64)), (12, (.int .i64))], heap := [(.row (.int .u8))] } (interp (octet_Lower.env.at K) octet_Lower.hint (callF (octet_Lower.env.at K) 7) (Code.sub [1, 1, 1, 0, 1, 0, 0] (Tryd.f19.body.getD .skip)) _)
theorem octet_Lower.s0 (K n : Nat) (x : ((((Int) × ((Int) × (Unit))) × ((Unit) × ((Unit) × ((Int) × ((Int) × (Unit)))))) × ((List (Int)) × (Unit)))) : octet_Lower.r0 K (n + 1) x = octet_Lower.t0 K (octet_Lower.r0 K n) x := by kernel_rfl
theorem octet_Lower.e0 (K n : Nat) : octet_Lower.r0 K n = octet_Lower.l0 K n := by
  induction n with
  | zero => funext x; rfl
  | succ n ih => funext x; rw [octet_Lower.s0, ih]; rfl
theorem octet_Lower.body_eq (K : Nat) (x : octet_Lower.spec.args.den) : body (octet_Lower.env.at K) 8 19 octet_Lower.spec x = octet_Lower.tr (octet_Lower.r0 K) K x.1 := by kernel_rfl
theorem octet_Lower.contract : Contract Tryd.prog gl 19 octet_Lower.spec :=
  contract_of (E := octet_Lower.env) ⟨TIok_of tiOK, FnsOK_of ⟨⟨Tryd.func19, Tryd.call19⟩, trivial⟩, mixed⟩ (SpecsOK_of (E := octet_Lower.env) ⟨octet_from.contract, octet_from_c1.contract, trivial⟩) Tryd.call19 rfl rfl fun K x r h => by
    rw [octet_Lower.body_eq, show octet_Lower.r0 K = octet_Lower.l0 K from funext (octet_Lower.e0 K)]; exact h

def octet_Same.spec : Dp.Spec := { args := (.scons .str (.scons .str .snil)), res := .bool, own := false, F := fun K x => octet_Same K x.1 x.2.1 }
def octet_Same.hint : Dp.Hint := { n := 17 }
noncomputable def octet_Same.env : Dp.Env := { ti := ti, gl := gl, fns := [(21, Tryd.f21, octet_Same.hint)], specs := [(19, octet_Lower.spec)], K := 0 }
theorem octet_Same.body_eq (K : Nat) (x : octet_Same.spec.args.den) : body (octet_Same.env.at K) 8 21 octet_Same.spec x = octet_Same K x.1 x.2.1 := by kernel_rfl
theorem octet_Same.contract : Contract Tryd.prog gl 21 octet_Same.spec :=
  contract_of (E := octet_Same.env) ⟨TIok_of tiOK, FnsOK_of ⟨⟨Tryd.func21, Tryd.call21⟩, trivial⟩, mixed⟩ (SpecsOK_of (E := octet_Same.env) ⟨octet_Lower.contract, trivial⟩) Tryd.call21 rfl rfl fun K x r h => by
    rw [octet_Same.body_eq]; exact h

def octet_all__Token.spec : Dp.Spec := { args := (.scons .str (.scons (.fn 10 .snil) .snil)), res := .bool, own := false, F := fun K x => octet_all__Token K x.1 }
def octet_all__Token.hint : Dp.Hint := { n := 19, loops := [(2, { regs := [(1, (.fn 10 .snil)), (8, (.list (.int .u8))), (9, (.int .i64)), (10, (.int .i64))] }, [(.exit 0, { regs := [] }), (.ret, { regs := [(4, .bool)] })])] }
noncomputable def octet_all__Token.env : Dp.Env := { ti := ti, gl := gl, fns := [(35, Tryd.f35, octet_all__Token.hint)], specs := [(10, octet_Token.spec)], K := 0 }
noncomputable def octet_all__Token.r0 (K : Nat) : Nat → (((Unit) × ((List (Int)) × ((Int) × ((Int) × (Unit))))) × (Unit)) → Option (((Unit) × (Unit)) ⊕ (((Bool) × (Unit)) × (Unit))) :=
  loopV [(.exit 0, { regs := [] }), (.ret, { regs := [(4, .bool)] })] { regs := [(1, (.fn 10 .snil)), (8, (.list (.int .u8))), (9, (.int .i64)), (10, (.int .i64))] } (interp (octet_all__Token.env.at K) octet_all__Token.hint (callF (octet_all__Token.env.at K) 7) (Code.sub [1, 0, 1, 0, 0] (Tryd.f35.body.getD .skip)) _)
theorem octet_all__Token.s0 (K n : Nat) (x : (((Unit) × ((List (Int)) × ((Int) × ((Int) × (Unit))))) × (Unit))) : octet_all__Token.r0 K (n + 1) x = octet_all__Token.t0 K (octet_all__Token.r0 K n) x := by kernel_rfl
theorem octet_all__Token.e0 (K n : Nat) : octet_all__Token.r0 K n = octet_all__Token.l0 K n := by
  induction n with
  | zero => funext x; rfl
  | succ n ih => funext x; rw [octet_all__Token.s0, ih]; rfl
theorem octet_all__Token.body_eq (K : Nat) (x : octet_all__Token.spec.args.den) : body (octet_all__Token.env.at K) 8 35 octet_all__Token.spec x = octet_all__Token.tr (octet_all__Token.r0 K) K x.1 := by kernel_rfl
theorem octet_all__Token.contract : Contract Tryd.prog gl 35 octet_all__Token.spec :=
  contract_of (E := octet_all__Token.env) ⟨TIok_of tiOK, FnsOK_of ⟨⟨Tryd.func35, Tryd.call35⟩, trivial⟩, mixed⟩ (SpecsOK_of (E := octet_all__Token.env) ⟨octet_Token.contract, trivial⟩) Tryd.call35 rfl rfl fun K x r h => by
    rw [octet_all__Token.body_eq, show octet_all__Token.r0 K = octet_all__Token.l0 K from funext (octet_all__Token.e0 K)]; exact h

def octet_IsToken.spec : Dp.Spec := { args := (.scons .str .snil), res := .bool, own := false, F := fun K x => octet_IsToken K x.1 }
def octet_IsToken.hint : Dp.Hint := { n := 9 }
noncomputable def octet_IsToken.env : Dp.Env := { ti := ti, gl := gl, fns := [(25, Tryd.f25, octet_IsToken.hint)], specs := [(35, octet_all__Token.spec)], K := 0 }
theorem octet_IsToken.body_eq (K : Nat) (x : octet_IsToken.spec.args.den) : body (octet_IsToken.env.at K) 8 25 octet_IsToken.spec x = octet_IsToken K x.1 := by kernel_rfl
theorem octet_IsToken.contract : Contract Tryd.prog gl 25 octet_IsToken.spec :=
  contract_of (E := octet_IsToken.env) ⟨TIok_of tiOK, FnsOK_of ⟨⟨Tryd.func25, Tryd.call25⟩, trivial⟩, mixed⟩ (SpecsOK_of (E := octet_IsToken.env) ⟨octet_all__Token.contract, trivial⟩) Tryd.call25 rfl rfl fun K x r h => by
    rw [octet_IsToken.body_eq]; exact h

def octet_all__Text.spec : Dp.Spec := { args := (.scons .str (.scons (.fn 12 .snil) .snil)), res := .bool, own := false, F := fun K x => octet_all__Text K x.1 }
def octet_all__Text.hint : Dp.Hint := { n := 19, loops := [(2, { regs := [(1, (.fn 12 .snil)), (8, (.list (.int .u8))), (9, (.int .i64)), (10, (.int .i64))] }, [(.exit 0, { regs := [] }), (.ret, { regs := [(4, .bool)] })])] }
noncomputable def octet_all__Text.env : Dp.Env := { ti := ti, gl := gl, fns := [(35, Tryd.f35, octet_all__Text.hint)], specs := [(12, octet_Text.spec)], K := 0 }
noncomputable def octet_all__Text.r0 (K : Nat) : Nat → (((Unit) × ((List (Int)) × ((Int) × ((Int) × (Unit))))) × (Unit)) → Option (((Unit) × (Unit)) ⊕ (((Bool) × (Unit)) × (Unit))) :=
  loopV [(.exit 0, { regs := [] }), (.ret, { regs := [(4, .bool)] })] { regs := [(1, (.fn 12 .snil)), (8, (.list (.int .u8))), (9, (.int .i64)), (10, (.int .i64))] } (interp (octet_all__Text.env.at K) octet_all__Text.hint (callF (octet_all__Text.env.at K) 7) (Code.sub [1, 0, 1, 0, 0] (Tryd.f35.body.getD .skip)) _)
theorem octet_all__Text.s0 (K n : Nat) (x : (((Unit) × ((List (Int)) × ((Int) × ((Int) × (Unit))))) × (Unit))) : octet_all__Text.r0 K (n + 1) x = octet_all__Text.t0 K (octet_all__Text.r0 K n) x := by kernel_rfl
theorem octet_all__Text.e0 (K n : Nat) : octet_all__Text.r0 K n = octet_all__Text.l0 K n := by
  induction n with
  | zero => funext x; rfl
  | succ n ih => funext x; rw [octet_all__Text.s0, ih]; rfl
theorem octet_all__Text.body_eq (K : Nat) (x : octet_all__Text.spec.args.den) : body (octet_all__Text.env.at K) 8 35 octet_all__Text.spec x = octet_all__Text.tr (octet_all__Text.r0 K) K x.1 := by kernel_rfl
theorem octet_all__Text.contract : Contract Tryd.prog gl 35 octet_all__Text.spec :=
  contract_of (E := octet_all__Text.env) ⟨TIok_of tiOK, FnsOK_of ⟨⟨Tryd.func35, Tryd.call35⟩, trivial⟩, mixed⟩ (SpecsOK_of (E := octet_all__Text.env) ⟨octet_Text.contract, trivial⟩) Tryd.call35 rfl rfl fun K x r h => by
    rw [octet_all__Text.body_eq, show octet_all__Text.r0 K = octet_all__Text.l0 K from funext (octet_all__Text.e0 K)]; exact h

def octet_IsText.spec : Dp.Spec := { args := (.scons .str .snil), res := .bool, own := false, F := fun K x => octet_IsText K x.1 }
def octet_IsText.hint : Dp.Hint := { n := 5 }
noncomputable def octet_IsText.env : Dp.Env := { ti := ti, gl := gl, fns := [(27, Tryd.f27, octet_IsText.hint)], specs := [(35, octet_all__Text.spec)], K := 0 }
theorem octet_IsText.body_eq (K : Nat) (x : octet_IsText.spec.args.den) : body (octet_IsText.env.at K) 8 27 octet_IsText.spec x = octet_IsText K x.1 := by kernel_rfl
theorem octet_IsText.contract : Contract Tryd.prog gl 27 octet_IsText.spec :=
  contract_of (E := octet_IsText.env) ⟨TIok_of tiOK, FnsOK_of ⟨⟨Tryd.func27, Tryd.call27⟩, trivial⟩, mixed⟩ (SpecsOK_of (E := octet_IsText.env) ⟨octet_all__Text.contract, trivial⟩) Tryd.call27 rfl rfl fun K x r h => by
    rw [octet_IsText.body_eq]; exact h

def depotlaw01_bytes.spec : Dp.Spec := { args := .snil, res := .bool, own := false, F := fun K x => depotlaw01_bytes K }
def depotlaw01_bytes.hint : Dp.Hint := { n := 62 }
noncomputable def depotlaw01_bytes.env : Dp.Env := { ti := ti, gl := gl, fns := [(16, Tryd.f16, depotlaw01_bytes.hint)], specs := [(14, octet_Digit.spec), (8, octet_Hex.spec), (10, octet_Token.spec), (12, octet_Text.spec), (17, octet_Cut.spec), (23, octet_Trim.spec), (19, octet_Lower.spec), (21, octet_Same.spec), (25, octet_IsToken.spec), (27, octet_IsText.spec)], K := 0 }
theorem depotlaw01_bytes.body_eq (K : Nat) (x : depotlaw01_bytes.spec.args.den) : body (depotlaw01_bytes.env.at K) 8 16 depotlaw01_bytes.spec x = depotlaw01_bytes K := by kernel_rfl
theorem depotlaw01_bytes.contract : Contract Tryd.prog gl 16 depotlaw01_bytes.spec :=
  contract_of (E := depotlaw01_bytes.env) ⟨TIok_of tiOK, FnsOK_of ⟨⟨Tryd.func16, Tryd.call16⟩, trivial⟩, mixed⟩ (SpecsOK_of (E := depotlaw01_bytes.env) ⟨octet_Digit.contract, octet_Hex.contract, octet_Token.contract, octet_Text.contract, octet_Cut.contract, octet_Trim.contract, octet_Lower.contract, octet_Same.contract, octet_IsToken.contract, octet_IsText.contract, trivial⟩) Tryd.call16 rfl rfl fun K x r h => by
    rw [depotlaw01_bytes.body_eq]; exact h

def depotlaw01_OctetBytes.spec : Dp.Spec := { args := (.scons (.int .u8) .snil), res := .bool, own := false, F := fun K x => depotlaw01_OctetBytes K x.1 }
def depotlaw01_OctetBytes.hint : Dp.Hint := { n := 49 }
noncomputable def depotlaw01_OctetBytes.env : Dp.Env := { ti := ti, gl := gl, fns := [(3, Tryd.f3, depotlaw01_OctetBytes.hint)], specs := [(14, octet_Digit.spec), (8, octet_Hex.spec), (9, depotref01_Hex.spec), (10, octet_Token.spec), (11, depotref01_Token.spec), (12, octet_Text.spec), (13, depotref01_Text.spec), (15, depotref01_Digit.spec), (16, depotlaw01_bytes.spec)], K := 0 }
theorem depotlaw01_OctetBytes.body_eq (K : Nat) (x : depotlaw01_OctetBytes.spec.args.den) : body (depotlaw01_OctetBytes.env.at K) 8 3 depotlaw01_OctetBytes.spec x = depotlaw01_OctetBytes K x.1 := by kernel_rfl
theorem depotlaw01_OctetBytes.contract : Contract Tryd.prog gl 3 depotlaw01_OctetBytes.spec :=
  contract_of (E := depotlaw01_OctetBytes.env) ⟨TIok_of tiOK, FnsOK_of ⟨⟨Tryd.func3, Tryd.call3⟩, trivial⟩, mixed⟩ (SpecsOK_of (E := depotlaw01_OctetBytes.env) ⟨octet_Digit.contract, octet_Hex.contract, depotref01_Hex.contract, octet_Token.contract, depotref01_Token.contract, octet_Text.contract, depotref01_Text.contract, depotref01_Digit.contract, depotlaw01_bytes.contract, trivial⟩) Tryd.call3 rfl rfl fun K x r h => by
    rw [depotlaw01_OctetBytes.body_eq]; exact h

def depotref01_Cut.spec : Dp.Spec := { args := (.scons .str (.scons (.int .u8) .snil)), res := (.tup (.scons .str (.scons .str (.scons .bool .snil)))), own := false, F := fun K x => depotref01_Cut K x.1 x.2.1 }
def depotref01_Cut.hint : Dp.Hint := { n := 27, loops := [(2, { regs := [(0, .str), (1, (.int .u8)), (7, (.int .i64))] }, [(.exit 0, { regs := [(0, .str)] }), (.ret, { regs := [(4, .str), (5, .str), (6, .bool)] })])] }
noncomputable def depotref01_Cut.env : Dp.Env := { ti := ti, gl := gl, fns := [(18, Tryd.f18, depotref01_Cut.hint)], specs := [], K := 0 }
noncomputable def depotref01_Cut.r0 (K : Nat) : Nat → (((List UInt8) × ((Int) × ((Int) × (Unit)))) × (Unit)) → Option ((((List UInt8) × (Unit)) × (Unit)) ⊕ (((List UInt8) × ((List UInt8) × ((Bool) × (Unit)))) × (Unit))) :=
  loopV [(.exit 0, { regs := [(0, .str)] }), (.ret, { regs := [(4, .str), (5, .str), (6, .bool)] })] { regs := [(0, .str), (1, (.int .u8)), (7, (.int .i64))] } (interp (depotref01_Cut.env.at K) depotref01_Cut.hint (callF (depotref01_Cut.env.at K) 7) (Code.sub [1, 0, 1, 0, 0] (Tryd.f18.body.getD .skip)) _)
theorem depotref01_Cut.s0 (K n : Nat) (x : (((List UInt8) × ((Int) × ((Int) × (Unit)))) × (Unit))) : depotref01_Cut.r0 K (n + 1) x = depotref01_Cut.t0 K (depotref01_Cut.r0 K n) x := by kernel_rfl
theorem depotref01_Cut.e0 (K n : Nat) : depotref01_Cut.r0 K n = depotref01_Cut.l0 K n := by
  induction n with
  | zero => funext x; rfl
  | succ n ih => funext x; rw [depotref01_Cut.s0, ih]; rfl
theorem depotref01_Cut.body_eq (K : Nat) (x : depotref01_Cut.spec.args.den) : body (depotref01_Cut.env.at K) 8 18 depotref01_Cut.spec x = depotref01_Cut.tr (depotref01_Cut.r0 K) K x.1 x.2.1 := by kernel_rfl
theorem depotref01_Cut.contract : Contract Tryd.prog gl 18 depotref01_Cut.spec :=
  contract_of (E := depotref01_Cut.env) ⟨TIok_of tiOK, FnsOK_of ⟨⟨Tryd.func18, Tryd.call18⟩, trivial⟩, mixed⟩ (SpecsOK_of (E := depotref01_Cut.env) trivial) Tryd.call18 rfl rfl fun K x r h => by
    rw [depotref01_Cut.body_eq, show depotref01_Cut.r0 K = depotref01_Cut.l0 K from funext (depotref01_Cut.e0 K)]; exact h

def depotref01_Lower.spec : Dp.Spec := { args := (.scons .str .snil), res := .str, own := false, F := fun K x => depotref01_Lower K x.1 }
def depotref01_Lower.hint : Dp.Hint := { n := 35, conds := [(24, [(.normal, { regs := [(3, (.slw 0)), (4, (.int .i64))], heap := [(.row (.int .u8))] })])], regions := [(5, [(.normal, { regs := [(3, (.slw 0)), (4, (.int .i64)), (24, .bool)], heap := [(.row (.int .u8))] })])], loops := [(3, { regs := [(3, (.slw 0)), (4, (.int .i64))], heap := [(.row (.int .u8))] }, [(.exit 0, { regs := [(3, (.slw 0))], heap := [(.row (.int .u8))] })])], own := [6] }
noncomputable def depotref01_Lower.env : Dp.Env := { ti := ti, gl := gl, fns := [(20, Tryd.f20, depotref01_Lower.hint)], specs := [], K := 0 }
noncomputable def depotref01_Lower.r0 (K : Nat) : Nat → (((Unit) × ((Int) × (Unit))) × ((List (Int)) × (Unit))) → Option ((((Unit) × (Unit)) × ((List (Int)) × (Unit)))) :=
  loopV [(.exit 0, { regs := [(3, (.slw 0))], heap := [(.row (.int .u8))] })] { regs := [(3, (.slw 0)), (4, (.int .i64))], heap := [(.row (.int .u8))] } (interp (depotref01_Lower.env.at K) depotref01_Lower.hint (callF (depotref01_Lower.env.at K) 7) (Code.sub [1, 1, 0, 1, 0, 0] (Tryd.f20.body.getD .skip)) _)
theorem depotref01_Lower.s0 (K n : Nat) (x : (((Unit) × ((Int) × (Unit))) × ((List (Int)) × (Unit)))) : depotref01_Lower.r0 K (n + 1) x = depotref01_Lower.t0 K (depotref01_Lower.r0 K n) x := by kernel_rfl
theorem depotref01_Lower.e0 (K n : Nat) : depotref01_Lower.r0 K n = depotref01_Lower.l0 K n := by
  induction n with
  | zero => funext x; rfl
  | succ n ih => funext x; rw [depotref01_Lower.s0, ih]; rfl
theorem depotref01_Lower.body_eq (K : Nat) (x : depotref01_Lower.spec.args.den) : body (depotref01_Lower.env.at K) 8 20 depotref01_Lower.spec x = depotref01_Lower.tr (depotref01_Lower.r0 K) K x.1 := by kernel_rfl
theorem depotref01_Lower.contract : Contract Tryd.prog gl 20 depotref01_Lower.spec :=
  contract_of (E := depotref01_Lower.env) ⟨TIok_of tiOK, FnsOK_of ⟨⟨Tryd.func20, Tryd.call20⟩, trivial⟩, mixed⟩ (SpecsOK_of (E := depotref01_Lower.env) trivial) Tryd.call20 rfl rfl fun K x r h => by
    rw [depotref01_Lower.body_eq, show depotref01_Lower.r0 K = depotref01_Lower.l0 K from funext (depotref01_Lower.e0 K)]; exact h

def depotref01_Same.spec : Dp.Spec := { args := (.scons .str (.scons .str .snil)), res := .bool, own := false, F := fun K x => depotref01_Same K x.1 x.2.1 }
def depotref01_Same.hint : Dp.Hint := { n := 10 }
noncomputable def depotref01_Same.env : Dp.Env := { ti := ti, gl := gl, fns := [(22, Tryd.f22, depotref01_Same.hint)], specs := [(20, depotref01_Lower.spec)], K := 0 }
theorem depotref01_Same.body_eq (K : Nat) (x : depotref01_Same.spec.args.den) : body (depotref01_Same.env.at K) 8 22 depotref01_Same.spec x = depotref01_Same K x.1 x.2.1 := by kernel_rfl
theorem depotref01_Same.contract : Contract Tryd.prog gl 22 depotref01_Same.spec :=
  contract_of (E := depotref01_Same.env) ⟨TIok_of tiOK, FnsOK_of ⟨⟨Tryd.func22, Tryd.call22⟩, trivial⟩, mixed⟩ (SpecsOK_of (E := depotref01_Same.env) ⟨depotref01_Lower.contract, trivial⟩) Tryd.call22 rfl rfl fun K x r h => by
    rw [depotref01_Same.body_eq]; exact h

def depotref01_blank.spec : Dp.Spec := { args := (.scons (.int .u8) .snil), res := .bool, own := false, F := fun K x => depotref01_blank K x.1 }
def depotref01_blank.hint : Dp.Hint := { n := 9 }
noncomputable def depotref01_blank.env : Dp.Env := { ti := ti, gl := gl, fns := [(34, Tryd.f34, depotref01_blank.hint)], specs := [], K := 0 }
theorem depotref01_blank.body_eq (K : Nat) (x : depotref01_blank.spec.args.den) : body (depotref01_blank.env.at K) 8 34 depotref01_blank.spec x = depotref01_blank K x.1 := by kernel_rfl
theorem depotref01_blank.contract : Contract Tryd.prog gl 34 depotref01_blank.spec :=
  contract_of (E := depotref01_blank.env) ⟨TIok_of tiOK, FnsOK_of ⟨⟨Tryd.func34, Tryd.call34⟩, trivial⟩, mixed⟩ (SpecsOK_of (E := depotref01_blank.env) trivial) Tryd.call34 rfl rfl fun K x r h => by
    rw [depotref01_blank.body_eq]; exact h

def depotref01_Trim.spec : Dp.Spec := { args := (.scons .str .snil), res := .str, own := false, F := fun K x => depotref01_Trim K x.1 }
def depotref01_Trim.hint : Dp.Hint := { n := 30, regions := [(1, [(.normal, { regs := [(0, .str), (10, .bool)] })]), (3, [(.normal, { regs := [(0, .str), (23, .bool)] })])], loops := [(1, { regs := [(0, .str)] }, [(.exit 0, { regs := [(0, .str)] })]), (3, { regs := [(0, .str)] }, [(.exit 2, { regs := [(0, .str)] })])] }
noncomputable def depotref01_Trim.env : Dp.Env := { ti := ti, gl := gl, fns := [(24, Tryd.f24, depotref01_Trim.hint)], specs := [(34, depotref01_blank.spec)], K := 0 }
noncomputable def depotref01_Trim.r1 (K : Nat) : Nat → (((List UInt8) × (Unit)) × (Unit)) → Option ((((List UInt8) × (Unit)) × (Unit))) :=
  loopV [(.exit 2, { regs := [(0, .str)] })] { regs := [(0, .str)] } (interp (depotref01_Trim.env.at K) depotref01_Trim.hint (callF (depotref01_Trim.env.at K) 7) (Code.sub [1, 1, 0, 0, 0] (Tryd.f24.body.getD .skip)) _)
theorem depotref01_Trim.s1 (K n : Nat) (x : (((List UInt8) × (Unit)) × (Unit))) : depotref01_Trim.r1 K (n + 1) x = depotref01_Trim.t1 K (depotref01_Trim.r1 K n) x := by kernel_rfl
theorem depotref01_Trim.e1 (K n : Nat) : depotref01_Trim.r1 K n = depotref01_Trim.l1 K n := by
  induction n with
  | zero => funext x; rfl
  | succ n ih => funext x; rw [depotref01_Trim.s1, ih]; rfl
noncomputable def depotref01_Trim.r0 (K : Nat) : Nat → (((List UInt8) × (Unit)) × (Unit)) → Option ((((List UInt8) × (Unit)) × (Unit))) :=
  loopV [(.exit 0, { regs := [(0, .str)] })] { regs := [(0, .str)] } (interp (depotref01_Trim.env.at K) depotref01_Trim.hint (callF (depotref01_Trim.env.at K) 7) (Code.sub [1, 0, 0, 0] (Tryd.f24.body.getD .skip)) _)
theorem depotref01_Trim.s0 (K n : Nat) (x : (((List UInt8) × (Unit)) × (Unit))) : depotref01_Trim.r0 K (n + 1) x = depotref01_Trim.t0 K (depotref01_Trim.r0 K n) x := by kernel_rfl
theorem depotref01_Trim.e0 (K n : Nat) : depotref01_Trim.r0 K n = depotref01_Trim.l0 K n := by
  induction n with
  | zero => funext x; rfl
  | succ n ih => funext x; rw [depotref01_Trim.s0, ih]; rfl
theorem depotref01_Trim.body_eq (K : Nat) (x : depotref01_Trim.spec.args.den) : body (depotref01_Trim.env.at K) 8 24 depotref01_Trim.spec x = depotref01_Trim.tr (depotref01_Trim.r0 K) (depotref01_Trim.r1 K) K x.1 := by kernel_rfl
theorem depotref01_Trim.contract : Contract Tryd.prog gl 24 depotref01_Trim.spec :=
  contract_of (E := depotref01_Trim.env) ⟨TIok_of tiOK, FnsOK_of ⟨⟨Tryd.func24, Tryd.call24⟩, trivial⟩, mixed⟩ (SpecsOK_of (E := depotref01_Trim.env) ⟨depotref01_blank.contract, trivial⟩) Tryd.call24 rfl rfl fun K x r h => by
    rw [depotref01_Trim.body_eq, show depotref01_Trim.r0 K = depotref01_Trim.l0 K from funext (depotref01_Trim.e0 K), show depotref01_Trim.r1 K = depotref01_Trim.l1 K from funext (depotref01_Trim.e1 K)]; exact h

def depotref01_IsToken.spec : Dp.Spec := { args := (.scons .str .snil), res := .bool, own := false, F := fun K x => depotref01_IsToken K x.1 }
def depotref01_IsToken.hint : Dp.Hint := { n := 18, loops := [(2, { regs := [(0, .str), (3, (.int .i64))] }, [(.exit 0, { regs := [(0, .str)] }), (.ret, { regs := [(2, .bool)] })])] }
noncomputable def depotref01_IsToken.env : Dp.Env := { ti := ti, gl := gl, fns := [(26, Tryd.f26, depotref01_IsToken.hint)], specs := [(11, depotref01_Token.spec)], K := 0 }
noncomputable def depotref01_IsToken.r0 (K : Nat) : Nat → (((List UInt8) × ((Int) × (Unit))) × (Unit)) → Option ((((List UInt8) × (Unit)) × (Unit)) ⊕ (((Bool) × (Unit)) × (Unit))) :=
  loopV [(.exit 0, { regs := [(0, .str)] }), (.ret, { regs := [(2, .bool)] })] { regs := [(0, .str), (3, (.int .i64))] } (interp (depotref01_IsToken.env.at K) depotref01_IsToken.hint (callF (depotref01_IsToken.env.at K) 7) (Code.sub [1, 0, 1, 0, 0] (Tryd.f26.body.getD .skip)) _)
theorem depotref01_IsToken.s0 (K n : Nat) (x : (((List UInt8) × ((Int) × (Unit))) × (Unit))) : depotref01_IsToken.r0 K (n + 1) x = depotref01_IsToken.t0 K (depotref01_IsToken.r0 K n) x := by kernel_rfl
theorem depotref01_IsToken.e0 (K n : Nat) : depotref01_IsToken.r0 K n = depotref01_IsToken.l0 K n := by
  induction n with
  | zero => funext x; rfl
  | succ n ih => funext x; rw [depotref01_IsToken.s0, ih]; rfl
theorem depotref01_IsToken.body_eq (K : Nat) (x : depotref01_IsToken.spec.args.den) : body (depotref01_IsToken.env.at K) 8 26 depotref01_IsToken.spec x = depotref01_IsToken.tr (depotref01_IsToken.r0 K) K x.1 := by kernel_rfl
theorem depotref01_IsToken.contract : Contract Tryd.prog gl 26 depotref01_IsToken.spec :=
  contract_of (E := depotref01_IsToken.env) ⟨TIok_of tiOK, FnsOK_of ⟨⟨Tryd.func26, Tryd.call26⟩, trivial⟩, mixed⟩ (SpecsOK_of (E := depotref01_IsToken.env) ⟨depotref01_Token.contract, trivial⟩) Tryd.call26 rfl rfl fun K x r h => by
    rw [depotref01_IsToken.body_eq, show depotref01_IsToken.r0 K = depotref01_IsToken.l0 K from funext (depotref01_IsToken.e0 K)]; exact h

def depotref01_IsText.spec : Dp.Spec := { args := (.scons .str .snil), res := .bool, own := false, F := fun K x => depotref01_IsText K x.1 }
def depotref01_IsText.hint : Dp.Hint := { n := 15, loops := [(2, { regs := [(0, .str), (3, (.int .i64))] }, [(.exit 0, { regs := [] }), (.ret, { regs := [(2, .bool)] })])] }
noncomputable def depotref01_IsText.env : Dp.Env := { ti := ti, gl := gl, fns := [(28, Tryd.f28, depotref01_IsText.hint)], specs := [(13, depotref01_Text.spec)], K := 0 }
noncomputable def depotref01_IsText.r0 (K : Nat) : Nat → (((List UInt8) × ((Int) × (Unit))) × (Unit)) → Option (((Unit) × (Unit)) ⊕ (((Bool) × (Unit)) × (Unit))) :=
  loopV [(.exit 0, { regs := [] }), (.ret, { regs := [(2, .bool)] })] { regs := [(0, .str), (3, (.int .i64))] } (interp (depotref01_IsText.env.at K) depotref01_IsText.hint (callF (depotref01_IsText.env.at K) 7) (Code.sub [1, 0, 1, 0, 0] (Tryd.f28.body.getD .skip)) _)
theorem depotref01_IsText.s0 (K n : Nat) (x : (((List UInt8) × ((Int) × (Unit))) × (Unit))) : depotref01_IsText.r0 K (n + 1) x = depotref01_IsText.t0 K (depotref01_IsText.r0 K n) x := by kernel_rfl
theorem depotref01_IsText.e0 (K n : Nat) : depotref01_IsText.r0 K n = depotref01_IsText.l0 K n := by
  induction n with
  | zero => funext x; rfl
  | succ n ih => funext x; rw [depotref01_IsText.s0, ih]; rfl
theorem depotref01_IsText.body_eq (K : Nat) (x : depotref01_IsText.spec.args.den) : body (depotref01_IsText.env.at K) 8 28 depotref01_IsText.spec x = depotref01_IsText.tr (depotref01_IsText.r0 K) K x.1 := by kernel_rfl
theorem depotref01_IsText.contract : Contract Tryd.prog gl 28 depotref01_IsText.spec :=
  contract_of (E := depotref01_IsText.env) ⟨TIok_of tiOK, FnsOK_of ⟨⟨Tryd.func28, Tryd.call28⟩, trivial⟩, mixed⟩ (SpecsOK_of (E := depotref01_IsText.env) ⟨depotref01_Text.contract, trivial⟩) Tryd.call28 rfl rfl fun K x r h => by
    rw [depotref01_IsText.body_eq, show depotref01_IsText.r0 K = depotref01_IsText.l0 K from funext (depotref01_IsText.e0 K)]; exact h

def depotlaw01_OctetTexts.spec : Dp.Spec := { args := (.scons .str (.scons .str (.scons (.int .u8) .snil))), res := .bool, own := false, F := fun K x => depotlaw01_OctetTexts K x.1 x.2.1 x.2.2.1 }
def depotlaw01_OctetTexts.hint : Dp.Hint := { n := 89, regions := [(1, [(.normal, { regs := [(0, .str), (1, .str), (2, (.int .u8)), (20, .bool)] })])] }
noncomputable def depotlaw01_OctetTexts.env : Dp.Env := { ti := ti, gl := gl, fns := [(4, Tryd.f4, depotlaw01_OctetTexts.hint)], specs := [(17, octet_Cut.spec), (23, octet_Trim.spec), (19, octet_Lower.spec), (21, octet_Same.spec), (25, octet_IsToken.spec), (27, octet_IsText.spec), (16, depotlaw01_bytes.spec), (18, depotref01_Cut.spec), (20, depotref01_Lower.spec), (22, depotref01_Same.spec), (24, depotref01_Trim.spec), (26, depotref01_IsToken.spec), (28, depotref01_IsText.spec)], K := 0 }
theorem depotlaw01_OctetTexts.body_eq (K : Nat) (x : depotlaw01_OctetTexts.spec.args.den) : body (depotlaw01_OctetTexts.env.at K) 8 4 depotlaw01_OctetTexts.spec x = depotlaw01_OctetTexts K x.1 x.2.1 x.2.2.1 := by kernel_rfl
theorem depotlaw01_OctetTexts.contract : Contract Tryd.prog gl 4 depotlaw01_OctetTexts.spec :=
  contract_of (E := depotlaw01_OctetTexts.env) ⟨TIok_of tiOK, FnsOK_of ⟨⟨Tryd.func4, Tryd.call4⟩, trivial⟩, mixed⟩ (SpecsOK_of (E := depotlaw01_OctetTexts.env) ⟨octet_Cut.contract, octet_Trim.contract, octet_Lower.contract, octet_Same.contract, octet_IsToken.contract, octet_IsText.contract, depotlaw01_bytes.contract, depotref01_Cut.contract, depotref01_Lower.contract, depotref01_Same.contract, depotref01_Trim.contract, depotref01_IsToken.contract, depotref01_IsText.contract, trivial⟩) Tryd.call4 rfl rfl fun K x r h => by
    rw [depotlaw01_OctetTexts.body_eq]; exact h

def depotlaw01_OctetCase.spec : Dp.Spec := { args := (.scons .str (.scons .str .snil)), res := .bool, own := false, F := fun K x => depotlaw01_OctetCase K x.1 x.2.1 }
def depotlaw01_OctetCase.hint : Dp.Hint := { n := 62, regions := [(1, [(.normal, { regs := [(0, .str), (1, .str), (13, .bool)] })])] }
noncomputable def depotlaw01_OctetCase.env : Dp.Env := { ti := ti, gl := gl, fns := [(5, Tryd.f5, depotlaw01_OctetCase.hint)], specs := [(19, octet_Lower.spec), (21, octet_Same.spec), (25, octet_IsToken.spec), (16, depotlaw01_bytes.spec)], K := 0 }
theorem depotlaw01_OctetCase.body_eq (K : Nat) (x : depotlaw01_OctetCase.spec.args.den) : body (depotlaw01_OctetCase.env.at K) 8 5 depotlaw01_OctetCase.spec x = depotlaw01_OctetCase K x.1 x.2.1 := by kernel_rfl
theorem depotlaw01_OctetCase.contract : Contract Tryd.prog gl 5 depotlaw01_OctetCase.spec :=
  contract_of (E := depotlaw01_OctetCase.env) ⟨TIok_of tiOK, FnsOK_of ⟨⟨Tryd.func5, Tryd.call5⟩, trivial⟩, mixed⟩ (SpecsOK_of (E := depotlaw01_OctetCase.env) ⟨octet_Lower.contract, octet_Same.contract, octet_IsToken.contract, depotlaw01_bytes.contract, trivial⟩) Tryd.call5 rfl rfl fun K x r h => by
    rw [depotlaw01_OctetCase.body_eq]; exact h

def depotlaw01_OctetTrims.spec : Dp.Spec := { args := (.scons .str (.scons (.int .i64) (.scons (.int .i64) .snil))), res := .bool, own := false, F := fun K x => depotlaw01_OctetTrims K x.1 x.2.1 x.2.2.1 }
def depotlaw01_OctetTrims.hint : Dp.Hint := { n := 80, regions := [(4, [(.normal, { regs := [(1, (.int .i64)), (2, (.int .i64)), (7, .str), (51, .bool)] })])], loops := [(8, { regs := [(1, (.int .i64)), (2, (.int .i64)), (7, .str), (8, .str), (9, (.int .i64))] }, [(.exit 0, { regs := [(2, (.int .i64)), (7, .str), (8, .str)] })]), (12, { regs := [(2, (.int .i64)), (7, .str), (8, .str), (10, (.int .i64))] }, [(.exit 2, { regs := [(7, .str), (8, .str)] })])] }
noncomputable def depotlaw01_OctetTrims.env : Dp.Env := { ti := ti, gl := gl, fns := [(6, Tryd.f6, depotlaw01_OctetTrims.hint)], specs := [(23, octet_Trim.spec), (16, depotlaw01_bytes.spec)], K := 0 }
noncomputable def depotlaw01_OctetTrims.r1 (K : Nat) : Nat → (((Int) × ((List UInt8) × ((List UInt8) × ((Int) × (Unit))))) × (Unit)) → Option ((((List UInt8) × ((List UInt8) × (Unit))) × (Unit))) :=
  loopV [(.exit 2, { regs := [(7, .str), (8, .str)] })] { regs := [(2, (.int .i64)), (7, .str), (8, .str), (10, (.int .i64))] } (interp (depotlaw01_OctetTrims.env.at K) depotlaw01_OctetTrims.hint (callF (depotlaw01_OctetTrims.env.at K) 7) (Code.sub [1, 1, 1, 1, 1, 1, 0, 1, 0, 0] (Tryd.f6.body.getD .skip)) _)
theorem depotlaw01_OctetTrims.s1 (K n : Nat) (x : (((Int) × ((List UInt8) × ((List UInt8) × ((Int) × (Unit))))) × (Unit))) : depotlaw01_OctetTrims.r1 K (n + 1) x = depotlaw01_OctetTrims.t1 K (depotlaw01_OctetTrims.r1 K n) x := by kernel_rfl
theorem depotlaw01_OctetTrims.e1 (K n : Nat) : depotlaw01_OctetTrims.r1 K n = depotlaw01_OctetTrims.l1 K n := by
  induction n with
  | zero => funext x; rfl
  | succ n ih => funext x; rw [depotlaw01_OctetTrims.s1, ih]; rfl
noncomputable def depotlaw01_OctetTrims.r0 (K : Nat) : Nat → (((Int) × ((Int) × ((List UInt8) × ((List UInt8) × ((Int) × (Unit)))))) × (Unit)) → Option ((((Int) × ((List UInt8) × ((List UInt8) × (Unit)))) × (Unit))) :=
  loopV [(.exit 0, { regs := [(2, (.int .i64)), (7, .str), (8, .str)] })] { regs := [(1, (.int .i64)), (2, (.int .i64)), (7, .str), (8, .str), (9, (.int .i64))] } (interp (depotlaw01_OctetTrims.env.at K) depotlaw01_OctetTrims.hint (callF (depotlaw01_OctetTrims.env.at K) 7) (Code.sub [1, 1, 1, 1, 1, 0, 1, 0, 0] (Tryd.f6.body.getD .skip)) _)
theorem depotlaw01_OctetTrims.s0 (K n : Nat) (x : (((Int) × ((Int) × ((List UInt8) × ((List UInt8) × ((Int) × (Unit)))))) × (Unit))) : depotlaw01_OctetTrims.r0 K (n + 1) x = depotlaw01_OctetTrims.t0 K (depotlaw01_OctetTrims.r0 K n) x := by kernel_rfl
theorem depotlaw01_OctetTrims.e0 (K n : Nat) : depotlaw01_OctetTrims.r0 K n = depotlaw01_OctetTrims.l0 K n := by
  induction n with
  | zero => funext x; rfl
  | succ n ih => funext x; rw [depotlaw01_OctetTrims.s0, ih]; rfl
theorem depotlaw01_OctetTrims.body_eq (K : Nat) (x : depotlaw01_OctetTrims.spec.args.den) : body (depotlaw01_OctetTrims.env.at K) 8 6 depotlaw01_OctetTrims.spec x = depotlaw01_OctetTrims.tr (depotlaw01_OctetTrims.r0 K) (depotlaw01_OctetTrims.r1 K) K x.1 x.2.1 x.2.2.1 := by kernel_rfl
theorem depotlaw01_OctetTrims.contract : Contract Tryd.prog gl 6 depotlaw01_OctetTrims.spec :=
  contract_of (E := depotlaw01_OctetTrims.env) ⟨TIok_of tiOK, FnsOK_of ⟨⟨Tryd.func6, Tryd.call6⟩, trivial⟩, mixed⟩ (SpecsOK_of (E := depotlaw01_OctetTrims.env) ⟨octet_Trim.contract, depotlaw01_bytes.contract, trivial⟩) Tryd.call6 rfl rfl fun K x r h => by
    rw [depotlaw01_OctetTrims.body_eq, show depotlaw01_OctetTrims.r0 K = depotlaw01_OctetTrims.l0 K from funext (depotlaw01_OctetTrims.e0 K), show depotlaw01_OctetTrims.r1 K = depotlaw01_OctetTrims.l1 K from funext (depotlaw01_OctetTrims.e1 K)]; exact h

def depotlaw01_OctetParts.spec : Dp.Spec := { args := (.scons .str (.scons (.int .u8) .snil)), res := .bool, own := false, F := fun K x => depotlaw01_OctetParts K x.1 x.2.1 }
def depotlaw01_OctetParts.hint : Dp.Hint := { n := 55, regions := [(10, [(.normal, { regs := [(4, .bool)] })])], loops := [(5, { regs := [(0, .str), (1, (.int .u8)), (5, .str), (6, .str), (7, .bool), (8, (.int .i64))] }, [(.exit 0, { regs := [(0, .str), (1, (.int .u8)), (5, .str), (6, .str), (7, .bool)] }), (.ret, { regs := [(4, .bool)] })])] }
noncomputable def depotlaw01_OctetParts.env : Dp.Env := { ti := ti, gl := gl, fns := [(7, Tryd.f7, depotlaw01_OctetParts.hint)], specs := [(17, octet_Cut.spec), (16, depotlaw01_bytes.spec)], K := 0 }
noncomputable def depotlaw01_OctetParts.r0 (K : Nat) : Nat → (((List UInt8) × ((Int) × ((List UInt8) × ((List UInt8) × ((Bool) × ((Int) × (Unit))))))) × (Unit)) → Option ((((List UInt8) × ((Int) × ((List UInt8) × ((List UInt8) × ((Bool) × (Unit)))))) × (Unit)) ⊕ (((Bool) × (Unit)) × (Unit))) :=
  loopV [(.exit 0, { regs := [(0, .str), (1, (.int .u8)), (5, .str), (6, .str), (7, .bool)] }), (.ret, { regs := [(4, .bool)] })] { regs := [(0, .str), (1, (.int .u8)), (5, .str), (6, .str), (7, .bool), (8, (.int .i64))] } (interp (depotlaw01_OctetParts.env.at K) depotlaw01_OctetParts.hint (callF (depotlaw01_OctetParts.env.at K) 7) (Code.sub [1, 1, 1, 0, 1, 0, 0] (Tryd.f7.body.getD .skip)) _)
theorem depotlaw01_OctetParts.s0 (K n : Nat) (x : (((List UInt8) × ((Int) × ((List UInt8) × ((List UInt8) × ((Bool) × ((Int) × (Unit))))))) × (Unit))) : depotlaw01_OctetParts.r0 K (n + 1) x = depotlaw01_OctetParts.t0 K (depotlaw01_OctetParts.r0 K n) x := by kernel_rfl
theorem depotlaw01_OctetParts.e0 (K n : Nat) : depotlaw01_OctetParts.r0 K n = depotlaw01_OctetParts.l0 K n := by
  induction n with
  | zero => funext x; rfl
  | succ n ih => funext x; rw [depotlaw01_OctetParts.s0, ih]; rfl
theorem depotlaw01_OctetParts.body_eq (K : Nat) (x : depotlaw01_OctetParts.spec.args.den) : body (depotlaw01_OctetParts.env.at K) 8 7 depotlaw01_OctetParts.spec x = depotlaw01_OctetParts.tr (depotlaw01_OctetParts.r0 K) K x.1 x.2.1 := by kernel_rfl
theorem depotlaw01_OctetParts.contract : Contract Tryd.prog gl 7 depotlaw01_OctetParts.spec :=
  contract_of (E := depotlaw01_OctetParts.env) ⟨TIok_of tiOK, FnsOK_of ⟨⟨Tryd.func7, Tryd.call7⟩, trivial⟩, mixed⟩ (SpecsOK_of (E := depotlaw01_OctetParts.env) ⟨octet_Cut.contract, depotlaw01_bytes.contract, trivial⟩) Tryd.call7 rfl rfl fun K x r h => by
    rw [depotlaw01_OctetParts.body_eq, show depotlaw01_OctetParts.r0 K = depotlaw01_OctetParts.l0 K from funext (depotlaw01_OctetParts.e0 K)]; exact h

end Go.Proofs.X