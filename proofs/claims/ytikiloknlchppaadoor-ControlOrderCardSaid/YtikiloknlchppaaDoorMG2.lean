/- That the machine comes to the plain functions. No condition. -/
import Derived.Test.YtikiloknlchppaaDoorMG1
import Derived.Test.YtikiloknlchppaaDoorMS2
import Derived.Test.YtikiloknlchppaaDoorChecked
import Derived.KernelRfl
import Derived.Eval
set_option linter.unusedVariables false
set_option maxRecDepth 20000
namespace Go.Proofs.X
open Go Go.Dp

def ti : List (Nat × TI) := [(1, ⟨.fn, 1, 8, .nilf⟩),
  (2, ⟨.int .i64, 1, 8, (.int .i64)⟩),
  (3, ⟨.int .i64, 1, 8, (.int .i64)⟩),
  (4, ⟨.bool, 1, 1, .bool⟩),
  (5, ⟨.int .u8, 1, 1, (.int .u8)⟩),
  (6, ⟨.int .u8, 1, 1, (.int .u8)⟩),
  (9, ⟨.str, 1, 16, .str⟩),
  (10, ⟨.str, 1, 16, .str⟩),
  (11, ⟨.str, 1, 16, .str⟩),
  (12, ⟨.int .u64, 1, 8, (.int .u64)⟩),
  (15, ⟨.ptr 171, 1, 8, .nilp⟩),
  (16, ⟨.ptr 174, 1, 8, .nilp⟩),
  (17, ⟨.ptr 182, 1, 8, .nilp⟩),
  (18, ⟨.struct [(17, 0)], 1, 8, (.scons .nilp .snil)⟩),
  (19, ⟨.struct [(17, 0)], 1, 8, (.scons .nilp .snil)⟩),
  (20, ⟨.iface false, 1, 16, .nili⟩),
  (21, ⟨.int .i32, 1, 4, (.int .i32)⟩),
  (22, ⟨.struct [(4, 0), (4, 1), (4, 2), (4, 3), (4, 4), (4, 5), (3, 6), (3, 7), (3, 8)], 9, 32, (.scons .bool (.scons .bool (.scons .bool (.scons .bool (.scons .bool (.scons .bool (.scons (.int .i64) (.scons (.int .i64) (.scons (.int .i64) .snil)))))))))⟩),
  (23, ⟨.struct [(4, 0), (4, 1), (4, 2), (4, 3), (4, 4), (4, 5), (3, 6), (3, 7), (3, 8)], 9, 32, (.scons .bool (.scons .bool (.scons .bool (.scons .bool (.scons .bool (.scons .bool (.scons (.int .i64) (.scons (.int .i64) (.scons (.int .i64) .snil)))))))))⟩),
  (24, ⟨.fn, 1, 8, .nilf⟩),
  (25, ⟨.fn, 1, 8, .nilf⟩),
  (26, ⟨.slice 35, 1, 24, (.list (.scons .str (.scons .str .snil)))⟩),
  (27, ⟨.fn, 1, 8, .nilf⟩),
  (28, ⟨.fn, 1, 8, .nilf⟩),
  (29, ⟨.fn, 1, 8, .nilf⟩),
  (30, ⟨.slice 9, 1, 24, (.list .str)⟩),
  (31, ⟨.int .i64, 1, 8, (.int .i64)⟩),
  (33, ⟨.fn, 1, 8, .nilf⟩),
  (34, ⟨.struct [(9, 0), (9, 1)], 2, 32, (.scons .str (.scons .str .snil))⟩),
  (35, ⟨.struct [(9, 0), (9, 1)], 2, 32, (.scons .str (.scons .str .snil))⟩),
  (36, ⟨.fn, 1, 8, .nilf⟩),
  (37, ⟨.fn, 1, 8, .nilf⟩),
  (38, ⟨.fn, 1, 8, .nilf⟩),
  (39, ⟨.fn, 1, 8, .nilf⟩),
  (40, ⟨.slice 67, 1, 24, (.list (.scons .str (.scons .bool (.scons .str .snil))))⟩),
  (41, ⟨.fn, 1, 8, .nilf⟩),
  (42, ⟨.fn, 1, 8, .nilf⟩),
  (43, ⟨.fn, 1, 8, .nilf⟩),
  (44, ⟨.fn, 1, 8, .nilf⟩),
  (45, ⟨.fn, 1, 8, .nilf⟩),
  (47, ⟨.fn, 1, 8, .nilf⟩),
  (48, ⟨.fn, 1, 8, .nilf⟩),
  (49, ⟨.fn, 1, 8, .nilf⟩),
  (50, ⟨.fn, 1, 8, .nilf⟩),
  (51, ⟨.ptr 53, 1, 8, .nilp⟩),
  (52, ⟨.struct [(23, 0)], 9, 32, (.scons (.scons .bool (.scons .bool (.scons .bool (.scons .bool (.scons .bool (.scons .bool (.scons (.int .i64) (.scons (.int .i64) (.scons (.int .i64) .snil))))))))) .snil)⟩),
  (53, ⟨.struct [(23, 0)], 9, 32, (.scons (.scons .bool (.scons .bool (.scons .bool (.scons .bool (.scons .bool (.scons .bool (.scons (.int .i64) (.scons (.int .i64) (.scons (.int .i64) .snil))))))))) .snil)⟩),
  (54, ⟨.fn, 1, 8, .nilf⟩),
  (55, ⟨.fn, 1, 8, .nilf⟩),
  (56, ⟨.fn, 1, 8, .nilf⟩),
  (57, ⟨.fn, 1, 8, .nilf⟩),
  (58, ⟨.fn, 1, 8, .nilf⟩),
  (59, ⟨.fn, 1, 8, .nilf⟩),
  (61, ⟨.fn, 1, 8, .nilf⟩),
  (62, ⟨.fn, 1, 8, .nilf⟩),
  (63, ⟨.fn, 1, 8, .nilf⟩),
  (64, ⟨.fn, 1, 8, .nilf⟩),
  (65, ⟨.fn, 1, 8, .nilf⟩),
  (66, ⟨.struct [(9, 0), (4, 1), (9, 2)], 3, 40, (.scons .str (.scons .bool (.scons .str .snil)))⟩),
  (67, ⟨.struct [(9, 0), (4, 1), (9, 2)], 3, 40, (.scons .str (.scons .bool (.scons .str .snil)))⟩),
  (68, ⟨.fn, 1, 8, .nilf⟩),
  (69, ⟨.fn, 1, 8, .nilf⟩),
  (70, ⟨.fn, 1, 8, .nilf⟩),
  (71, ⟨.fn, 1, 8, .nilf⟩),
  (72, ⟨.slice 5, 1, 24, (.list (.int .u8))⟩),
  (73, ⟨.map 9 3, 1, 8, .unk⟩),
  (74, ⟨.fn, 1, 8, .nilf⟩),
  (75, ⟨.fn, 1, 8, .nilf⟩),
  (76, ⟨.fn, 1, 8, .nilf⟩),
  (77, ⟨.fn, 1, 8, .nilf⟩),
  (78, ⟨.fn, 1, 8, .nilf⟩),
  (80, ⟨.fn, 1, 8, .nilf⟩),
  (81, ⟨.slice 85, 1, 24, (.list (.scons .str (.scons .nilf .snil)))⟩),
  (82, ⟨.fn, 1, 8, .nilf⟩),
  (83, ⟨.fn, 1, 8, .nilf⟩),
  (84, ⟨.struct [(9, 0), (83, 1)], 2, 24, (.scons .str (.scons .nilf .snil))⟩),
  (85, ⟨.struct [(9, 0), (83, 1)], 2, 24, (.scons .str (.scons .nilf .snil))⟩),
  (86, ⟨.fn, 1, 8, .nilf⟩),
  (87, ⟨.ptr 89, 1, 8, .nilp⟩),
  (88, ⟨.struct [(87, 0), (72, 1)], 2, 32, (.scons .nilp (.scons (.list (.int .u8)) .snil))⟩),
  (89, ⟨.struct [(87, 0), (72, 1)], 2, 32, (.scons .nilp (.scons (.list (.int .u8)) .snil))⟩),
  (90, ⟨.iface true, 1, 16, .nili⟩),
  (91, ⟨.iface true, 1, 16, .nili⟩),
  (93, ⟨.fn, 1, 8, .nilf⟩),
  (94, ⟨.fn, 1, 8, .nilf⟩),
  (95, ⟨.fn, 1, 8, .nilf⟩),
  (96, ⟨.fn, 1, 8, .nilf⟩),
  (97, ⟨.int .u64, 1, 8, (.int .u64)⟩),
  (98, ⟨.fn, 1, 8, .nilf⟩),
  (99, ⟨.fn, 1, 8, .nilf⟩),
  (101, ⟨.fn, 1, 8, .nilf⟩),
  (103, ⟨.fn, 1, 8, .nilf⟩),
  (104, ⟨.fn, 1, 8, .nilf⟩),
  (105, ⟨.fn, 1, 8, .nilf⟩),
  (106, ⟨.arr 256 4, 256, 256, (.arr 256 .bool)⟩),
  (107, ⟨.arr 256 4, 256, 256, (.arr 256 .bool)⟩),
  (109, ⟨.fn, 1, 8, .nilf⟩),
  (110, ⟨.fn, 1, 8, .nilf⟩),
  (111, ⟨.ptr 107, 1, 8, .nilp⟩),
  (112, ⟨.ptr 5, 1, 8, .nilp⟩),
  (113, ⟨.fn, 1, 8, .nilf⟩),
  (114, ⟨.fn, 1, 8, .nilf⟩),
  (115, ⟨.int .i64, 1, 8, (.int .i64)⟩),
  (117, ⟨.fn, 1, 8, .nilf⟩),
  (118, ⟨.fn, 1, 8, .nilf⟩),
  (120, ⟨.fn, 1, 8, .nilf⟩),
  (121, ⟨.fn, 1, 8, .nilf⟩),
  (122, ⟨.int .u32, 1, 4, (.int .u32)⟩),
  (123, ⟨.fn, 1, 8, .nilf⟩),
  (124, ⟨.int .u64, 1, 8, (.int .u64)⟩),
  (125, ⟨.slice 70, 1, 24, (.list .nilf)⟩),
  (126, ⟨.fn, 1, 8, .nilf⟩),
  (127, ⟨.fn, 1, 8, .nilf⟩),
  (128, ⟨.fn, 1, 8, .nilf⟩),
  (129, ⟨.fn, 1, 8, .nilf⟩),
  (131, ⟨.fn, 1, 8, .nilf⟩),
  (132, ⟨.fn, 1, 8, .nilf⟩),
  (134, ⟨.fn, 1, 8, .nilf⟩),
  (135, ⟨.fn, 1, 8, .nilf⟩),
  (136, ⟨.fn, 1, 8, .nilf⟩),
  (137, ⟨.fn, 1, 8, .nilf⟩),
  (138, ⟨.int .u64, 1, 8, (.int .u64)⟩),
  (139, ⟨.fn, 1, 8, .nilf⟩),
  (140, ⟨.fn, 1, 8, .nilf⟩),
  (141, ⟨.fn, 1, 8, .nilf⟩),
  (142, ⟨.ptr 3, 1, 8, .nilp⟩),
  (143, ⟨.fn, 1, 8, .nilf⟩),
  (144, ⟨.fn, 1, 8, .nilf⟩),
  (145, ⟨.fn, 1, 8, .nilf⟩),
  (146, ⟨.arr 24 5, 24, 24, (.arr 24 (.int .u8))⟩),
  (147, ⟨.fn, 1, 8, .nilf⟩),
  (149, ⟨.fn, 1, 8, .nilf⟩),
  (150, ⟨.fn, 1, 8, .nilf⟩),
  (151, ⟨.ptr 138, 1, 8, .nilp⟩),
  (153, ⟨.fn, 1, 8, .nilf⟩),
  (154, ⟨.slice 3, 1, 24, (.list (.int .i64))⟩),
  (155, ⟨.fn, 1, 8, .nilf⟩),
  (156, ⟨.fn, 1, 8, .nilf⟩),
  (157, ⟨.arr 20 124, 20, 160, (.arr 20 (.int .u64))⟩),
  (158, ⟨.arr 65 5, 65, 65, (.arr 65 (.int .u8))⟩),
  (159, ⟨.fn, 1, 8, .nilf⟩),
  (160, ⟨.arr 256 5, 256, 256, (.arr 256 (.int .u8))⟩),
  (161, ⟨.struct [(5, 0), (5, 1)], 2, 2, (.scons (.int .u8) (.scons (.int .u8) .snil))⟩),
  (162, ⟨.struct [(5, 0), (5, 1)], 2, 2, (.scons (.int .u8) (.scons (.int .u8) .snil))⟩),
  (163, ⟨.arr 16 162, 32, 32, (.arr 16 (.scons (.int .u8) (.scons (.int .u8) .snil)))⟩),
  (164, ⟨.fn, 1, 8, .nilf⟩),
  (165, ⟨.fn, 1, 8, .nilf⟩),
  (167, ⟨.fn, 1, 8, .nilf⟩),
  (168, ⟨.arr 32 5, 32, 32, (.arr 32 (.int .u8))⟩),
  (169, ⟨.arr 64 5, 64, 64, (.arr 64 (.int .u8))⟩),
  (172, ⟨.arr 0 16, 0, 0, (.arr 0 .nilp)⟩),
  (175, ⟨.fn, 1, 8, .nilf⟩),
  (176, ⟨.int .u8, 1, 1, (.int .u8)⟩),
  (177, ⟨.int .u8, 1, 1, (.int .u8)⟩),
  (178, ⟨.fn, 1, 8, .nilf⟩),
  (179, ⟨.int .i32, 1, 4, (.int .i32)⟩),
  (180, ⟨.int .i32, 1, 4, (.int .i32)⟩),
  (181, ⟨.struct [(12, 0), (12, 1), (122, 2), (176, 3), (5, 4), (5, 5), (177, 6), (178, 7), (112, 8), (179, 9), (180, 10)], 11, 48, (.scons (.int .u64) (.scons (.int .u64) (.scons (.int .u32) (.scons (.int .u8) (.scons (.int .u8) (.scons (.int .u8) (.scons (.int .u8) (.scons .nilf (.scons .nilp (.scons (.int .i32) (.scons (.int .i32) .snil)))))))))))⟩),
  (182, ⟨.struct [(12, 0), (12, 1), (122, 2), (176, 3), (5, 4), (5, 5), (177, 6), (178, 7), (112, 8), (179, 9), (180, 10)], 11, 48, (.scons (.int .u64) (.scons (.int .u64) (.scons (.int .u32) (.scons (.int .u8) (.scons (.int .u8) (.scons (.int .u8) (.scons (.int .u8) (.scons .nilf (.scons .nilp (.scons (.int .i32) (.scons (.int .i32) .snil)))))))))))⟩)]
def gl : List (Nat × TV) := [(1, ⟨.ref (.arr 20 (.int .u64)), glob_strconv_uint64pow10⟩)]
theorem tiOK : ti.all (fun p => tiOK1 Tryd.prog p.1 p.2) = true := by kernel_rfl
theorem mixed : Tryd.prog.follows .mixedOrders = true := Checked.mixed Tryd.checked

def joinS.spec : Dp.Spec := joinSpec
theorem joinS.contract : Contract Tryd.prog gl 35 joinS.spec := joinS_ok
def itoa.spec : Dp.Spec := itoaSpec
theorem itoa.contract : Contract Tryd.prog gl 47 itoa.spec := itoa_ok (g := 1) (n := 20) (by kernel_rfl) (by kernel_rfl)
def items_Unquote.spec : Dp.Spec := unquoteSpec
theorem items_Unquote.contract : Contract Tryd.prog gl 63 items_Unquote.spec := items_Unquote_ok
def asciiSet.spec : Dp.Spec := asciiSetSpec
theorem asciiSet.contract : Contract Tryd.prog gl 78 asciiSet.spec := asciiSet_ok
def ixb.spec : Dp.Spec := indexByteSpec
theorem ixb.contract : Contract Tryd.prog gl 130 ixb.spec := indexByte_contract Tryd.func130 (by decide +kernel) rfl (by kernel_rfl) (by kernel_rfl)
def depotlaw13_one.spec : Dp.Spec := { args := (.scons .str .snil), res := (.list (.scons .str (.scons .str .snil))), own := false, F := fun K x => depotlaw13_one K x.1 }
def depotlaw13_one.hint : Dp.Hint := { n := 6 }
noncomputable def depotlaw13_one.env : Dp.Env := { ti := ti, gl := gl, fns := [(9, Tryd.f9, depotlaw13_one.hint)], specs := [], K := 0 }
theorem depotlaw13_one.body_eq (K : Nat) (x : depotlaw13_one.spec.args.den) : body (depotlaw13_one.env.at K) 8 9 depotlaw13_one.spec x = depotlaw13_one K x.1 := by kernel_rfl
theorem depotlaw13_one.contract : Contract Tryd.prog gl 9 depotlaw13_one.spec :=
  contract_of (E := depotlaw13_one.env) ⟨TIok_of tiOK, FnsOK_of ⟨⟨Tryd.func9, Tryd.call9⟩, trivial⟩, mixed⟩ (SpecsOK_of (E := depotlaw13_one.env) trivial) Tryd.call9 rfl rfl fun K x r h => by
    rw [depotlaw13_one.body_eq]; exact h

def fields_named.spec : Dp.Spec := { args := (.scons .str .snil), res := (.fn 61 (.scons (.ref .str) .snil)), own := false, F := fun K x => fields_named K x.1 }
def fields_named.hint : Dp.Hint := { n := 4, imm := [1] }
noncomputable def fields_named.env : Dp.Env := { ti := ti, gl := gl, fns := [(44, Tryd.f44, fields_named.hint)], specs := [], K := 0 }
theorem fields_named.body_eq (K : Nat) (x : fields_named.spec.args.den) : body (fields_named.env.at K) 8 44 fields_named.spec x = fields_named K x.1 := by kernel_rfl
theorem fields_named.contract : Contract Tryd.prog gl 44 fields_named.spec :=
  contract_of (E := fields_named.env) ⟨TIok_of tiOK, FnsOK_of ⟨⟨Tryd.func44, Tryd.call44⟩, trivial⟩, mixed⟩ (SpecsOK_of (E := fields_named.env) trivial) Tryd.call44 rfl rfl fun K x r h => by
    rw [fields_named.body_eq]; exact h

def octet_from.spec : Dp.Spec := { args := (.scons (.int .u8) (.scons (.int .u8) .snil)), res := (.fn 55 (.scons (.ref (.int .u8)) (.scons (.ref (.int .u8)) .snil))), own := false, F := fun K x => octet_from K x.1 x.2.1 }
def octet_from.hint : Dp.Hint := { n := 6, imm := [2, 3] }
noncomputable def octet_from.env : Dp.Env := { ti := ti, gl := gl, fns := [(39, Tryd.f39, octet_from.hint)], specs := [], K := 0 }
theorem octet_from.body_eq (K : Nat) (x : octet_from.spec.args.den) : body (octet_from.env.at K) 8 39 octet_from.spec x = octet_from K x.1 x.2.1 := by kernel_rfl
theorem octet_from.contract : Contract Tryd.prog gl 39 octet_from.spec :=
  contract_of (E := octet_from.env) ⟨TIok_of tiOK, FnsOK_of ⟨⟨Tryd.func39, Tryd.call39⟩, trivial⟩, mixed⟩ (SpecsOK_of (E := octet_from.env) trivial) Tryd.call39 rfl rfl fun K x r h => by
    rw [octet_from.body_eq]; exact h

def octet_from_c1.spec : Dp.Spec := { args := (.scons (.int .u8) (.scons (.ref (.int .u8)) (.scons (.ref (.int .u8)) .snil))), res := .bool, own := false, F := fun K x => octet_from_c1 K x.1 x.2.1 x.2.2.1 }
def octet_from_c1.hint : Dp.Hint := { n := 13 }
noncomputable def octet_from_c1.env : Dp.Env := { ti := ti, gl := gl, fns := [(55, Tryd.f55, octet_from_c1.hint)], specs := [], K := 0 }
theorem octet_from_c1.body_eq (K : Nat) (x : octet_from_c1.spec.args.den) : body (octet_from_c1.env.at K) 8 55 octet_from_c1.spec x = octet_from_c1 K x.1 x.2.1 x.2.2.1 := by kernel_rfl
theorem octet_from_c1.contract : Contract Tryd.prog gl 55 octet_from_c1.spec :=
  contract_of (E := octet_from_c1.env) ⟨TIok_of tiOK, FnsOK_of ⟨⟨Tryd.func55, Tryd.call55⟩, trivial⟩, mixed⟩ (SpecsOK_of (E := octet_from_c1.env) trivial) Tryd.call55 rfl rfl fun K x r h => by
    rw [octet_from_c1.body_eq]; exact h

def octet_Lower.spec : Dp.Spec := { args := (.scons .str .snil), res := .str, own := false, F := fun K x => octet_Lower K x.1 }
def octet_Lower.hint : Dp.Hint := { n := 29, conds := [(19, [(.normal, { regs := [(3, (.fn 55 (.scons (.ref (.int .u8)) (.scons (.ref (.int .u8)) .snil)))), (4, (.slw 0)), (10, (.slw 0)), (11, (.int .i64)), (12, (.int .i64))], heap := [(.row (.int .u8))] })])], loops := [(4, { regs := [(3, (.fn 55 (.scons (.ref (.int .u8)) (.scons (.ref (.int .u8)) .snil)))), (4, (.slw 0)), (10, (.slw 0)), (11, (.int .i64)), (12, (.int .i64))], heap := [(.row (.int .u8))] }, [(.exit 0, { regs := [(4, (.slw 0))], heap := [(.row (.int .u8))] })])], own := [9] }
noncomputable def octet_Lower.env : Dp.Env := { ti := ti, gl := gl, fns := [(19, Tryd.f19, octet_Lower.hint)], specs := [(39, octet_from.spec), (55, octet_from_c1.spec)], K := 0 }
noncomputable def octet_Lower.r0 (K : Nat) : Nat → ((((Int) × ((Int) × (Unit))) × ((Unit) × ((Unit) × ((Int) × ((Int) × (Unit)))))) × ((List (Int)) × (Unit))) → Option ((((Unit) × (Unit)) × ((List (Int)) × (Unit)))) :=
  loopV [(.exit 0, { regs := [(4, (.slw 0))], heap := [(.row (.int .u8))] })] { regs := [(3, (.fn 55 (.scons (.ref (.int .u8)) (.scons (.ref (.int .u8)) .snil)))), (4, (.slw 0)), (10, (.slw 0)), (11, (.int .i64)), (12, (.int .i64))], heap := [(.row (.int .u8))] } (interp (octet_Lower.env.at K) octet_Lower.hint (callF (octet_Lower.env.at K) 7) (Code.sub [1, 1, 1, 0, 1, 0, 0] (Tryd.f19.body.getD .skip)) _)
theorem octet_Lower.s0 (K n : Nat) (x : ((((Int) × ((Int) × (Unit))) × ((Unit) × ((Unit) × ((Int) × ((Int) × (Unit)))))) × ((List (Int)) × (Unit)))) : octet_Lower.r0 K (n + 1) x = octet_Lower.t0 K (octet_Lower.r0 K n) x := by kernel_rfl
theorem octet_Lower.e0 (K n : Nat) : octet_Lower.r0 K n = octet_Lower.l0 K n := by
  induction n with
  | zero => funext x; rfl
  | succ n ih => funext x; rw [octet_Lower.s0, ih]; rfl
theorem octet_Lower.body_eq (K : Nat) (x : octet_Lower.spec.args.den) : body (octet_Lower.env.at K) 8 19 octet_Lower.spec x = octet_Lower.tr (octet_Lower.r0 K) K x.1 := by kernel_rfl
theorem octet_Lower.contract : Contract Tryd.prog gl 19 octet_Lower.spec :=
  contract_of (E := octet_Lower.env) ⟨TIok_of tiOK, FnsOK_of ⟨⟨Tryd.func19, Tryd.call19⟩, trivial⟩, mixed⟩ (SpecsOK_of (E := octet_Lower.env) ⟨octet_from.contract, octet_from_c1.contract, trivial⟩) Tryd.call19 rfl rfl fun K x r h => by
    rw [octet_Lower.body_eq, show octet_Lower.r0 K = octet_Lower.l0 K from funext (octet_Lower.e0 K)]; exact h

def octet_Same.spec : Dp.Spec := { args := (.scons .str (.scons .str .snil)), res := .bool, own := false, F := fun K x => octet_Same K x.1 x.2.1 }
def octet_Same.hint : Dp.Hint := { n := 17 }
noncomputable def octet_Same.env : Dp.Env := { ti := ti, gl := gl, fns := [(20, Tryd.f20, octet_Same.hint)], specs := [(19, octet_Lower.spec)], K := 0 }
theorem octet_Same.body_eq (K : Nat) (x : octet_Same.spec.args.den) : body (octet_Same.env.at K) 8 20 octet_Same.spec x = octet_Same K x.1 x.2.1 := by kernel_rfl
theorem octet_Same.contract : Contract Tryd.prog gl 20 octet_Same.spec :=
  contract_of (E := octet_Same.env) ⟨TIok_of tiOK, FnsOK_of ⟨⟨Tryd.func20, Tryd.call20⟩, trivial⟩, mixed⟩ (SpecsOK_of (E := octet_Same.env) ⟨octet_Lower.contract, trivial⟩) Tryd.call20 rfl rfl fun K x r h => by
    rw [octet_Same.body_eq]; exact h

def fields_named_c1.spec : Dp.Spec := { args := (.scons (.scons .str (.scons .str .snil)) (.scons (.ref .str) .snil)), res := .bool, own := false, F := fun K x => fields_named_c1 K x.1 x.2.1 }
def fields_named_c1.hint : Dp.Hint := { n := 8, imm := [2] }
noncomputable def fields_named_c1.env : Dp.Env := { ti := ti, gl := gl, fns := [(61, Tryd.f61, fields_named_c1.hint)], specs := [(20, octet_Same.spec)], K := 0 }
theorem fields_named_c1.body_eq (K : Nat) (x : fields_named_c1.spec.args.den) : body (fields_named_c1.env.at K) 8 61 fields_named_c1.spec x = fields_named_c1 K x.1 x.2.1 := by kernel_rfl
theorem fields_named_c1.contract : Contract Tryd.prog gl 61 fields_named_c1.spec :=
  contract_of (E := fields_named_c1.env) ⟨TIok_of tiOK, FnsOK_of ⟨⟨Tryd.func61, Tryd.call61⟩, trivial⟩, mixed⟩ (SpecsOK_of (E := fields_named_c1.env) ⟨octet_Same.contract, trivial⟩) Tryd.call61 rfl rfl fun K x r h => by
    rw [fields_named_c1.body_eq]; exact h

def fields_chosen__named_c1.spec : Dp.Spec := { args := (.scons (.list (.scons .str (.scons .str .snil))) (.scons (.fn 61 (.scons (.ref .str) .snil)) .snil)), res := (.list (.scons .str (.scons .str .snil))), own := false, F := fun K x => fields_chosen__named_c1 K x.1 x.2.1 }
def fields_chosen__named_c1.hint : Dp.Hint := { n := 23, conds := [(16, [(.normal, { regs := [(1, (.fn 61 (.scons (.ref .str) .snil))), (5, (.slw 1)), (8, (.list (.scons .str (.scons .str .snil)))), (9, (.int .i64)), (10, (.int .i64))], heap := [(.row (.scons .str (.scons .str .snil))), (.row (.scons .str (.scons .str .snil))), (.scons .str (.scons .str .snil))], app := [1] })])], loops := [(3, { regs := [(1, (.fn 61 (.scons (.ref .str) .snil))), (5, (.slw 1)), (8, (.list (.scons .str (.scons .str .snil)))), (9, (.int .i64)), (10, (.int .i64))], heap := [(.row (.scons .str (.scons .str .snil))), (.row (.scons .str (.scons .str .snil)))], app := [1] }, [(.exit 0, { regs := [(5, (.slw 1))], heap := [(.row (.scons .str (.scons .str .snil))), (.row (.scons .str (.scons .str .snil)))], app := [1] })])], own := [4, 5] }
noncomputable def fields_chosen__named_c1.env : Dp.Env := { ti := ti, gl := gl, fns := [(43, Tryd.f43, fields_chosen__named_c1.hint)], specs := [(61, fields_named_c1.spec)], K := 0 }
noncomputable def fields_chosen__named_c1.r0 (K : Nat) : Nat → ((((List UInt8) × (Unit)) × ((Unit) × ((List ((List UInt8) × ((List UInt8) × (Unit)))) × ((Int) × ((Int) × (Unit)))))) × ((List ((List UInt8) × ((List UInt8) × (Unit)))) × ((List ((List UInt8) × ((List UInt8) × (Unit)))) × (Unit)))) → Option ((((Unit) × (Unit)) × ((List ((List UInt8) × ((List UInt8) × (Unit)))) × ((List ((List UInt8) × ((List UInt8) × (Unit)))) × (Unit))))) :=
  loopV [(.exit 0, { regs := [(5, (.slw 1))], heap := [(.row (.scons .str (.scons .str .snil))), (.row (.scons .str (.scons .str .snil)))], app := [1] })] { regs := [(1, (.fn 61 (.scons (.ref .str) .snil))), (5, (.slw 1)), (8, (.list (.scons .str (.scons .str .snil)))), (9, (.int .i64)), (10, (.int .i64))], heap := [(.row (.scons .str (.scons .str .snil))), (.row (.scons .str (.scons .str .snil)))], app := [1] } (interp (fields_chosen__named_c1.env.at K) fields_chosen__named_c1.hint (callF (fields_chosen__named_c1.env.at K) 7) (Code.sub [1, 1, 0, 1, 0, 0] (Tryd.f43.body.getD .skip)) _)
theorem fields_chosen__named_c1.s0 (K n : Nat) (x : ((((List UInt8) × (Unit)) × ((Unit) × ((List ((List UInt8) × ((List UInt8) × (Unit)))) × ((Int) × ((Int) × (Unit)))))) × ((List ((List UInt8) × ((List UInt8) × (Unit)))) × ((List ((List UInt8) × ((List UInt8) × (Unit)))) × (Unit))))) : fields_chosen__named_c1.r0 K (n + 1) x = fields_chosen__named_c1.t0 K (fields_chosen__named_c1.r0 K n) x := by kernel_rfl
theorem fields_chosen__named_c1.e0 (K n : Nat) : fields_chosen__named_c1.r0 K n = fields_chosen__named_c1.l0 K n := by
  induction n with
  | zero => funext x; rfl
  | succ n ih => funext x; rw [fields_chosen__named_c1.s0, ih]; rfl
theorem fields_chosen__named_c1.body_eq (K : Nat) (x : fields_chosen__named_c1.spec.args.den) : body (fields_chosen__named_c1.env.at K) 8 43 fields_chosen__named_c1.spec x = fields_chosen__named_c1.tr (fields_chosen__named_c1.r0 K) K x.1 x.2.1 := by kernel_rfl
theorem fields_chosen__named_c1.contract : Contract Tryd.prog gl 43 fields_chosen__named_c1.spec :=
  contract_of (E := fields_chosen__named_c1.env) ⟨TIok_of tiOK, FnsOK_of ⟨⟨Tryd.func43, Tryd.call43⟩, trivial⟩, mixed⟩ (SpecsOK_of (E := fields_chosen__named_c1.env) ⟨fields_named_c1.contract, trivial⟩) Tryd.call43 rfl rfl fun K x r h => by
    rw [fields_chosen__named_c1.body_eq, show fields_chosen__named_c1.r0 K = fields_chosen__named_c1.l0 K from funext (fields_chosen__named_c1.e0 K)]; exact h

def fields_All.spec : Dp.Spec := { args := (.scons (.list (.scons .str (.scons .str .snil))) (.scons .str .snil)), res := (.list .str), own := false, F := fun K x => fields_All K x.1 x.2.1 }
def fields_All.hint : Dp.Hint := { n := 24, loops := [(3, { regs := [(5, (.slw 1)), (11, (.list (.scons .str (.scons .str .snil)))), (12, (.int .i64)), (13, (.int .i64))], heap := [(.row .str), (.row .str)], app := [1] }, [(.exit 0, { regs := [(5, (.slw 1))], heap := [(.row .str), (.row .str)], app := [1] })])], own := [4, 5] }
noncomputable def fields_All.env : Dp.Env := { ti := ti, gl := gl, fns := [(26, Tryd.f26, fields_All.hint)], specs := [(44, fields_named.spec), (43, fields_chosen__named_c1.spec)], K := 0 }
noncomputable def fields_All.r0 (K : Nat) : Nat → (((Unit) × ((List ((List UInt8) × ((List UInt8) × (Unit)))) × ((Int) × ((Int) × (Unit))))) × ((List (List UInt8)) × ((List (List UInt8)) × (Unit)))) → Option ((((Unit) × (Unit)) × ((List (List UInt8)) × ((List (List UInt8)) × (Unit))))) :=
  loopV [(.exit 0, { regs := [(5, (.slw 1))], heap := [(.row .str), (.row .str)], app := [1] })] { regs := [(5, (.slw 1)), (11, (.list (.scons .str (.scons .str .snil)))), (12, (.int .i64)), (13, (.int .i64))], heap := [(.row .str), (.row .str)], app := [1] } (interp (fields_All.env.at K) fields_All.hint (callF (fields_All.env.at K) 7) (Code.sub [1, 1, 0, 1, 0, 0] (Tryd.f26.body.getD .skip)) _)
theorem fields_All.s0 (K n : Nat) (x : (((Unit) × ((List ((List UInt8) × ((List UInt8) × (Unit)))) × ((Int) × ((Int) × (Unit))))) × ((List (List UInt8)) × ((List (List UInt8)) × (Unit))))) : fields_All.r0 K (n + 1) x = fields_All.t0 K (fields_All.r0 K n) x := by kernel_rfl
theorem fields_All.e0 (K n : Nat) : fields_All.r0 K n = fields_All.l0 K n := by
  induction n with
  | zero => funext x; rfl
  | succ n ih => funext x; rw [fields_All.s0, ih]; rfl
theorem fields_All.body_eq (K : Nat) (x : fields_All.spec.args.den) : body (fields_All.env.at K) 8 26 fields_All.spec x = fields_All.tr (fields_All.r0 K) K x.1 x.2.1 := by kernel_rfl
theorem fields_All.contract : Contract Tryd.prog gl 26 fields_All.spec :=
  contract_of (E := fields_All.env) ⟨TIok_of tiOK, FnsOK_of ⟨⟨Tryd.func26, Tryd.call26⟩, trivial⟩, mixed⟩ (SpecsOK_of (E := fields_All.env) ⟨fields_named.contract, fields_chosen__named_c1.contract, trivial⟩) Tryd.call26 rfl rfl fun K x r h => by
    rw [fields_All.body_eq, show fields_All.r0 K = fields_All.l0 K from funext (fields_All.e0 K)]; exact h

def strings_trimRightByte.spec : Dp.Spec := { args := (.scons .str (.scons (.int .u8) .snil)), res := .str, own := false, F := fun K x => strings_trimRightByte K x.1 x.2.1 }
def strings_trimRightByte.hint : Dp.Hint := { n := 23, regions := [(1, [(.normal, { regs := [(0, .str), (1, (.int .u8)), (16, .bool)] })])], loops := [(1, { regs := [(0, .str), (1, (.int .u8))] }, [(.exit 0, { regs := [(0, .str)] })])] }
noncomputable def strings_trimRightByte.env : Dp.Env := { ti := ti, gl := gl, fns := [(77, Tryd.f77, strings_trimRightByte.hint)], specs := [], K := 0 }
noncomputable def strings_trimRightByte.r0 (K : Nat) : Nat → (((List UInt8) × ((Int) × (Unit))) × (Unit)) → Option ((((List UInt8) × (Unit)) × (Unit))) :=
  loopV [(.exit 0, { regs := [(0, .str)] })] { regs := [(0, .str), (1, (.int .u8))] } (interp (strings_trimRightByte.env.at K) strings_trimRightByte.hint (callF (strings_trimRightByte.env.at K) 7) (Code.sub [1, 0, 0, 0] (Tryd.f77.body.getD .skip)) _)
theorem strings_trimRightByte.s0 (K n : Nat) (x : (((List UInt8) × ((Int) × (Unit))) × (Unit))) : strings_trimRightByte.r0 K (n + 1) x = strings_trimRightByte.t0 K (strings_trimRightByte.r0 K n) x := by kernel_rfl
theorem strings_trimRightByte.e0 (K n : Nat) : strings_trimRightByte.r0 K n = strings_trimRightByte.l0 K n := by
  induction n with
  | zero => funext x; rfl
  | succ n ih => funext x; rw [strings_trimRightByte.s0, ih]; rfl
theorem strings_trimRightByte.body_eq (K : Nat) (x : strings_trimRightByte.spec.args.den) : body (strings_trimRightByte.env.at K) 8 77 strings_trimRightByte.spec x = strings_trimRightByte.tr (strings_trimRightByte.r0 K) K x.1 x.2.1 := by kernel_rfl
theorem strings_trimRightByte.contract : Contract Tryd.prog gl 77 strings_trimRightByte.spec :=
  contract_of (E := strings_trimRightByte.env) ⟨TIok_of tiOK, FnsOK_of ⟨⟨Tryd.func77, Tryd.call77⟩, trivial⟩, mixed⟩ (SpecsOK_of (E := strings_trimRightByte.env) trivial) Tryd.call77 rfl rfl fun K x r h => by
    rw [strings_trimRightByte.body_eq, show strings_trimRightByte.r0 K = strings_trimRightByte.l0 K from funext (strings_trimRightByte.e0 K)]; exact h

def strings_trimLeftByte.spec : Dp.Spec := { args := (.scons .str (.scons (.int .u8) .snil)), res := .str, own := false, F := fun K x => strings_trimLeftByte K x.1 x.2.1 }
def strings_trimLeftByte.hint : Dp.Hint := { n := 17, regions := [(1, [(.normal, { regs := [(0, .str), (1, (.int .u8)), (13, .bool)] })])], loops := [(1, { regs := [(0, .str), (1, (.int .u8))] }, [(.exit 0, { regs := [(0, .str)] })])] }
noncomputable def strings_trimLeftByte.env : Dp.Env := { ti := ti, gl := gl, fns := [(76, Tryd.f76, strings_trimLeftByte.hint)], specs := [], K := 0 }
noncomputable def strings_trimLeftByte.r0 (K : Nat) : Nat → (((List UInt8) × ((Int) × (Unit))) × (Unit)) → Option ((((List UInt8) × (Unit)) × (Unit))) :=
  loopV [(.exit 0, { regs := [(0, .str)] })] { regs := [(0, .str), (1, (.int .u8))] } (interp (strings_trimLeftByte.env.at K) strings_trimLeftByte.hint (callF (strings_trimLeftByte.env.at K) 7) (Code.sub [1, 0, 0, 0] (Tryd.f76.body.getD .skip)) _)
theorem strings_trimLeftByte.s0 (K n : Nat) (x : (((List UInt8) × ((Int) × (Unit))) × (Unit))) : strings_trimLeftByte.r0 K (n + 1) x = strings_trimLeftByte.t0 K (strings_trimLeftByte.r0 K n) x := by kernel_rfl
theorem strings_trimLeftByte.e0 (K n : Nat) : strings_trimLeftByte.r0 K n = strings_trimLeftByte.l0 K n := by
  induction n with
  | zero => funext x; rfl
  | succ n ih => funext x; rw [strings_trimLeftByte.s0, ih]; rfl
theorem strings_trimLeftByte.body_eq (K : Nat) (x : strings_trimLeftByte.spec.args.den) : body (strings_trimLeftByte.env.at K) 8 76 strings_trimLeftByte.spec x = strings_trimLeftByte.tr (strings_trimLeftByte.r0 K) K x.1 x.2.1 := by kernel_rfl
theorem strings_trimLeftByte.contract : Contract Tryd.prog gl 76 strings_trimLeftByte.spec :=
  contract_of (E := strings_trimLeftByte.env) ⟨TIok_of tiOK, FnsOK_of ⟨⟨Tryd.func76, Tryd.call76⟩, trivial⟩, mixed⟩ (SpecsOK_of (E := strings_trimLeftByte.env) trivial) Tryd.call76 rfl rfl fun K x r h => by
    rw [strings_trimLeftByte.body_eq, show strings_trimLeftByte.r0 K = strings_trimLeftByte.l0 K from funext (strings_trimLeftByte.e0 K)]; exact h

def strings_asciiSet_contains.spec : Dp.Spec := { args := (.scons (.ref (.arr 256 .bool)) (.scons (.int .u8) .snil)), res := .bool, own := false, F := fun K x => strings_asciiSet_contains K x.1 x.2.1 }
def strings_asciiSet_contains.hint : Dp.Hint := { n := 10 }
noncomputable def strings_asciiSet_contains.env : Dp.Env := { ti := ti, gl := gl, fns := [(103, Tryd.f103, strings_asciiSet_contains.hint)], specs := [], K := 0 }
theorem strings_asciiSet_contains.body_eq (K : Nat) (x : strings_asciiSet_contains.spec.args.den) : body (strings_asciiSet_contains.env.at K) 8 103 strings_asciiSet_contains.spec x = strings_asciiSet_contains K x.1 x.2.1 := by kernel_rfl
theorem strings_asciiSet_contains.contract : Contract Tryd.prog gl 103 strings_asciiSet_contains.spec :=
  contract_of (E := strings_asciiSet_contains.env) ⟨TIok_of tiOK, FnsOK_of ⟨⟨Tryd.func103, Tryd.call103⟩, trivial⟩, mixed⟩ (SpecsOK_of (E := strings_asciiSet_contains.env) trivial) Tryd.call103 rfl rfl fun K x r h => by
    rw [strings_asciiSet_contains.body_eq]; exact h

def strings_trimRightASCII.spec : Dp.Spec := { args := (.scons .str (.scons (.ref (.arr 256 .bool)) .snil)), res := .str, own := false, F := fun K x => strings_trimRightASCII K x.1 x.2.1 }
def strings_trimRightASCII.hint : Dp.Hint := { n := 22, loops := [(1, { regs := [(0, .str), (1, (.ref (.arr 256 .bool)))] }, [(.exit 0, { regs := [(0, .str)] })])] }
noncomputable def strings_trimRightASCII.env : Dp.Env := { ti := ti, gl := gl, fns := [(80, Tryd.f80, strings_trimRightASCII.hint)], specs := [(103, strings_asciiSet_contains.spec)], K := 0 }
noncomputable def strings_trimRightASCII.r0 (K : Nat) : Nat → (((List UInt8) × ((List (Bool)) × (Unit))) × (Unit)) → Option ((((List UInt8) × (Unit)) × (Unit))) :=
  loopV [(.exit 0, { regs := [(0, .str)] })] { regs := [(0, .str), (1, (.ref (.arr 256 .bool)))] } (interp (strings_trimRightASCII.env.at K) strings_trimRightASCII.hint (callF (strings_trimRightASCII.env.at K) 7) (Code.sub [1, 0, 0, 0] (Tryd.f80.body.getD .skip)) _)
theorem strings_trimRightASCII.s0 (K n : Nat) (x : (((List UInt8) × ((List (Bool)) × (Unit))) × (Unit))) : strings_trimRightASCII.r0 K (n + 1) x = strings_trimRightASCII.t0 K (strings_trimRightASCII.r0 K n) x := by kernel_rfl
theorem strings_trimRightASCII.e0 (K n : Nat) : strings_trimRightASCII.r0 K n = strings_trimRightASCII.l0 K n := by
  induction n with
  | zero => funext x; rfl
  | succ n ih => funext x; rw [strings_trimRightASCII.s0, ih]; rfl
theorem strings_trimRightASCII.body_eq (K : Nat) (x : strings_trimRightASCII.spec.args.den) : body (strings_trimRightASCII.env.at K) 8 80 strings_trimRightASCII.spec x = strings_trimRightASCII.tr (strings_trimRightASCII.r0 K) K x.1 x.2.1 := by kernel_rfl
theorem strings_trimRightASCII.contract : Contract Tryd.prog gl 80 strings_trimRightASCII.spec :=
  contract_of (E := strings_trimRightASCII.env) ⟨TIok_of tiOK, FnsOK_of ⟨⟨Tryd.func80, Tryd.call80⟩, trivial⟩, mixed⟩ (SpecsOK_of (E := strings_trimRightASCII.env) ⟨strings_asciiSet_contains.contract, trivial⟩) Tryd.call80 rfl rfl fun K x r h => by
    rw [strings_trimRightASCII.body_eq, show strings_trimRightASCII.r0 K = strings_trimRightASCII.l0 K from funext (strings_trimRightASCII.e0 K)]; exact h

def strings_trimLeftASCII.spec : Dp.Spec := { args := (.scons .str (.scons (.ref (.arr 256 .bool)) .snil)), res := .str, own := false, F := fun K x => strings_trimLeftASCII K x.1 x.2.1 }
def strings_trimLeftASCII.hint : Dp.Hint := { n := 16, loops := [(1, { regs := [(0, .str), (1, (.ref (.arr 256 .bool)))] }, [(.exit 0, { regs := [(0, .str)] })])] }
noncomputable def strings_trimLeftASCII.env : Dp.Env := { ti := ti, gl := gl, fns := [(79, Tryd.f79, strings_trimLeftASCII.hint)], specs := [(103, strings_asciiSet_contains.spec)], K := 0 }
noncomputable def strings_trimLeftASCII.r0 (K : Nat) : Nat → (((List UInt8) × ((List (Bool)) × (Unit))) × (Unit)) → Option ((((List UInt8) × (Unit)) × (Unit))) :=
  loopV [(.exit 0, { regs := [(0, .str)] })] { regs := [(0, .str), (1, (.ref (.arr 256 .bool)))] } (interp (strings_trimLeftASCII.env.at K) strings_trimLeftASCII.hint (callF (strings_trimLeftASCII.env.at K) 7) (Code.sub [1, 0, 0, 0] (Tryd.f79.body.getD .skip)) _)
theorem strings_trimLeftASCII.s0 (K n : Nat) (x : (((List UInt8) × ((List (Bool)) × (Unit))) × (Unit))) : strings_trimLeftASCII.r0 K (n + 1) x = strings_trimLeftASCII.t0 K (strings_trimLeftASCII.r0 K n) x := by kernel_rfl
theorem strings_trimLeftASCII.e0 (K n : Nat) : strings_trimLeftASCII.r0 K n = strings_trimLeftASCII.l0 K n := by
  induction n with
  | zero => funext x; rfl
  | succ n ih => funext x; rw [strings_trimLeftASCII.s0, ih]; rfl
theorem strings_trimLeftASCII.body_eq (K : Nat) (x : strings_trimLeftASCII.spec.args.den) : body (strings_trimLeftASCII.env.at K) 8 79 strings_trimLeftASCII.spec x = strings_trimLeftASCII.tr (strings_trimLeftASCII.r0 K) K x.1 x.2.1 := by kernel_rfl
theorem strings_trimLeftASCII.contract : Contract Tryd.prog gl 79 strings_trimLeftASCII.spec :=
  contract_of (E := strings_trimLeftASCII.env) ⟨TIok_of tiOK, FnsOK_of ⟨⟨Tryd.func79, Tryd.call79⟩, trivial⟩, mixed⟩ (SpecsOK_of (E := strings_trimLeftASCII.env) ⟨strings_asciiSet_contains.contract, trivial⟩) Tryd.call79 rfl rfl fun K x r h => by
    rw [strings_trimLeftASCII.body_eq, show strings_trimLeftASCII.r0 K = strings_trimLeftASCII.l0 K from funext (strings_trimLeftASCII.e0 K)]; exact h

def strings_Trim.spec : Dp.Spec := { args := (.scons .str (.scons .str .snil)), res := .str, own := false, F := fun K x => strings_Trim K x.1 x.2.1 }
def strings_Trim.hint : Dp.Hint := { n := 43, regions := [(1, [(.normal, { regs := [(0, .str), (1, .str), (12, .bool)] })]), (3, [(.normal, { regs := [(0, .str), (1, .str), (21, .bool)] })])] }
noncomputable def strings_Trim.env : Dp.Env := { ti := ti, gl := gl, fns := [(49, Tryd.f49, strings_Trim.hint)], specs := [(77, strings_trimRightByte.spec), (76, strings_trimLeftByte.spec), (80, strings_trimRightASCII.spec), (79, strings_trimLeftASCII.spec), (78, asciiSet.spec)], K := 0 }
theorem strings_Trim.body_eq (K : Nat) (x : strings_Trim.spec.args.den) : body (strings_Trim.env.at K) 8 49 strings_Trim.spec x = strings_Trim K x.1 x.2.1 := by kernel_rfl
theorem strings_Trim.contract : Contract Tryd.prog gl 49 strings_Trim.spec :=
  contract_of (E := strings_Trim.env) ⟨TIok_of tiOK, FnsOK_of ⟨⟨Tryd.func49, Tryd.call49⟩, trivial⟩, mixed⟩ (SpecsOK_of (E := strings_Trim.env) ⟨strings_trimRightByte.contract, strings_trimLeftByte.contract, strings_trimRightASCII.contract, strings_trimLeftASCII.contract, asciiSet.contract, trivial⟩) Tryd.call49 rfl rfl fun K x r h => by
    rw [strings_Trim.body_eq]; exact h

def octet_Trim.spec : Dp.Spec := { args := (.scons .str .snil), res := .str, own := false, F := fun K x => octet_Trim K x.1 }
def octet_Trim.hint : Dp.Hint := { n := 5 }
noncomputable def octet_Trim.env : Dp.Env := { ti := ti, gl := gl, fns := [(34, Tryd.f34, octet_Trim.hint)], specs := [(49, strings_Trim.spec)], K := 0 }
theorem octet_Trim.body_eq (K : Nat) (x : octet_Trim.spec.args.den) : body (octet_Trim.env.at K) 8 34 octet_Trim.spec x = octet_Trim K x.1 := by kernel_rfl
theorem octet_Trim.contract : Contract Tryd.prog gl 34 octet_Trim.spec :=
  contract_of (E := octet_Trim.env) ⟨TIok_of tiOK, FnsOK_of ⟨⟨Tryd.func34, Tryd.call34⟩, trivial⟩, mixed⟩ (SpecsOK_of (E := octet_Trim.env) ⟨strings_Trim.contract, trivial⟩) Tryd.call34 rfl rfl fun K x r h => by
    rw [octet_Trim.body_eq]; exact h

def items_Split.spec : Dp.Spec := { args := (.scons .str .snil), res := (.tup (.scons (.list .str) (.scons (.int .i64) .snil))), own := false, F := fun K x => items_Split K x.1 }
def items_Split.hint : Dp.Hint := { n := 49, conds := [(20, [(.exit 1, { regs := [(1, (.ref .str)), (4, (.loc 1 false [])), (6, (.fn 33 (.scons (.ref .str) (.scons (.loc 2 false []) (.scons (.loc 1 false []) .snil))))), (7, .bool), (8, (.int .i64))], heap := [(.row .str), (.slw 0), (.int .i64)], app := [0] }), (.normal, { regs := [(1, (.ref .str)), (4, (.loc 1 false [])), (6, (.fn 33 (.scons (.ref .str) (.scons (.loc 2 false []) (.scons (.loc 1 false []) .snil))))), (7, .bool), (8, (.int .i64))], heap := [(.row .str), (.slw 0), (.int .i64)], app := [0] })]), (33, [(.normal, { regs := [(1, (.ref .str)), (4, (.loc 1 false [])), (6, (.fn 33 (.scons (.ref .str) (.scons (.loc 2 false []) (.scons (.loc 1 false []) .snil))))), (7, .bool), (8, (.int .i64))], heap := [(.row .str), (.slw 0), (.int .i64)], app := [0] })])], blocks := [(1, [(.normal, { regs := [(1, (.ref .str)), (4, (.loc 1 false [])), (6, (.fn 33 (.scons (.ref .str) (.scons (.loc 2 false []) (.scons (.loc 1 false []) .snil))))), (7, .bool), (8, (.int .i64))], heap := [(.row .str), (.slw 0), (.int .i64)], app := [0] })])], regions := [(11, [(.normal, { regs := [(1, (.ref .str)), (4, (.loc 1 false [])), (6, (.fn 33 (.scons (.ref .str) (.scons (.loc 2 false []) (.scons (.loc 1 false []) .snil))))), (7, .bool), (8, (.int .i64)), (9, (.int .u8)), (25, .bool)], heap := [(.row .str), (.slw 0), (.int .i64)], app := [0] })]), (13, [(.normal, { regs := [(1, (.ref .str)), (4, (.loc 1 false [])), (6, (.fn 33 (.scons (.ref .str) (.scons (.loc 2 false []) (.scons (.loc 1 false []) .snil))))), (7, .bool), (8, (.int .i64)), (33, .bool)], heap := [(.row .str), (.slw 0), (.int .i64)], app := [0] })]), (14, [(.normal, { regs := [(1, (.ref .str)), (4, (.loc 1 false [])), (6, (.fn 33 (.scons (.ref .str) (.scons (.loc 2 false []) (.scons (.loc 1 false []) .snil))))), (7, .bool), (8, (.int .i64))], heap := [(.row .str), (.slw 0), (.int .i64)], app := [0] })])], loops := [(6, { regs := [(1, (.ref .str)), (4, (.loc 1 false [])), (6, (.fn 33 (.scons (.ref .str) (.scons (.loc 2 false []) (.scons (.loc 1 false []) .snil))))), (7, .bool), (8, (.int .i64))], heap := [(.row .str), (.slw 0), (.int .i64)], app := [0] }, [(.exit 0, { regs := [(1, (.ref .str)), (4, (.loc 1 false [])), (6, (.fn 33 (.scons (.ref .str) (.scons (.loc 2 false []) (.scons (.loc 1 false []) .snil))))), (7, .bool)], heap := [(.row .str), (.slw 0), (.int .i64)], app := [0] })])], own := [4], imm := [1] }
def items_Split.hint33 : Dp.Hint := { n := 19 }
noncomputable def items_Split.env : Dp.Env := { ti := ti, gl := gl, fns := [(12, Tryd.f12, items_Split.hint), (33, Tryd.f33, items_Split.hint33)], specs := [(34, octet_Trim.spec)], K := 0 }
noncomputable def items_Split.r0 (K : Nat) : Nat → (((List UInt8) × ((Nat) × (((List UInt8) × ((Nat) × ((Nat) × (Unit)))) × ((Bool) × ((Int) × (Unit)))))) × ((List (List UInt8)) × ((Unit) × ((Int) × (Unit))))) → Option ((((List UInt8) × ((Nat) × (((List UInt8) × ((Nat) × ((Nat) × (Unit)))) × ((Bool) × (Unit))))) × ((List (List UInt8)) × ((Unit) × ((Int) × (Unit)))))) :=
  loopV [(.exit 0, { regs := [(1, (.ref .str)), (4, (.loc 1 false [])), (6, (.fn 33 (.scons (.ref .str) (.scons (.loc 2 false []) (.scons (.loc 1 false []) .snil))))), (7, .bool)], heap := [(.row .str), (.slw 0), (.int .i64)], app := [0] })] { regs := [(1, (.ref .str)), (4, (.loc 1 false [])), (6, (.fn 33 (.scons (.ref .str) (.scons (.loc 2 false []) (.scons (.loc 1 false []) .snil))))), (7, .bool), (8, (.int .i64))], heap := [(.row .str), (.slw 0), (.int .i64)], app := [0] } (interp (items_Split.env.at K) items_Split.hint (callF (items_Split.env.at K) 7) (Code.sub [1, 0, 1, 1, 1, 1, 1, 0, 1, 0, 0] (Tryd.f12.body.getD .skip)) _)
theorem items_Split.s0 (K n : Nat) (x : (((List UInt8) × ((Nat) × (((List UInt8) × ((Nat) × ((Nat) × (Unit)))) × ((Bool) × ((Int) × (Unit)))))) × ((List (List UInt8)) × ((Unit) × ((Int) × (Unit)))))) : items_Split.r0 K (n + 1) x = items_Split.t0 K (items_Split.r0 K n) x := by kernel_rfl
theorem items_Split.e0 (K n : Nat) : items_Split.r0 K n = items_Split.l0 K n := by
  induction n with
  | zero => funext x; rfl
  | succ n ih => funext x; rw [items_Split.s0, ih]; rfl
theorem items_Split.body_eq (K : Nat) (x : items_Split.spec.args.den) : body (items_Split.env.at K) 8 12 items_Split.spec x = items_Split.tr (items_Split.r0 K) K x.1 := by kernel_rfl
theorem items_Split.contract : Contract Tryd.prog gl 12 items_Split.spec :=
  contract_of (E := items_Split.env) ⟨TIok_of tiOK, FnsOK_of ⟨⟨Tryd.func12, Tryd.call12⟩, ⟨Tryd.func33, Tryd.call33⟩, trivial⟩, mixed⟩ (SpecsOK_of (E := items_Split.env) ⟨octet_Trim.contract, trivial⟩) Tryd.call12 rfl rfl fun K x r h => by
    rw [items_Split.body_eq, show items_Split.r0 K = items_Split.l0 K from funext (items_Split.e0 K)]; exact h

def stringslite_IndexByte.spec : Dp.Spec := { args := (.scons .str (.scons (.int .u8) .snil)), res := (.int .i64), own := false, F := fun K x => stringslite_IndexByte K x.1 x.2.1 }
def stringslite_IndexByte.hint : Dp.Hint := { n := 8 }
noncomputable def stringslite_IndexByte.env : Dp.Env := { ti := ti, gl := gl, fns := [(117, Tryd.f117, stringslite_IndexByte.hint)], specs := [(130, ixb.spec)], K := 0 }
theorem stringslite_IndexByte.body_eq (K : Nat) (x : stringslite_IndexByte.spec.args.den) : body (stringslite_IndexByte.env.at K) 8 117 stringslite_IndexByte.spec x = stringslite_IndexByte K x.1 x.2.1 := by kernel_rfl
theorem stringslite_IndexByte.contract : Contract Tryd.prog gl 117 stringslite_IndexByte.spec :=
  contract_of (E := stringslite_IndexByte.env) ⟨TIok_of tiOK, FnsOK_of ⟨⟨Tryd.func117, Tryd.call117⟩, trivial⟩, mixed⟩ (SpecsOK_of (E := stringslite_IndexByte.env) ⟨ixb.contract, trivial⟩) Tryd.call117 rfl rfl fun K x r h => by
    rw [stringslite_IndexByte.body_eq]; exact h

def strings_IndexByte.spec : Dp.Spec := { args := (.scons .str (.scons (.int .u8) .snil)), res := (.int .i64), own := false, F := fun K x => strings_IndexByte K x.1 x.2.1 }
def strings_IndexByte.hint : Dp.Hint := { n := 8 }
noncomputable def strings_IndexByte.env : Dp.Env := { ti := ti, gl := gl, fns := [(99, Tryd.f99, strings_IndexByte.hint)], specs := [(117, stringslite_IndexByte.spec)], K := 0 }
theorem strings_IndexByte.body_eq (K : Nat) (x : strings_IndexByte.spec.args.den) : body (strings_IndexByte.env.at K) 8 99 strings_IndexByte.spec x = strings_IndexByte K x.1 x.2.1 := by kernel_rfl
theorem strings_IndexByte.contract : Contract Tryd.prog gl 99 strings_IndexByte.spec :=
  contract_of (E := strings_IndexByte.env) ⟨TIok_of tiOK, FnsOK_of ⟨⟨Tryd.func99, Tryd.call99⟩, trivial⟩, mixed⟩ (SpecsOK_of (E := strings_IndexByte.env) ⟨stringslite_IndexByte.contract, trivial⟩) Tryd.call99 rfl rfl fun K x r h => by
    rw [strings_IndexByte.body_eq]; exact h

def octet_Cut.spec : Dp.Spec := { args := (.scons .str (.scons (.int .u8) .snil)), res := (.tup (.scons .str (.scons .str (.scons .bool .snil)))), own := false, F := fun K x => octet_Cut K x.1 x.2.1 }
def octet_Cut.hint : Dp.Hint := { n := 21 }
noncomputable def octet_Cut.env : Dp.Env := { ti := ti, gl := gl, fns := [(62, Tryd.f62, octet_Cut.hint)], specs := [(99, strings_IndexByte.spec)], K := 0 }
theorem octet_Cut.body_eq (K : Nat) (x : octet_Cut.spec.args.den) : body (octet_Cut.env.at K) 8 62 octet_Cut.spec x = octet_Cut K x.1 x.2.1 := by kernel_rfl
theorem octet_Cut.contract : Contract Tryd.prog gl 62 octet_Cut.spec :=
  contract_of (E := octet_Cut.env) ⟨TIok_of tiOK, FnsOK_of ⟨⟨Tryd.func62, Tryd.call62⟩, trivial⟩, mixed⟩ (SpecsOK_of (E := octet_Cut.env) ⟨strings_IndexByte.contract, trivial⟩) Tryd.call62 rfl rfl fun K x r h => by
    rw [octet_Cut.body_eq]; exact h

def octet_oneOf.spec : Dp.Spec := { args := (.scons .str .snil), res := (.fn 98 (.scons (.ref .str) .snil)), own := false, F := fun K x => octet_oneOf K x.1 }
def octet_oneOf.hint : Dp.Hint := { n := 4, imm := [1] }
noncomputable def octet_oneOf.env : Dp.Env := { ti := ti, gl := gl, fns := [(60, Tryd.f60, octet_oneOf.hint)], specs := [], K := 0 }
theorem octet_oneOf.body_eq (K : Nat) (x : octet_oneOf.spec.args.den) : body (octet_oneOf.env.at K) 8 60 octet_oneOf.spec x = octet_oneOf K x.1 := by kernel_rfl
theorem octet_oneOf.contract : Contract Tryd.prog gl 60 octet_oneOf.spec :=
  contract_of (E := octet_oneOf.env) ⟨TIok_of tiOK, FnsOK_of ⟨⟨Tryd.func60, Tryd.call60⟩, trivial⟩, mixed⟩ (SpecsOK_of (E := octet_oneOf.env) trivial) Tryd.call60 rfl rfl fun K x r h => by
    rw [octet_oneOf.body_eq]; exact h

def octet_is__from_c1.spec : Dp.Spec := { args := (.scons (.int .u8) (.scons (.hl (.scons (.fn 55 (.scons (.ref (.int .u8)) (.scons (.ref (.int .u8)) .snil))) .snil)) .snil)), res := .bool, own := false, F := fun K x => octet_is__from_c1 K x.1 x.2.1 }
def octet_is__from_c1.hint : Dp.Hint := { n := 17 }
noncomputable def octet_is__from_c1.env : Dp.Env := { ti := ti, gl := gl, fns := [(58, Tryd.f58, octet_is__from_c1.hint)], specs := [(55, octet_from_c1.spec)], K := 0 }
theorem octet_is__from_c1.body_eq (K : Nat) (x : octet_is__from_c1.spec.args.den) : body (octet_is__from_c1.env.at K) 8 58 octet_is__from_c1.spec x = octet_is__from_c1 K x.1 x.2.1 := by kernel_rfl
theorem octet_is__from_c1.contract : Contract Tryd.prog gl 58 octet_is__from_c1.spec :=
  contract_of (E := octet_is__from_c1.env) ⟨TIok_of tiOK, FnsOK_of ⟨⟨Tryd.func58, Tryd.call58⟩, trivial⟩, mixed⟩ (SpecsOK_of (E := octet_is__from_c1.env) ⟨octet_from_c1.contract, trivial⟩) Tryd.call58 rfl rfl fun K x r h => by
    rw [octet_is__from_c1.body_eq]; exact h

def octet_Digit.spec : Dp.Spec := { args := (.scons (.int .u8) .snil), res := .bool, own := false, F := fun K x => octet_Digit K x.1 }
def octet_Digit.hint : Dp.Hint := { n := 7 }
noncomputable def octet_Digit.env : Dp.Env := { ti := ti, gl := gl, fns := [(59, Tryd.f59, octet_Digit.hint)], specs := [(39, octet_from.spec), (58, octet_is__from_c1.spec)], K := 0 }
theorem octet_Digit.body_eq (K : Nat) (x : octet_Digit.spec.args.den) : body (octet_Digit.env.at K) 8 59 octet_Digit.spec x = octet_Digit K x.1 := by kernel_rfl
theorem octet_Digit.contract : Contract Tryd.prog gl 59 octet_Digit.spec :=
  contract_of (E := octet_Digit.env) ⟨TIok_of tiOK, FnsOK_of ⟨⟨Tryd.func59, Tryd.call59⟩, trivial⟩, mixed⟩ (SpecsOK_of (E := octet_Digit.env) ⟨octet_from.contract, octet_is__from_c1.contract, trivial⟩) Tryd.call59 rfl rfl fun K x r h => by
    rw [octet_Digit.body_eq]; exact h

def octet_oneOf_c1.spec : Dp.Spec := { args := (.scons (.int .u8) (.scons (.ref .str) .snil)), res := .bool, own := false, F := fun K x => octet_oneOf_c1 K x.1 x.2.1 }
def octet_oneOf_c1.hint : Dp.Hint := { n := 8 }
noncomputable def octet_oneOf_c1.env : Dp.Env := { ti := ti, gl := gl, fns := [(98, Tryd.f98, octet_oneOf_c1.hint)], specs := [(99, strings_IndexByte.spec)], K := 0 }
theorem octet_oneOf_c1.body_eq (K : Nat) (x : octet_oneOf_c1.spec.args.den) : body (octet_oneOf_c1.env.at K) 8 98 octet_oneOf_c1.spec x = octet_oneOf_c1 K x.1 x.2.1 := by kernel_rfl
theorem octet_oneOf_c1.contract : Contract Tryd.prog gl 98 octet_oneOf_c1.spec :=
  contract_of (E := octet_oneOf_c1.env) ⟨TIok_of tiOK, FnsOK_of ⟨⟨Tryd.func98, Tryd.call98⟩, trivial⟩, mixed⟩ (SpecsOK_of (E := octet_oneOf_c1.env) ⟨strings_IndexByte.contract, trivial⟩) Tryd.call98 rfl rfl fun K x r h => by
    rw [octet_oneOf_c1.body_eq]; exact h

def octet_is__Digit_from_c1_from_c1_oneOf_c1.spec : Dp.Spec := { args := (.scons (.int .u8) (.scons (.hl (.scons (.fn 59 .snil) (.scons (.fn 55 (.scons (.ref (.int .u8)) (.scons (.ref (.int .u8)) .snil))) (.scons (.fn 55 (.scons (.ref (.int .u8)) (.scons (.ref (.int .u8)) .snil))) (.scons (.fn 98 (.scons (.ref .str) .snil)) .snil))))) .snil)), res := .bool, own := false, F := fun K x => octet_is__Digit_from_c1_from_c1_oneOf_c1 K x.1 x.2.1 }
def octet_is__Digit_from_c1_from_c1_oneOf_c1.hint : Dp.Hint := { n := 17 }
noncomputable def octet_is__Digit_from_c1_from_c1_oneOf_c1.env : Dp.Env := { ti := ti, gl := gl, fns := [(58, Tryd.f58, octet_is__Digit_from_c1_from_c1_oneOf_c1.hint)], specs := [(55, octet_from_c1.spec), (59, octet_Digit.spec), (98, octet_oneOf_c1.spec)], K := 0 }
theorem octet_is__Digit_from_c1_from_c1_oneOf_c1.body_eq (K : Nat) (x : octet_is__Digit_from_c1_from_c1_oneOf_c1.spec.args.den) : body (octet_is__Digit_from_c1_from_c1_oneOf_c1.env.at K) 8 58 octet_is__Digit_from_c1_from_c1_oneOf_c1.spec x = octet_is__Digit_from_c1_from_c1_oneOf_c1 K x.1 x.2.1 := by kernel_rfl
theorem octet_is__Digit_from_c1_from_c1_oneOf_c1.contract : Contract Tryd.prog gl 58 octet_is__Digit_from_c1_from_c1_oneOf_c1.spec :=
  contract_of (E := octet_is__Digit_from_c1_from_c1_oneOf_c1.env) ⟨TIok_of tiOK, FnsOK_of ⟨⟨Tryd.func58, Tryd.call58⟩, trivial⟩, mixed⟩ (SpecsOK_of (E := octet_is__Digit_from_c1_from_c1_oneOf_c1.env) ⟨octet_from_c1.contract, octet_Digit.contract, octet_oneOf_c1.contract, trivial⟩) Tryd.call58 rfl rfl fun K x r h => by
    rw [octet_is__Digit_from_c1_from_c1_oneOf_c1.body_eq]; exact h

def octet_Token.spec : Dp.Spec := { args := (.scons (.int .u8) .snil), res := .bool, own := false, F := fun K x => octet_Token K x.1 }
def octet_Token.hint : Dp.Hint := { n := 9 }
noncomputable def octet_Token.env : Dp.Env := { ti := ti, gl := gl, fns := [(42, Tryd.f42, octet_Token.hint)], specs := [(39, octet_from.spec), (60, octet_oneOf.spec), (58, octet_is__Digit_from_c1_from_c1_oneOf_c1.spec)], K := 0 }
theorem octet_Token.body_eq (K : Nat) (x : octet_Token.spec.args.den) : body (octet_Token.env.at K) 8 42 octet_Token.spec x = octet_Token K x.1 := by kernel_rfl
theorem octet_Token.contract : Contract Tryd.prog gl 42 octet_Token.spec :=
  contract_of (E := octet_Token.env) ⟨TIok_of tiOK, FnsOK_of ⟨⟨Tryd.func42, Tryd.call42⟩, trivial⟩, mixed⟩ (SpecsOK_of (E := octet_Token.env) ⟨octet_from.contract, octet_oneOf.contract, octet_is__Digit_from_c1_from_c1_oneOf_c1.contract, trivial⟩) Tryd.call42 rfl rfl fun K x r h => by
    rw [octet_Token.body_eq]; exact h

def octet_all__Token.spec : Dp.Spec := { args := (.scons .str (.scons (.fn 42 .snil) .snil)), res := .bool, own := false, F := fun K x => octet_all__Token K x.1 }
def octet_all__Token.hint : Dp.Hint := { n := 19, loops := [(2, { regs := [(1, (.fn 42 .snil)), (8, (.list (.int .u8))), (9, (.int .i64)), (10, (.int .i64))] }, [(.exit 0, { regs := [] }), (.ret, { regs := [(4, .bool)] })])] }
noncomputable def octet_all__Token.env : Dp.Env := { ti := ti, gl := gl, fns := [(41, Tryd.f41, octet_all__Token.hint)], specs := [(42, octet_Token.spec)], K := 0 }
noncomputable def octet_all__Token.r0 (K : Nat) : Nat → (((Unit) × ((List (Int)) × ((Int) × ((Int) × (Unit))))) × (Unit)) → Option (((Unit) × (Unit)) ⊕ (((Bool) × (Unit)) × (Unit))) :=
  loopV [(.exit 0, { regs := [] }), (.ret, { regs := [(4, .bool)] })] { regs := [(1, (.fn 42 .snil)), (8, (.list (.int .u8))), (9, (.int .i64)), (10, (.int .i64))] } (interp (octet_all__Token.env.at K) octet_all__Token.hint (callF (octet_all__Token.env.at K) 7) (Code.sub [1, 0, 1, 0, 0] (Tryd.f41.body.getD .skip)) _)
theorem octet_all__Token.s0 (K n : Nat) (x : (((Unit) × ((List (Int)) × ((Int) × ((Int) × (Unit))))) × (Unit))) : octet_all__Token.r0 K (n + 1) x = octet_all__Token.t0 K (octet_all__Token.r0 K n) x := by kernel_rfl
theorem octet_all__Token.e0 (K n : Nat) : octet_all__Token.r0 K n = octet_all__Token.l0 K n := by
  induction n with
  | zero => funext x; rfl
  | succ n ih => funext x; rw [octet_all__Token.s0, ih]; rfl
theorem octet_all__Token.body_eq (K : Nat) (x : octet_all__Token.spec.args.den) : body (octet_all__Token.env.at K) 8 41 octet_all__Token.spec x = octet_all__Token.tr (octet_all__Token.r0 K) K x.1 := by kernel_rfl
theorem octet_all__Token.contract : Contract Tryd.prog gl 41 octet_all__Token.spec :=
  contract_of (E := octet_all__Token.env) ⟨TIok_of tiOK, FnsOK_of ⟨⟨Tryd.func41, Tryd.call41⟩, trivial⟩, mixed⟩ (SpecsOK_of (E := octet_all__Token.env) ⟨octet_Token.contract, trivial⟩) Tryd.call41 rfl rfl fun K x r h => by
    rw [octet_all__Token.body_eq, show octet_all__Token.r0 K = octet_all__Token.l0 K from funext (octet_all__Token.e0 K)]; exact h

def octet_IsToken.spec : Dp.Spec := { args := (.scons .str .snil), res := .bool, own := false, F := fun K x => octet_IsToken K x.1 }
def octet_IsToken.hint : Dp.Hint := { n := 9 }
noncomputable def octet_IsToken.env : Dp.Env := { ti := ti, gl := gl, fns := [(23, Tryd.f23, octet_IsToken.hint)], specs := [(41, octet_all__Token.spec)], K := 0 }
theorem octet_IsToken.body_eq (K : Nat) (x : octet_IsToken.spec.args.den) : body (octet_IsToken.env.at K) 8 23 octet_IsToken.spec x = octet_IsToken K x.1 := by kernel_rfl
theorem octet_IsToken.contract : Contract Tryd.prog gl 23 octet_IsToken.spec :=
  contract_of (E := octet_IsToken.env) ⟨TIok_of tiOK, FnsOK_of ⟨⟨Tryd.func23, Tryd.call23⟩, trivial⟩, mixed⟩ (SpecsOK_of (E := octet_IsToken.env) ⟨octet_all__Token.contract, trivial⟩) Tryd.call23 rfl rfl fun K x r h => by
    rw [octet_IsToken.body_eq]; exact h

def items_Param.spec : Dp.Spec := { args := (.scons .str .snil), res := (.tup (.scons .str (.scons .str (.scons .bool (.scons (.int .i64) .snil))))), own := false, F := fun K x => items_Param K x.1 }
def items_Param.hint : Dp.Hint := { n := 39, conds := [(25, [(.normal, { regs := [(6, .str), (7, .str), (8, .bool)] }), (.ret, { regs := [(2, .str), (3, .str), (4, .bool), (5, (.int .i64))] })])], regions := [(4, [(.normal, { regs := [(6, .str), (7, .str), (8, .bool), (25, .bool)] })])] }
noncomputable def items_Param.env : Dp.Env := { ti := ti, gl := gl, fns := [(45, Tryd.f45, items_Param.hint)], specs := [(19, octet_Lower.spec), (62, octet_Cut.spec), (23, octet_IsToken.spec), (63, items_Unquote.spec)], K := 0 }
theorem items_Param.body_eq (K : Nat) (x : items_Param.spec.args.den) : body (items_Param.env.at K) 8 45 items_Param.spec x = items_Param K x.1 := by kernel_rfl
theorem items_Param.contract : Contract Tryd.prog gl 45 items_Param.spec :=
  contract_of (E := items_Param.env) ⟨TIok_of tiOK, FnsOK_of ⟨⟨Tryd.func45, Tryd.call45⟩, trivial⟩, mixed⟩ (SpecsOK_of (E := items_Param.env) ⟨octet_Lower.contract, octet_Cut.contract, octet_IsToken.contract, items_Unquote.contract, trivial⟩) Tryd.call45 rfl rfl fun K x r h => by
    rw [items_Param.body_eq]; exact h

def control_directives.spec : Dp.Spec := { args := .snil, res := (.list (.scons .str (.scons (.fnu [64, 65, 66, 67, 68, 69, 70, 71, 73, 74]) .snil))), own := false, F := fun K x => control_directives K }
def control_directives.hint : Dp.Hint := { n := 12 }
noncomputable def control_directives.env : Dp.Env := { ti := ti, gl := gl, fns := [(46, Tryd.f46, control_directives.hint)], specs := [], K := 0 }
theorem control_directives.body_eq (K : Nat) (x : control_directives.spec.args.den) : body (control_directives.env.at K) 8 46 control_directives.spec x = control_directives K := by kernel_rfl
theorem control_directives.contract : Contract Tryd.prog gl 46 control_directives.spec :=
  contract_of (E := control_directives.env) ⟨TIok_of tiOK, FnsOK_of ⟨⟨Tryd.func46, Tryd.call46⟩, trivial⟩, mixed⟩ (SpecsOK_of (E := control_directives.env) trivial) Tryd.call46 rfl rfl fun K x r h => by
    rw [control_directives.body_eq]; exact h

def decimal_digit.spec : Dp.Spec := { args := (.scons (.int .i32) (.scons (.int .i64) .snil)), res := (.int .i64), own := false, F := fun K x => decimal_digit K x.1 x.2.1 }
def decimal_digit.hint : Dp.Hint := { n := 42, conds := [(6, [(.normal, { regs := [(1, (.int .i64)), (5, (.int .i64))] })]), (16, [(.normal, { regs := [(1, (.int .i64)), (5, (.int .i64))] })]), (27, [(.normal, { regs := [(1, (.int .i64)), (5, (.int .i64))] })])], regions := [(2, [(.normal, { regs := [(0, (.int .i32)), (1, (.int .i64)), (5, (.int .i64)), (6, .bool)] })]), (4, [(.normal, { regs := [(0, (.int .i32)), (1, (.int .i64)), (5, (.int .i64)), (16, .bool)] })]), (6, [(.normal, { regs := [(0, (.int .i32)), (1, (.int .i64)), (5, (.int .i64)), (27, .bool)] })])] }
noncomputable def decimal_digit.env : Dp.Env := { ti := ti, gl := gl, fns := [(118, Tryd.f118, decimal_digit.hint)], specs := [], K := 0 }
theorem decimal_digit.body_eq (K : Nat) (x : decimal_digit.spec.args.den) : body (decimal_digit.env.at K) 8 118 decimal_digit.spec x = decimal_digit K x.1 x.2.1 := by kernel_rfl
theorem decimal_digit.contract : Contract Tryd.prog gl 118 decimal_digit.spec :=
  contract_of (E := decimal_digit.env) ⟨TIok_of tiOK, FnsOK_of ⟨⟨Tryd.func118, Tryd.call118⟩, trivial⟩, mixed⟩ (SpecsOK_of (E := decimal_digit.env) trivial) Tryd.call118 rfl rfl fun K x r h => by
    rw [decimal_digit.body_eq]; exact h

def decimal_least.spec : Dp.Spec := { args := (.scons (.int .i64) (.scons (.list (.int .i64)) .snil)), res := (.int .i64), own := false, F := fun K x => decimal_least K x.1 x.2.1 }
def decimal_least.hint : Dp.Hint := { n := 19, conds := [(15, [(.normal, { regs := [(0, (.int .i64)), (7, (.list (.int .i64))), (8, (.int .i64)), (9, (.int .i64))] })])], loops := [(2, { regs := [(0, (.int .i64)), (7, (.list (.int .i64))), (8, (.int .i64)), (9, (.int .i64))] }, [(.exit 0, { regs := [(0, (.int .i64))] })])] }
noncomputable def decimal_least.env : Dp.Env := { ti := ti, gl := gl, fns := [(119, Tryd.f119, decimal_least.hint)], specs := [], K := 0 }
noncomputable def decimal_least.r0 (K : Nat) : Nat → (((Int) × ((List (Int)) × ((Int) × ((Int) × (Unit))))) × (Unit)) → Option ((((Int) × (Unit)) × (Unit))) :=
  loopV [(.exit 0, { regs := [(0, (.int .i64))] })] { regs := [(0, (.int .i64)), (7, (.list (.int .i64))), (8, (.int .i64)), (9, (.int .i64))] } (interp (decimal_least.env.at K) decimal_least.hint (callF (decimal_least.env.at K) 7) (Code.sub [1, 0, 1, 0, 0] (Tryd.f119.body.getD .skip)) _)
theorem decimal_least.s0 (K n : Nat) (x : (((Int) × ((List (Int)) × ((Int) × ((Int) × (Unit))))) × (Unit))) : decimal_least.r0 K (n + 1) x = decimal_least.t0 K (decimal_least.r0 K n) x := by kernel_rfl
theorem decimal_least.e0 (K n : Nat) : decimal_least.r0 K n = decimal_least.l0 K n := by
  induction n with
  | zero => funext x; rfl
  | succ n ih => funext x; rw [decimal_least.s0, ih]; rfl
theorem decimal_least.body_eq (K : Nat) (x : decimal_least.spec.args.den) : body (decimal_least.env.at K) 8 119 decimal_least.spec x = decimal_least.tr (decimal_least.r0 K) K x.1 x.2.1 := by kernel_rfl
theorem decimal_least.contract : Contract Tryd.prog gl 119 decimal_least.spec :=
  contract_of (E := decimal_least.env) ⟨TIok_of tiOK, FnsOK_of ⟨⟨Tryd.func119, Tryd.call119⟩, trivial⟩, mixed⟩ (SpecsOK_of (E := decimal_least.env) trivial) Tryd.call119 rfl rfl fun K x r h => by
    rw [decimal_least.body_eq, show decimal_least.r0 K = decimal_least.l0 K from funext (decimal_least.e0 K)]; exact h

def decimal_Seconds.spec : Dp.Spec := { args := (.scons .str .snil), res := (.tup (.scons (.int .i64) (.scons .bool .snil))), own := false, F := fun K x => decimal_Seconds K x.1 }
def decimal_Seconds.hint : Dp.Hint := { n := 26, loops := [(3, { regs := [(0, .str), (4, (.int .i64)), (9, (.loc 0 false []))], heap := [.iter] }, [(.exit 0, { regs := [(0, .str), (4, (.int .i64))], heap := [.iter] }), (.ret, { regs := [(2, (.int .i64)), (3, .bool)], heap := [.iter] })])] }
noncomputable def decimal_Seconds.env : Dp.Env := { ti := ti, gl := gl, fns := [(101, Tryd.f101, decimal_Seconds.hint)], specs := [(118, decimal_digit.spec), (119, decimal_least.spec)], K := 0 }
noncomputable def decimal_Seconds.r0 (K : Nat) : Nat → (((List UInt8) × ((Int) × ((Nat) × (Unit)))) × ((List UInt8 × Nat) × (Unit))) → Option ((((List UInt8) × ((Int) × (Unit))) × ((List UInt8 × Nat) × (Unit))) ⊕ (((Int) × ((Bool) × (Unit))) × ((List UInt8 × Nat) × (Unit)))) :=
  loopV [(.exit 0, { regs := [(0, .str), (4, (.int .i64))], heap := [.iter] }), (.ret, { regs := [(2, (.int .i64)), (3, .bool)], heap := [.iter] })] { regs := [(0, .str), (4, (.int .i64)), (9, (.loc 0 false []))], heap := [.iter] } (interp (decimal_Seconds.env.at K) decimal_Seconds.hint (callF (decimal_Seconds.env.at K) 7) (Code.sub [1, 1, 0, 1, 0, 0] (Tryd.f101.body.getD .skip)) _)
theorem decimal_Seconds.s0 (K n : Nat) (x : (((List UInt8) × ((Int) × ((Nat) × (Unit)))) × ((List UInt8 × Nat) × (Unit)))) : decimal_Seconds.r0 K (n + 1) x = decimal_Seconds.t0 K (decimal_Seconds.r0 K n) x := by kernel_rfl
theorem decimal_Seconds.e0 (K n : Nat) : decimal_Seconds.r0 K n = decimal_Seconds.l0 K n := by
  induction n with
  | zero => funext x; rfl
  | succ n ih => funext x; rw [decimal_Seconds.s0, ih]; rfl
theorem decimal_Seconds.body_eq (K : Nat) (x : decimal_Seconds.spec.args.den) : body (decimal_Seconds.env.at K) 8 101 decimal_Seconds.spec x = decimal_Seconds.tr (decimal_Seconds.r0 K) K x.1 := by kernel_rfl
theorem decimal_Seconds.contract : Contract Tryd.prog gl 101 decimal_Seconds.spec :=
  contract_of (E := decimal_Seconds.env) ⟨TIok_of tiOK, FnsOK_of ⟨⟨Tryd.func101, Tryd.call101⟩, trivial⟩, mixed⟩ (SpecsOK_of (E := decimal_Seconds.env) ⟨decimal_digit.contract, decimal_least.contract, trivial⟩) Tryd.call101 rfl rfl fun K x r h => by
    rw [decimal_Seconds.body_eq, show decimal_Seconds.r0 K = decimal_Seconds.l0 K from funext (decimal_Seconds.e0 K)]; exact h

def control_seconds.spec : Dp.Spec := { args := (.scons .str (.scons (.int .i64) .snil)), res := (.int .i64), own := false, F := fun K x => control_seconds K x.1 x.2.1 }
def control_seconds.hint : Dp.Hint := { n := 16 }
noncomputable def control_seconds.env : Dp.Env := { ti := ti, gl := gl, fns := [(72, Tryd.f72, control_seconds.hint)], specs := [(101, decimal_Seconds.spec)], K := 0 }
theorem control_seconds.body_eq (K : Nat) (x : control_seconds.spec.args.den) : body (control_seconds.env.at K) 8 72 control_seconds.spec x = control_seconds K x.1 x.2.1 := by kernel_rfl
theorem control_seconds.contract : Contract Tryd.prog gl 72 control_seconds.spec :=
  contract_of (E := control_seconds.env) ⟨TIok_of tiOK, FnsOK_of ⟨⟨Tryd.func72, Tryd.call72⟩, trivial⟩, mixed⟩ (SpecsOK_of (E := control_seconds.env) ⟨decimal_Seconds.contract, trivial⟩) Tryd.call72 rfl rfl fun K x r h => by
    rw [control_seconds.body_eq]; exact h

def control_Least.spec : Dp.Spec := { args := (.scons (.int .i64) (.scons (.int .i64) .snil)), res := (.int .i64), own := false, F := fun K x => control_Least K x.1 x.2.1 }
def control_Least.hint : Dp.Hint := { n := 23, regions := [(1, [(.normal, { regs := [(0, (.int .i64)), (1, (.int .i64)), (5, .bool)] })])] }
noncomputable def control_Least.env : Dp.Env := { ti := ti, gl := gl, fns := [(24, Tryd.f24, control_Least.hint)], specs := [], K := 0 }
theorem control_Least.body_eq (K : Nat) (x : control_Least.spec.args.den) : body (control_Least.env.at K) 8 24 control_Least.spec x = control_Least K x.1 x.2.1 := by kernel_rfl
theorem control_Least.contract : Contract Tryd.prog gl 24 control_Least.spec :=
  contract_of (E := control_Least.env) ⟨TIok_of tiOK, FnsOK_of ⟨⟨Tryd.func24, Tryd.call24⟩, trivial⟩, mixed⟩ (SpecsOK_of (E := control_Least.env) trivial) Tryd.call24 rfl rfl fun K x r h => by
    rw [control_Least.body_eq]; exact h

def control_Parse.spec : Dp.Spec := { args := (.scons (.list (.scons .str (.scons .str .snil))) .snil), res := (.scons .bool (.scons .bool (.scons .bool (.scons .bool (.scons .bool (.scons .bool (.scons (.int .i64) (.scons (.int .i64) (.scons (.int .i64) .snil))))))))), own := false, F := fun K x => control_Parse K x.1 }
def control_Parse.hint : Dp.Hint := { n := 25, conds := [(12, [(.normal, { regs := [(2, (.loc 0 false [])), (3, (.loc 1 false []))], heap := [(.scons .bool (.scons .bool (.scons .bool (.scons .bool (.scons .bool (.scons .bool (.scons (.int .i64) (.scons (.int .i64) (.scons (.int .i64) .snil))))))))), (.scons (.scons .bool (.scons .bool (.scons .bool (.scons .bool (.scons .bool (.scons .bool (.scons (.int .i64) (.scons (.int .i64) (.scons (.int .i64) .snil))))))))) .snil)] })])] }
def control_Parse.hint25 : Dp.Hint := { n := 40, regions := [(6, [(.normal, { regs := [(1, (.bm 27 (.scons (.loc 1 false []) .snil))), (5, .bool), (8, (.list .str)), (12, (.list .str)), (13, (.int .i64)), (14, (.int .i64))], heap := [(.scons .bool (.scons .bool (.scons .bool (.scons .bool (.scons .bool (.scons .bool (.scons (.int .i64) (.scons (.int .i64) (.scons (.int .i64) .snil))))))))), (.scons (.scons .bool (.scons .bool (.scons .bool (.scons .bool (.scons .bool (.scons .bool (.scons (.int .i64) (.scons (.int .i64) (.scons (.int .i64) .snil))))))))) .snil)] })]), (10, [(.normal, { regs := [(1, (.bm 27 (.scons (.loc 1 false []) .snil))), (5, .bool), (12, (.list .str)), (13, (.int .i64)), (14, (.int .i64)), (28, (.list .str)), (29, (.int .i64)), (30, (.int .i64))], heap := [(.scons .bool (.scons .bool (.scons .bool (.scons .bool (.scons .bool (.scons .bool (.scons (.int .i64) (.scons (.int .i64) (.scons (.int .i64) .snil))))))))), (.scons (.scons .bool (.scons .bool (.scons .bool (.scons .bool (.scons .bool (.scons .bool (.scons (.int .i64) (.scons (.int .i64) (.scons (.int .i64) .snil))))))))) .snil)] })])], loops := [(3, { regs := [(1, (.bm 27 (.scons (.loc 1 false []) .snil))), (5, .bool), (12, (.list .str)), (13, (.int .i64)), (14, (.int .i64))], heap := [(.scons .bool (.scons .bool (.scons .bool (.scons .bool (.scons .bool (.scons .bool (.scons (.int .i64) (.scons (.int .i64) (.scons (.int .i64) .snil))))))))), (.scons (.scons .bool (.scons .bool (.scons .bool (.scons .bool (.scons .bool (.scons .bool (.scons (.int .i64) (.scons (.int .i64) (.scons (.int .i64) .snil))))))))) .snil)] }, [(.exit 0, { regs := [(5, .bool)], heap := [(.scons .bool (.scons .bool (.scons .bool (.scons .bool (.scons .bool (.scons .bool (.scons (.int .i64) (.scons (.int .i64) (.scons (.int .i64) .snil))))))))), (.scons (.scons .bool (.scons .bool (.scons .bool (.scons .bool (.scons .bool (.scons .bool (.scons (.int .i64) (.scons (.int .i64) (.scons (.int .i64) .snil))))))))) .snil)] })]), (8, { regs := [(1, (.bm 27 (.scons (.loc 1 false []) .snil))), (5, .bool), (12, (.list .str)), (13, (.int .i64)), (14, (.int .i64)), (28, (.list .str)), (29, (.int .i64)), (30, (.int .i64))], heap := [(.scons .bool (.scons .bool (.scons .bool (.scons .bool (.scons .bool (.scons .bool (.scons (.int .i64) (.scons (.int .i64) (.scons (.int .i64) .snil))))))))), (.scons (.scons .bool (.scons .bool (.scons .bool (.scons .bool (.scons .bool (.scons .bool (.scons (.int .i64) (.scons (.int .i64) (.scons (.int .i64) .snil))))))))) .snil)] }, [(.exit 2, { regs := [(1, (.bm 27 (.scons (.loc 1 false []) .snil))), (5, .bool), (12, (.list .str)), (13, (.int .i64)), (14, (.int .i64))], heap := [(.scons .bool (.scons .bool (.scons .bool (.scons .bool (.scons .bool (.scons .bool (.scons (.int .i64) (.scons (.int .i64) (.scons (.int .i64) .snil))))))))), (.scons (.scons .bool (.scons .bool (.scons .bool (.scons .bool (.scons .bool (.scons .bool (.scons (.int .i64) (.scons (.int .i64) (.scons (.int .i64) .snil))))))))) .snil)] })])] }
def control_Parse.hint27 : Dp.Hint := { n := 35, conds := [(28, [(.normal, { regs := [(0, (.loc 1 false [])), (4, .str), (5, .str), (19, (.list (.scons .str (.scons (.fnu [64, 65, 66, 67, 68, 69, 70, 71, 73, 74]) .snil)))), (20, (.int .i64)), (21, (.int .i64))], heap := [(.scons .bool (.scons .bool (.scons .bool (.scons .bool (.scons .bool (.scons .bool (.scons (.int .i64) (.scons (.int .i64) (.scons (.int .i64) .snil))))))))), (.scons (.scons .bool (.scons .bool (.scons .bool (.scons .bool (.scons .bool (.scons .bool (.scons (.int .i64) (.scons (.int .i64) (.scons (.int .i64) .snil))))))))) .snil), (.scons .str (.scons (.fnu [64, 65, 66, 67, 68, 69, 70, 71, 73, 74]) .snil))] })])], regions := [(6, [(.normal, { regs := [(0, (.loc 1 false [])), (4, .str), (5, .str), (19, (.list (.scons .str (.scons (.fnu [64, 65, 66, 67, 68, 69, 70, 71, 73, 74]) .snil)))), (20, (.int .i64)), (21, (.int .i64))], heap := [(.scons .bool (.scons .bool (.scons .bool (.scons .bool (.scons .bool (.scons .bool (.scons (.int .i64) (.scons (.int .i64) (.scons (.int .i64) .snil))))))))), (.scons (.scons .bool (.scons .bool (.scons .bool (.scons .bool (.scons .bool (.scons .bool (.scons (.int .i64) (.scons (.int .i64) (.scons (.int .i64) .snil))))))))) .snil), (.scons .str (.scons (.fnu [64, 65, 66, 67, 68, 69, 70, 71, 73, 74]) .snil))] })])], loops := [(3, { regs := [(0, (.loc 1 false [])), (4, .str), (5, .str), (19, (.list (.scons .str (.scons (.fnu [64, 65, 66, 67, 68, 69, 70, 71, 73, 74]) .snil)))), (20, (.int .i64)), (21, (.int .i64))], heap := [(.scons .bool (.scons .bool (.scons .bool (.scons .bool (.scons .bool (.scons .bool (.scons (.int .i64) (.scons (.int .i64) (.scons (.int .i64) .snil))))))))), (.scons (.scons .bool (.scons .bool (.scons .bool (.scons .bool (.scons .bool (.scons .bool (.scons (.int .i64) (.scons (.int .i64) (.scons (.int .i64) .snil))))))))) .snil)] }, [(.exit 0, { regs := [], heap := [(.scons .bool (.scons .bool (.scons .bool (.scons .bool (.scons .bool (.scons .bool (.scons (.int .i64) (.scons (.int .i64) (.scons (.int .i64) .snil))))))))), (.scons (.scons .bool (.scons .bool (.scons .bool (.scons .bool (.scons .bool (.scons .bool (.scons (.int .i64) (.scons (.int .i64) (.scons (.int .i64) .snil))))))))) .snil)] })])] }
def control_Parse.hint64 : Dp.Hint := { n := 8 }
def control_Parse.hint65 : Dp.Hint := { n := 8 }
def control_Parse.hint66 : Dp.Hint := { n := 8 }
def control_Parse.hint67 : Dp.Hint := { n := 8 }
def control_Parse.hint68 : Dp.Hint := { n := 8 }
def control_Parse.hint69 : Dp.Hint := { n := 8 }
def control_Parse.hint70 : Dp.Hint := { n := 8 }
def control_Parse.hint71 : Dp.Hint := { n := 16 }
def control_Parse.hint73 : Dp.Hint := { n := 16 }
def control_Parse.hint74 : Dp.Hint := { n := 16 }
noncomputable def control_Parse.env : Dp.Env := { ti := ti, gl := gl, fns := [(8, Tryd.f8, control_Parse.hint), (25, Tryd.f25, control_Parse.hint25), (27, Tryd.f27, control_Parse.hint27), (64, Tryd.f64, control_Parse.hint64), (65, Tryd.f65, control_Parse.hint65), (66, Tryd.f66, control_Parse.hint66), (67, Tryd.f67, control_Parse.hint67), (68, Tryd.f68, control_Parse.hint68), (69, Tryd.f69, control_Parse.hint69), (70, Tryd.f70, control_Parse.hint70), (71, Tryd.f71, control_Parse.hint71), (73, Tryd.f73, control_Parse.hint73), (74, Tryd.f74, control_Parse.hint74)], specs := [(26, fields_All.spec), (12, items_Split.spec), (45, items_Param.spec), (46, control_directives.spec), (72, control_seconds.spec), (24, control_Least.spec)], K := 0 }
noncomputable def control_Parse.r0 (K : Nat) : Nat → (((Nat) × ((List UInt8) × ((List UInt8) × ((List ((List UInt8) × ((Nat) × (Unit)))) × ((Int) × ((Int) × (Unit))))))) × (((Bool) × ((Bool) × ((Bool) × ((Bool) × ((Bool) × ((Bool) × ((Int) × ((Int) × ((Int) × (Unit)))))))))) × ((((Bool) × ((Bool) × ((Bool) × ((Bool) × ((Bool) × ((Bool) × ((Int) × ((Int) × ((Int) × (Unit)))))))))) × (Unit)) × (Unit)))) → Option (((Unit) × (((Bool) × ((Bool) × ((Bool) × ((Bool) × ((Bool) × ((Bool) × ((Int) × ((Int) × ((Int) × (Unit)))))))))) × ((((Bool) × ((Bool) × ((Bool) × ((Bool) × ((Bool) × ((Bool) × ((Int) × ((Int) × ((Int) × (Unit)))))))))) × (Unit)) × (Unit))))) :=
  loopV [(.exit 0, { regs := [], heap := [(.scons .bool (.scons .bool (.scons .bool (.scons .bool (.scons .bool (.scons .bool (.scons (.int .i64) (.scons (.int .i64) (.scons (.int .i64) .snil))))))))), (.scons (.scons .bool (.scons .bool (.scons .bool (.scons .bool (.scons .bool (.scons .bool (.scons (.int .i64) (.scons (.int .i64) (.scons (.int .i64) .snil))))))))) .snil)] })] { regs := [(0, (.loc 1 false [])), (4, .str), (5, .str), (19, (.list (.scons .str (.scons (.fnu [64, 65, 66, 67, 68, 69, 70, 71, 73, 74]) .snil)))), (20, (.int .i64)), (21, (.int .i64))], heap := [(.scons .bool (.scons .bool (.scons .bool (.scons .bool (.scons .bool (.scons .bool (.scons (.int .i64) (.scons (.int .i64) (.scons (.int .i64) .snil))))))))), (.scons (.scons .bool (.scons .bool (.scons .bool (.scons .bool (.scons .bool (.scons .bool (.scons (.int .i64) (.scons (.int .i64) (.scons (.int .i64) .snil))))))))) .snil)] } (interp (control_Parse.env.at K) control_Parse.hint27 (callF (control_Parse.env.at K) 5) (Code.sub [1, 1, 1, 0, 0] (Tryd.f27.body.getD .skip)) _)
theorem control_Parse.s0 (K n : Nat) (x : (((Nat) × ((List UInt8) × ((List UInt8) × ((List ((List UInt8) × ((Nat) × (Unit)))) × ((Int) × ((Int) × (Unit))))))) × (((Bool) × ((Bool) × ((Bool) × ((Bool) × ((Bool) × ((Bool) × ((Int) × ((Int) × ((Int) × (Unit)))))))))) × ((((Bool) × ((Bool) × ((Bool) × ((Bool) × ((Bool) × ((Bool) × ((Int) × ((Int) × ((Int) × (Unit)))))))))) × (Unit)) × (Unit))))) : control_Parse.r0 K (n + 1) x = control_Parse.t0 K (control_Parse.r0 K n) x := by kernel_rfl
theorem control_Parse.e0 (K n : Nat) : control_Parse.r0 K n = control_Parse.l0 K n := by
  induction n with
  | zero => funext x; rfl
  | succ n ih => funext x; rw [control_Parse.s0, ih]; rfl
noncomputable def control_Parse.r1 (K : Nat) : Nat → ((((Nat) × (Unit)) × ((Bool) × ((List (List UInt8)) × ((Int) × ((Int) × ((List (List UInt8)) × ((Int) × ((Int) × (Unit))))))))) × (((Bool) × ((Bool) × ((Bool) × ((Bool) × ((Bool) × ((Bool) × ((Int) × ((Int) × ((Int) × (Unit)))))))))) × ((((Bool) × ((Bool) × ((Bool) × ((Bool) × ((Bool) × ((Bool) × ((Int) × ((Int) × ((Int) × (Unit)))))))))) × (Unit)) × (Unit)))) → Option (((((Nat) × (Unit)) × ((Bool) × ((List (List UInt8)) × ((Int) × ((Int) × (Unit)))))) × (((Bool) × ((Bool) × ((Bool) × ((Bool) × ((Bool) × ((Bool) × ((Int) × ((Int) × ((Int) × (Unit)))))))))) × ((((Bool) × ((Bool) × ((Bool) × ((Bool) × ((Bool) × ((Bool) × ((Int) × ((Int) × ((Int) × (Unit)))))))))) × (Unit)) × (Unit))))) :=
  loopV [(.exit 2, { regs := [(1, (.bm 27 (.scons (.loc 1 false []) .snil))), (5, .bool), (12, (.list .str)), (13, (.int .i64)), (14, (.int .i64))], heap := [(.scons .bool (.scons .bool (.scons .bool (.scons .bool (.scons .bool (.scons .bool (.scons (.int .i64) (.scons (.int .i64) (.scons (.int .i64) .snil))))))))), (.scons (.scons .bool (.scons .bool (.scons .bool (.scons .bool (.scons .bool (.scons .bool (.scons (.int .i64) (.scons (.int .i64) (.scons (.int .i64) .snil))))))))) .snil)] })] { regs := [(1, (.bm 27 (.scons (.loc 1 false []) .snil))), (5, .bool), (12, (.list .str)), (13, (.int .i64)), (14, (.int .i64)), (28, (.list .str)), (29, (.int .i64)), (30, (.int .i64))], heap := [(.scons .bool (.scons .bool (.scons .bool (.scons .bool (.scons .bool (.scons .bool (.scons (.int .i64) (.scons (.int .i64) (.scons (.int .i64) .snil))))))))), (.scons (.scons .bool (.scons .bool (.scons .bool (.scons .bool (.scons .bool (.scons .bool (.scons (.int .i64) (.scons (.int .i64) (.scons (.int .i64) .snil))))))))) .snil)] } (interp (control_Parse.env.at K) control_Parse.hint25 (callF (control_Parse.env.at K) 6) (Code.sub [1, 1, 0, 1, 0, 0, 1, 1, 0, 0, 1, 1, 1, 1, 0, 0] (Tryd.f25.body.getD .skip)) _)
theorem control_Parse.s1 (K n : Nat) (x : ((((Nat) × (Unit)) × ((Bool) × ((List (List UInt8)) × ((Int) × ((Int) × ((List (List UInt8)) × ((Int) × ((Int) × (Unit))))))))) × (((Bool) × ((Bool) × ((Bool) × ((Bool) × ((Bool) × ((Bool) × ((Int) × ((Int) × ((Int) × (Unit)))))))))) × ((((Bool) × ((Bool) × ((Bool) × ((Bool) × ((Bool) × ((Bool) × ((Int) × ((Int) × ((Int) × (Unit)))))))))) × (Unit)) × (Unit))))) : control_Parse.r1 K (n + 1) x = control_Parse.t1 (control_Parse.r0 K) K (control_Parse.r1 K n) x := by kernel_rfl
theorem control_Parse.e1 (K n : Nat) : control_Parse.r1 K n = control_Parse.l1 K n := by
  induction n with
  | zero => funext x; rfl
  | succ n ih => funext x; rw [control_Parse.s1, ih, show control_Parse.r0 K = control_Parse.l0 K from funext (control_Parse.e0 K)]; rfl
noncomputable def control_Parse.r2 (K : Nat) : Nat → ((((Nat) × (Unit)) × ((Bool) × ((List (List UInt8)) × ((Int) × ((Int) × (Unit)))))) × (((Bool) × ((Bool) × ((Bool) × ((Bool) × ((Bool) × ((Bool) × ((Int) × ((Int) × ((Int) × (Unit)))))))))) × ((((Bool) × ((Bool) × ((Bool) × ((Bool) × ((Bool) × ((Bool) × ((Int) × ((Int) × ((Int) × (Unit)))))))))) × (Unit)) × (Unit)))) → Option ((((Bool) × (Unit)) × (((Bool) × ((Bool) × ((Bool) × ((Bool) × ((Bool) × ((Bool) × ((Int) × ((Int) × ((Int) × (Unit)))))))))) × ((((Bool) × ((Bool) × ((Bool) × ((Bool) × ((Bool) × ((Bool) × ((Int) × ((Int) × ((Int) × (Unit)))))))))) × (Unit)) × (Unit))))) :=
  loopV [(.exit 0, { regs := [(5, .bool)], heap := [(.scons .bool (.scons .bool (.scons .bool (.scons .bool (.scons .bool (.scons .bool (.scons (.int .i64) (.scons (.int .i64) (.scons (.int .i64) .snil))))))))), (.scons (.scons .bool (.scons .bool (.scons .bool (.scons .bool (.scons .bool (.scons .bool (.scons (.int .i64) (.scons (.int .i64) (.scons (.int .i64) .snil))))))))) .snil)] })] { regs := [(1, (.bm 27 (.scons (.loc 1 false []) .snil))), (5, .bool), (12, (.list .str)), (13, (.int .i64)), (14, (.int .i64))], heap := [(.scons .bool (.scons .bool (.scons .bool (.scons .bool (.scons .bool (.scons .bool (.scons (.int .i64) (.scons (.int .i64) (.scons (.int .i64) .snil))))))))), (.scons (.scons .bool (.scons .bool (.scons .bool (.scons .bool (.scons .bool (.scons .bool (.scons (.int .i64) (.scons (.int .i64) (.scons (.int .i64) .snil))))))))) .snil)] } (interp (control_Parse.env.at K) control_Parse.hint25 (callF (control_Parse.env.at K) 6) (Code.sub [1, 1, 0, 1, 0, 0] (Tryd.f25.body.getD .skip)) _)
theorem control_Parse.s2 (K n : Nat) (x : ((((Nat) × (Unit)) × ((Bool) × ((List (List UInt8)) × ((Int) × ((Int) × (Unit)))))) × (((Bool) × ((Bool) × ((Bool) × ((Bool) × ((Bool) × ((Bool) × ((Int) × ((Int) × ((Int) × (Unit)))))))))) × ((((Bool) × ((Bool) × ((Bool) × ((Bool) × ((Bool) × ((Bool) × ((Int) × ((Int) × ((Int) × (Unit)))))))))) × (Unit)) × (Unit))))) : control_Parse.r2 K (n + 1) x = control_Parse.t2 (control_Parse.r1 K) K (control_Parse.r2 K n) x := by kernel_rfl
theorem control_Parse.e2 (K n : Nat) : control_Parse.r2 K n = control_Parse.l2 K n := by
  induction n with
  | zero => funext x; rfl
  | succ n ih => funext x; rw [control_Parse.s2, ih, show control_Parse.r1 K = control_Parse.l1 K from funext (control_Parse.e1 K)]; rfl
theorem control_Parse.body_eq (K : Nat) (x : control_Parse.spec.args.den) : body (control_Parse.env.at K) 8 8 control_Parse.spec x = control_Parse.tr (control_Parse.r2 K) K x.1 := by kernel_rfl
theorem control_Parse.contract : Contract Tryd.prog gl 8 control_Parse.spec :=
  contract_of (E := control_Parse.env) ⟨TIok_of tiOK, FnsOK_of ⟨⟨Tryd.func8, Tryd.call8⟩, ⟨Tryd.func25, Tryd.call25⟩, ⟨Tryd.func27, Tryd.call27⟩, ⟨Tryd.func64, Tryd.call64⟩, ⟨Tryd.func65, Tryd.call65⟩, ⟨Tryd.func66, Tryd.call66⟩, ⟨Tryd.func67, Tryd.call67⟩, ⟨Tryd.func68, Tryd.call68⟩, ⟨Tryd.func69, Tryd.call69⟩, ⟨Tryd.func70, Tryd.call70⟩, ⟨Tryd.func71, Tryd.call71⟩, ⟨Tryd.func73, Tryd.call73⟩, ⟨Tryd.func74, Tryd.call74⟩, trivial⟩, mixed⟩ (SpecsOK_of (E := control_Parse.env) ⟨fields_All.contract, items_Split.contract, items_Param.contract, control_directives.contract, control_seconds.contract, control_Least.contract, trivial⟩) Tryd.call8 rfl rfl fun K x r h => by
    rw [control_Parse.body_eq, show control_Parse.r2 K = control_Parse.l2 K from funext (control_Parse.e2 K)]; exact h

def fields_Get.spec : Dp.Spec := { args := (.scons (.list (.scons .str (.scons .str .snil))) (.scons .str .snil)), res := (.tup (.scons .str (.scons .bool .snil))), own := false, F := fun K x => fields_Get K x.1 x.2.1 }
def fields_Get.hint : Dp.Hint := { n := 15 }
noncomputable def fields_Get.env : Dp.Env := { ti := ti, gl := gl, fns := [(31, Tryd.f31, fields_Get.hint)], specs := [(26, fields_All.spec), (35, joinS.spec)], K := 0 }
theorem fields_Get.body_eq (K : Nat) (x : fields_Get.spec.args.den) : body (fields_Get.env.at K) 8 31 fields_Get.spec x = fields_Get K x.1 x.2.1 := by kernel_rfl
theorem fields_Get.contract : Contract Tryd.prog gl 31 fields_Get.spec :=
  contract_of (E := fields_Get.env) ⟨TIok_of tiOK, FnsOK_of ⟨⟨Tryd.func31, Tryd.call31⟩, trivial⟩, mixed⟩ (SpecsOK_of (E := fields_Get.env) ⟨fields_All.contract, joinS.contract, trivial⟩) Tryd.call31 rfl rfl fun K x r h => by
    rw [fields_Get.body_eq]; exact h

def items_Has.spec : Dp.Spec := { args := (.scons .str (.scons .str .snil)), res := .bool, own := false, F := fun K x => items_Has K x.1 x.2.1 }
def items_Has.hint : Dp.Hint := { n := 24, loops := [(3, { regs := [(1, .str), (14, (.list .str)), (15, (.int .i64)), (16, (.int .i64))] }, [(.exit 0, { regs := [] }), (.ret, { regs := [(4, .bool)] })])] }
noncomputable def items_Has.env : Dp.Env := { ti := ti, gl := gl, fns := [(48, Tryd.f48, items_Has.hint)], specs := [(20, octet_Same.spec), (12, items_Split.spec)], K := 0 }
noncomputable def items_Has.r0 (K : Nat) : Nat → (((List UInt8) × ((List (List UInt8)) × ((Int) × ((Int) × (Unit))))) × (Unit)) → Option (((Unit) × (Unit)) ⊕ (((Bool) × (Unit)) × (Unit))) :=
  loopV [(.exit 0, { regs := [] }), (.ret, { regs := [(4, .bool)] })] { regs := [(1, .str), (14, (.list .str)), (15, (.int .i64)), (16, (.int .i64))] } (interp (items_Has.env.at K) items_Has.hint (callF (items_Has.env.at K) 7) (Code.sub [1, 1, 0, 1, 0, 0] (Tryd.f48.body.getD .skip)) _)
theorem items_Has.s0 (K n : Nat) (x : (((List UInt8) × ((List (List UInt8)) × ((Int) × ((Int) × (Unit))))) × (Unit))) : items_Has.r0 K (n + 1) x = items_Has.t0 K (items_Has.r0 K n) x := by kernel_rfl
theorem items_Has.e0 (K n : Nat) : items_Has.r0 K n = items_Has.l0 K n := by
  induction n with
  | zero => funext x; rfl
  | succ n ih => funext x; rw [items_Has.s0, ih]; rfl
theorem items_Has.body_eq (K : Nat) (x : items_Has.spec.args.den) : body (items_Has.env.at K) 8 48 items_Has.spec x = items_Has.tr (items_Has.r0 K) K x.1 x.2.1 := by kernel_rfl
theorem items_Has.contract : Contract Tryd.prog gl 48 items_Has.spec :=
  contract_of (E := items_Has.env) ⟨TIok_of tiOK, FnsOK_of ⟨⟨Tryd.func48, Tryd.call48⟩, trivial⟩, mixed⟩ (SpecsOK_of (E := items_Has.env) ⟨octet_Same.contract, items_Split.contract, trivial⟩) Tryd.call48 rfl rfl fun K x r h => by
    rw [items_Has.body_eq, show items_Has.r0 K = items_Has.l0 K from funext (items_Has.e0 K)]; exact h

def fields_Has.spec : Dp.Spec := { args := (.scons (.list (.scons .str (.scons .str .snil))) (.scons .str (.scons .str .snil))), res := .bool, own := false, F := fun K x => fields_Has K x.1 x.2.1 x.2.2.1 }
def fields_Has.hint : Dp.Hint := { n := 21, loops := [(2, { regs := [(2, .str), (11, (.list .str)), (12, (.int .i64)), (13, (.int .i64))] }, [(.exit 0, { regs := [] }), (.ret, { regs := [(6, .bool)] })])] }
noncomputable def fields_Has.env : Dp.Env := { ti := ti, gl := gl, fns := [(32, Tryd.f32, fields_Has.hint)], specs := [(26, fields_All.spec), (48, items_Has.spec)], K := 0 }
noncomputable def fields_Has.r0 (K : Nat) : Nat → (((List UInt8) × ((List (List UInt8)) × ((Int) × ((Int) × (Unit))))) × (Unit)) → Option (((Unit) × (Unit)) ⊕ (((Bool) × (Unit)) × (Unit))) :=
  loopV [(.exit 0, { regs := [] }), (.ret, { regs := [(6, .bool)] })] { regs := [(2, .str), (11, (.list .str)), (12, (.int .i64)), (13, (.int .i64))] } (interp (fields_Has.env.at K) fields_Has.hint (callF (fields_Has.env.at K) 7) (Code.sub [1, 0, 1, 0, 0] (Tryd.f32.body.getD .skip)) _)
theorem fields_Has.s0 (K n : Nat) (x : (((List UInt8) × ((List (List UInt8)) × ((Int) × ((Int) × (Unit))))) × (Unit))) : fields_Has.r0 K (n + 1) x = fields_Has.t0 K (fields_Has.r0 K n) x := by kernel_rfl
theorem fields_Has.e0 (K n : Nat) : fields_Has.r0 K n = fields_Has.l0 K n := by
  induction n with
  | zero => funext x; rfl
  | succ n ih => funext x; rw [fields_Has.s0, ih]; rfl
theorem fields_Has.body_eq (K : Nat) (x : fields_Has.spec.args.den) : body (fields_Has.env.at K) 8 32 fields_Has.spec x = fields_Has.tr (fields_Has.r0 K) K x.1 x.2.1 x.2.2.1 := by kernel_rfl
theorem fields_Has.contract : Contract Tryd.prog gl 32 fields_Has.spec :=
  contract_of (E := fields_Has.env) ⟨TIok_of tiOK, FnsOK_of ⟨⟨Tryd.func32, Tryd.call32⟩, trivial⟩, mixed⟩ (SpecsOK_of (E := fields_Has.env) ⟨fields_All.contract, items_Has.contract, trivial⟩) Tryd.call32 rfl rfl fun K x r h => by
    rw [fields_Has.body_eq, show fields_Has.r0 K = fields_Has.l0 K from funext (fields_Has.e0 K)]; exact h

def control_Asked.spec : Dp.Spec := { args := (.scons (.list (.scons .str (.scons .str .snil))) .snil), res := (.scons .bool (.scons .bool (.scons .bool (.scons .bool (.scons .bool (.scons .bool (.scons (.int .i64) (.scons (.int .i64) (.scons (.int .i64) .snil))))))))), own := false, F := fun K x => control_Asked K x.1 }
def control_Asked.hint : Dp.Hint := { n := 21, regions := [(3, [(.normal, { regs := [(2, (.loc 0 false [])), (3, (.loc 1 false [])), (18, .bool)], heap := [(.scons .bool (.scons .bool (.scons .bool (.scons .bool (.scons .bool (.scons .bool (.scons (.int .i64) (.scons (.int .i64) (.scons (.int .i64) .snil))))))))), (.scons .bool (.scons .bool (.scons .bool (.scons .bool (.scons .bool (.scons .bool (.scons (.int .i64) (.scons (.int .i64) (.scons (.int .i64) .snil)))))))))] })])] }
noncomputable def control_Asked.env : Dp.Env := { ti := ti, gl := gl, fns := [(11, Tryd.f11, control_Asked.hint)], specs := [(8, control_Parse.spec), (31, fields_Get.spec), (32, fields_Has.spec)], K := 0 }
theorem control_Asked.body_eq (K : Nat) (x : control_Asked.spec.args.den) : body (control_Asked.env.at K) 8 11 control_Asked.spec x = control_Asked K x.1 := by kernel_rfl
theorem control_Asked.contract : Contract Tryd.prog gl 11 control_Asked.spec :=
  contract_of (E := control_Asked.env) ⟨TIok_of tiOK, FnsOK_of ⟨⟨Tryd.func11, Tryd.call11⟩, trivial⟩, mixed⟩ (SpecsOK_of (E := control_Asked.env) ⟨control_Parse.contract, fields_Get.contract, fields_Has.contract, trivial⟩) Tryd.call11 rfl rfl fun K x r h => by
    rw [control_Asked.body_eq]; exact h

def decimal_Plain.spec : Dp.Spec := { args := (.scons (.int .i64) .snil), res := .str, own := false, F := fun K x => decimal_Plain K x.1 }
def decimal_Plain.hint : Dp.Hint := { n := 5 }
noncomputable def decimal_Plain.env : Dp.Env := { ti := ti, gl := gl, fns := [(30, Tryd.f30, decimal_Plain.hint)], specs := [(47, itoa.spec)], K := 0 }
theorem decimal_Plain.body_eq (K : Nat) (x : decimal_Plain.spec.args.den) : body (decimal_Plain.env.at K) 8 30 decimal_Plain.spec x = decimal_Plain K x.1 := by kernel_rfl
theorem decimal_Plain.contract : Contract Tryd.prog gl 30 decimal_Plain.spec :=
  contract_of (E := decimal_Plain.env) ⟨TIok_of tiOK, FnsOK_of ⟨⟨Tryd.func30, Tryd.call30⟩, trivial⟩, mixed⟩ (SpecsOK_of (E := decimal_Plain.env) ⟨itoa.contract, trivial⟩) Tryd.call30 rfl rfl fun K x r h => by
    rw [decimal_Plain.body_eq]; exact h

def items_Join.spec : Dp.Spec := { args := (.scons (.list .str) .snil), res := .str, own := false, F := fun K x => items_Join K x.1 }
def items_Join.hint : Dp.Hint := { n := 5 }
noncomputable def items_Join.env : Dp.Env := { ti := ti, gl := gl, fns := [(13, Tryd.f13, items_Join.hint)], specs := [(35, joinS.spec)], K := 0 }
theorem items_Join.body_eq (K : Nat) (x : items_Join.spec.args.den) : body (items_Join.env.at K) 8 13 items_Join.spec x = items_Join K x.1 := by kernel_rfl
theorem items_Join.contract : Contract Tryd.prog gl 13 items_Join.spec :=
  contract_of (E := items_Join.env) ⟨TIok_of tiOK, FnsOK_of ⟨⟨Tryd.func13, Tryd.call13⟩, trivial⟩, mixed⟩ (SpecsOK_of (E := items_Join.env) ⟨joinS.contract, trivial⟩) Tryd.call13 rfl rfl fun K x r h => by
    rw [items_Join.body_eq]; exact h

def control_Print.spec : Dp.Spec := { args := (.scons (.scons .bool (.scons .bool (.scons .bool (.scons .bool (.scons .bool (.scons .bool (.scons (.int .i64) (.scons (.int .i64) (.scons (.int .i64) .snil))))))))) .snil), res := .str, own := false, F := fun K x => control_Print K x.1 }
def control_Print.hint : Dp.Hint := { n := 46, regions := [(4, [(.normal, { regs := [(1, (.ref (.scons .bool (.scons .bool (.scons .bool (.scons .bool (.scons .bool (.scons .bool (.scons (.int .i64) (.scons (.int .i64) (.scons (.int .i64) .snil))))))))))), (3, (.loc 1 false [])), (4, (.loc 2 false [])), (5, (.fn 29 (.scons (.loc 2 false []) .snil)))], heap := [(.row .str), (.slw 0), (.fn 28 (.scons (.loc 1 false []) .snil))], app := [0] })]), (5, [(.normal, { regs := [(1, (.ref (.scons .bool (.scons .bool (.scons .bool (.scons .bool (.scons .bool (.scons .bool (.scons (.int .i64) (.scons (.int .i64) (.scons (.int .i64) .snil))))))))))), (3, (.loc 1 false [])), (4, (.loc 2 false [])), (5, (.fn 29 (.scons (.loc 2 false []) .snil)))], heap := [(.row .str), (.slw 0), (.fn 28 (.scons (.loc 1 false []) .snil))], app := [0] })]), (6, [(.normal, { regs := [(1, (.ref (.scons .bool (.scons .bool (.scons .bool (.scons .bool (.scons .bool (.scons .bool (.scons (.int .i64) (.scons (.int .i64) (.scons (.int .i64) .snil))))))))))), (3, (.loc 1 false [])), (4, (.loc 2 false [])), (5, (.fn 29 (.scons (.loc 2 false []) .snil)))], heap := [(.row .str), (.slw 0), (.fn 28 (.scons (.loc 1 false []) .snil))], app := [0] })]), (7, [(.normal, { regs := [(1, (.ref (.scons .bool (.scons .bool (.scons .bool (.scons .bool (.scons .bool (.scons .bool (.scons (.int .i64) (.scons (.int .i64) (.scons (.int .i64) .snil))))))))))), (3, (.loc 1 false [])), (4, (.loc 2 false [])), (5, (.fn 29 (.scons (.loc 2 false []) .snil)))], heap := [(.row .str), (.slw 0), (.fn 28 (.scons (.loc 1 false []) .snil))], app := [0] })]), (8, [(.normal, { regs := [(1, (.ref (.scons .bool (.scons .bool (.scons .bool (.scons .bool (.scons .bool (.scons .bool (.scons (.int .i64) (.scons (.int .i64) (.scons (.int .i64) .snil))))))))))), (3, (.loc 1 false [])), (4, (.loc 2 false [])), (5, (.fn 29 (.scons (.loc 2 false []) .snil)))], heap := [(.row .str), (.slw 0), (.fn 28 (.scons (.loc 1 false []) .snil))], app := [0] })]), (9, [(.normal, { regs := [(1, (.ref (.scons .bool (.scons .bool (.scons .bool (.scons .bool (.scons .bool (.scons .bool (.scons (.int .i64) (.scons (.int .i64) (.scons (.int .i64) .snil))))))))))), (3, (.loc 1 false [])), (5, (.fn 29 (.scons (.loc 2 false []) .snil)))], heap := [(.row .str), (.slw 0), (.fn 28 (.scons (.loc 1 false []) .snil))], app := [0] })]), (10, [(.normal, { regs := [(1, (.ref (.scons .bool (.scons .bool (.scons .bool (.scons .bool (.scons .bool (.scons .bool (.scons (.int .i64) (.scons (.int .i64) (.scons (.int .i64) .snil))))))))))), (3, (.loc 1 false [])), (5, (.fn 29 (.scons (.loc 2 false []) .snil)))], heap := [(.row .str), (.slw 0), (.fn 28 (.scons (.loc 1 false []) .snil))], app := [0] })]), (11, [(.normal, { regs := [(1, (.ref (.scons .bool (.scons .bool (.scons .bool (.scons .bool (.scons .bool (.scons .bool (.scons (.int .i64) (.scons (.int .i64) (.scons (.int .i64) .snil))))))))))), (3, (.loc 1 false [])), (5, (.fn 29 (.scons (.loc 2 false []) .snil)))], heap := [(.row .str), (.slw 0), (.fn 28 (.scons (.loc 1 false []) .snil))], app := [0] })])], own := [3], imm := [1] }
def control_Print.hint28 : Dp.Hint := { n := 10 }
def control_Print.hint29 : Dp.Hint := { n := 14 }
noncomputable def control_Print.env : Dp.Env := { ti := ti, gl := gl, fns := [(10, Tryd.f10, control_Print.hint), (28, Tryd.f28, control_Print.hint28), (29, Tryd.f29, control_Print.hint29)], specs := [(30, decimal_Plain.spec), (13, items_Join.spec)], K := 0 }
theorem control_Print.body_eq (K : Nat) (x : control_Print.spec.args.den) : body (control_Print.env.at K) 8 10 control_Print.spec x = control_Print K x.1 := by kernel_rfl
theorem control_Print.contract : Contract Tryd.prog gl 10 control_Print.spec :=
  contract_of (E := control_Print.env) ⟨TIok_of tiOK, FnsOK_of ⟨⟨Tryd.func10, Tryd.call10⟩, ⟨Tryd.func28, Tryd.call28⟩, ⟨Tryd.func29, Tryd.call29⟩, trivial⟩, mixed⟩ (SpecsOK_of (E := control_Print.env) ⟨decimal_Plain.contract, items_Join.contract, trivial⟩) Tryd.call10 rfl rfl fun K x r h => by
    rw [control_Print.body_eq]; exact h

def depotlaw13_controls.spec : Dp.Spec := { args := .snil, res := .bool, own := false, F := fun K x => depotlaw13_controls K }
def depotlaw13_controls.hint : Dp.Hint := { n := 43 }
noncomputable def depotlaw13_controls.env : Dp.Env := { ti := ti, gl := gl, fns := [(7, Tryd.f7, depotlaw13_controls.hint)], specs := [(9, depotlaw13_one.spec), (24, control_Least.spec), (8, control_Parse.spec), (11, control_Asked.spec), (10, control_Print.spec)], K := 0 }
theorem depotlaw13_controls.body_eq (K : Nat) (x : depotlaw13_controls.spec.args.den) : body (depotlaw13_controls.env.at K) 8 7 depotlaw13_controls.spec x = depotlaw13_controls K := by kernel_rfl
theorem depotlaw13_controls.contract : Contract Tryd.prog gl 7 depotlaw13_controls.spec :=
  contract_of (E := depotlaw13_controls.env) ⟨TIok_of tiOK, FnsOK_of ⟨⟨Tryd.func7, Tryd.call7⟩, trivial⟩, mixed⟩ (SpecsOK_of (E := depotlaw13_controls.env) ⟨depotlaw13_one.contract, control_Least.contract, control_Parse.contract, control_Asked.contract, control_Print.contract, trivial⟩) Tryd.call7 rfl rfl fun K x r h => by
    rw [depotlaw13_controls.body_eq]; exact h

def depotlaw13_ControlBack.spec : Dp.Spec := { args := (.scons (.scons .bool (.scons .bool (.scons .bool (.scons .bool (.scons .bool (.scons .bool (.scons (.int .i64) (.scons (.int .i64) (.scons (.int .i64) .snil))))))))) .snil), res := .bool, own := false, F := fun K x => depotlaw13_ControlBack K x.1 }
def depotlaw13_ControlBack.hint : Dp.Hint := { n := 49, regions := [(1, [(.normal, { regs := [(1, (.ref (.scons .bool (.scons .bool (.scons .bool (.scons .bool (.scons .bool (.scons .bool (.scons (.int .i64) (.scons (.int .i64) (.scons (.int .i64) .snil))))))))))), (30, .bool)] })])], imm := [1] }
noncomputable def depotlaw13_ControlBack.env : Dp.Env := { ti := ti, gl := gl, fns := [(3, Tryd.f3, depotlaw13_ControlBack.hint)], specs := [(9, depotlaw13_one.spec), (8, control_Parse.spec), (11, control_Asked.spec), (10, control_Print.spec), (7, depotlaw13_controls.spec)], K := 0 }
theorem depotlaw13_ControlBack.body_eq (K : Nat) (x : depotlaw13_ControlBack.spec.args.den) : body (depotlaw13_ControlBack.env.at K) 8 3 depotlaw13_ControlBack.spec x = depotlaw13_ControlBack K x.1 := by kernel_rfl
theorem depotlaw13_ControlBack.contract : Contract Tryd.prog gl 3 depotlaw13_ControlBack.spec :=
  contract_of (E := depotlaw13_ControlBack.env) ⟨TIok_of tiOK, FnsOK_of ⟨⟨Tryd.func3, Tryd.call3⟩, trivial⟩, mixed⟩ (SpecsOK_of (E := depotlaw13_ControlBack.env) ⟨depotlaw13_one.contract, control_Parse.contract, control_Asked.contract, control_Print.contract, depotlaw13_controls.contract, trivial⟩) Tryd.call3 rfl rfl fun K x r h => by
    rw [depotlaw13_ControlBack.body_eq]; exact h

def depotlaw13_ControlOrder.spec : Dp.Spec := { args := (.scons .str .snil), res := .bool, own := false, F := fun K x => depotlaw13_ControlOrder K x.1 }
def depotlaw13_ControlOrder.hint : Dp.Hint := { n := 88, regions := [(6, [(.normal, { regs := [(2, .bool)], heap := [(.scons .bool (.scons .bool (.scons .bool (.scons .bool (.scons .bool (.scons .bool (.scons (.int .i64) (.scons (.int .i64) (.scons (.int .i64) .snil)))))))))] })])], loops := [(12, { regs := [(0, .str), (3, (.list .str)), (6, (.slw 0)), (7, (.slw 1)), (8, (.int .i64))], heap := [(.row .str), (.row (.scons .str (.scons .str .snil)))], app := [0, 1] }, [(.exit 0, { regs := [(0, .str), (3, (.list .str)), (6, (.slw 0)), (7, (.slw 1))], heap := [(.row .str), (.row (.scons .str (.scons .str .snil)))], app := [0, 1] })])], own := [6, 7] }
noncomputable def depotlaw13_ControlOrder.env : Dp.Env := { ti := ti, gl := gl, fns := [(4, Tryd.f4, depotlaw13_ControlOrder.hint)], specs := [(9, depotlaw13_one.spec), (12, items_Split.spec), (8, control_Parse.spec), (13, items_Join.spec), (7, depotlaw13_controls.spec)], K := 0 }
noncomputable def depotlaw13_ControlOrder.r0 (K : Nat) : Nat → (((List UInt8) × ((List (List UInt8)) × ((Unit) × ((Unit) × ((Int) × (Unit)))))) × ((List (List UInt8)) × ((List ((List UInt8) × ((List UInt8) × (Unit)))) × (Unit)))) → Option ((((List UInt8) × ((List (List UInt8)) × ((Unit) × ((Unit) × (Unit))))) × ((List (List UInt8)) × ((List ((List UInt8) × ((List UInt8) × (Unit)))) × (Unit))))) :=
  loopV [(.exit 0, { regs := [(0, .str), (3, (.list .str)), (6, (.slw 0)), (7, (.slw 1))], heap := [(.row .str), (.row (.scons .str (.scons .str .snil)))], app := [0, 1] })] { regs := [(0, .str), (3, (.list .str)), (6, (.slw 0)), (7, (.slw 1)), (8, (.int .i64))], heap := [(.row .str), (.row (.scons .str (.scons .str .snil)))], app := [0, 1] } (interp (depotlaw13_ControlOrder.env.at K) depotlaw13_ControlOrder.hint (callF (depotlaw13_ControlOrder.env.at K) 7) (Code.sub [1, 1, 1, 1, 1, 1, 1, 0, 1, 0, 0] (Tryd.f4.body.getD .skip)) _)
theorem depotlaw13_ControlOrder.s0 (K n : Nat) (x : (((List UInt8) × ((List (List UInt8)) × ((Unit) × ((Unit) × ((Int) × (Unit)))))) × ((List (List UInt8)) × ((List ((List UInt8) × ((List UInt8) × (Unit)))) × (Unit))))) : depotlaw13_ControlOrder.r0 K (n + 1) x = depotlaw13_ControlOrder.t0 K (depotlaw13_ControlOrder.r0 K n) x := by kernel_rfl
theorem depotlaw13_ControlOrder.e0 (K n : Nat) : depotlaw13_ControlOrder.r0 K n = depotlaw13_ControlOrder.l0 K n := by
  induction n with
  | zero => funext x; rfl
  | succ n ih => funext x; rw [depotlaw13_ControlOrder.s0, ih]; rfl
theorem depotlaw13_ControlOrder.body_eq (K : Nat) (x : depotlaw13_ControlOrder.spec.args.den) : body (depotlaw13_ControlOrder.env.at K) 8 4 depotlaw13_ControlOrder.spec x = depotlaw13_ControlOrder.tr (depotlaw13_ControlOrder.r0 K) K x.1 := by kernel_rfl
theorem depotlaw13_ControlOrder.contract : Contract Tryd.prog gl 4 depotlaw13_ControlOrder.spec :=
  contract_of (E := depotlaw13_ControlOrder.env) ⟨TIok_of tiOK, FnsOK_of ⟨⟨Tryd.func4, Tryd.call4⟩, trivial⟩, mixed⟩ (SpecsOK_of (E := depotlaw13_ControlOrder.env) ⟨depotlaw13_one.contract, items_Split.contract, control_Parse.contract, items_Join.contract, depotlaw13_controls.contract, trivial⟩) Tryd.call4 rfl rfl fun K x r h => by
    rw [depotlaw13_ControlOrder.body_eq, show depotlaw13_ControlOrder.r0 K = depotlaw13_ControlOrder.l0 K from funext (depotlaw13_ControlOrder.e0 K)]; exact h

end Go.Proofs.X