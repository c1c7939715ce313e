/- That the machine comes to the plain functions. No condition. -/
import Derived.Test.YtmfbfdbjbnldaaaDoorDG1
import Derived.Test.YtmfbfdbjbnldaaaDoorDS1
import Derived.Test.YtmfbfdbjbnldaaaDoorChecked
import Derived.KernelRfl
import Derived.Eval
set_option linter.unusedVariables false
set_option maxRecDepth 20000
namespace Go.Proofs.X
open Go Go.Dp

def ti : List (Nat × TI) := [(1, ⟨.fn, 1, 8, .nilf⟩),
  (2, ⟨.int .i64, 1, 8, (.int .i64)⟩),
  (3, ⟨.int .i64, 1, 8, (.int .i64)⟩),
  (4, ⟨.bool, 1, 1, .bool⟩),
  (5, ⟨.int .u8, 1, 1, (.int .u8)⟩),
  (6, ⟨.int .u8, 1, 1, (.int .u8)⟩),
  (9, ⟨.str, 1, 16, .str⟩),
  (10, ⟨.str, 1, 16, .str⟩),
  (11, ⟨.str, 1, 16, .str⟩),
  (12, ⟨.int .u64, 1, 8, (.int .u64)⟩),
  (15, ⟨.ptr 168, 1, 8, .nilp⟩),
  (16, ⟨.ptr 171, 1, 8, .nilp⟩),
  (17, ⟨.ptr 178, 1, 8, .nilp⟩),
  (18, ⟨.struct [(17, 0)], 1, 8, (.scons .nilp .snil)⟩),
  (19, ⟨.struct [(17, 0)], 1, 8, (.scons .nilp .snil)⟩),
  (20, ⟨.iface false, 1, 16, .nili⟩),
  (21, ⟨.int .i32, 1, 4, (.int .i32)⟩),
  (23, ⟨.fn, 1, 8, .nilf⟩),
  (25, ⟨.fn, 1, 8, .nilf⟩),
  (26, ⟨.fn, 1, 8, .nilf⟩),
  (27, ⟨.fn, 1, 8, .nilf⟩),
  (28, ⟨.fn, 1, 8, .nilf⟩),
  (29, ⟨.fn, 1, 8, .nilf⟩),
  (30, ⟨.fn, 1, 8, .nilf⟩),
  (31, ⟨.int .i64, 1, 8, (.int .i64)⟩),
  (33, ⟨.fn, 1, 8, .nilf⟩),
  (35, ⟨.fn, 1, 8, .nilf⟩),
  (36, ⟨.fn, 1, 8, .nilf⟩),
  (37, ⟨.fn, 1, 8, .nilf⟩),
  (38, ⟨.struct [(4, 0), (4, 1), (4, 2), (4, 3), (4, 4), (4, 5), (3, 6), (3, 7), (3, 8)], 9, 32, (.scons .bool (.scons .bool (.scons .bool (.scons .bool (.scons .bool (.scons .bool (.scons (.int .i64) (.scons (.int .i64) (.scons (.int .i64) .snil)))))))))⟩),
  (39, ⟨.struct [(4, 0), (4, 1), (4, 2), (4, 3), (4, 4), (4, 5), (3, 6), (3, 7), (3, 8)], 9, 32, (.scons .bool (.scons .bool (.scons .bool (.scons .bool (.scons .bool (.scons .bool (.scons (.int .i64) (.scons (.int .i64) (.scons (.int .i64) .snil)))))))))⟩),
  (40, ⟨.fn, 1, 8, .nilf⟩),
  (41, ⟨.slice 49, 1, 24, (.list (.scons .str (.scons .str .snil)))⟩),
  (42, ⟨.fn, 1, 8, .nilf⟩),
  (43, ⟨.fn, 1, 8, .nilf⟩),
  (44, ⟨.fn, 1, 8, .nilf⟩),
  (45, ⟨.slice 9, 1, 24, (.list .str)⟩),
  (47, ⟨.fn, 1, 8, .nilf⟩),
  (48, ⟨.struct [(9, 0), (9, 1)], 2, 32, (.scons .str (.scons .str .snil))⟩),
  (49, ⟨.struct [(9, 0), (9, 1)], 2, 32, (.scons .str (.scons .str .snil))⟩),
  (50, ⟨.fn, 1, 8, .nilf⟩),
  (51, ⟨.fn, 1, 8, .nilf⟩),
  (52, ⟨.fn, 1, 8, .nilf⟩),
  (53, ⟨.struct [(3, 0), (3, 1), (3, 2), (3, 3), (9, 4)], 5, 48, (.scons (.int .i64) (.scons (.int .i64) (.scons (.int .i64) (.scons (.int .i64) (.scons .str .snil)))))⟩),
  (54, ⟨.struct [(3, 0), (3, 1), (3, 2), (3, 3), (9, 4)], 5, 48, (.scons (.int .i64) (.scons (.int .i64) (.scons (.int .i64) (.scons (.int .i64) (.scons .str .snil)))))⟩),
  (55, ⟨.fn, 1, 8, .nilf⟩),
  (56, ⟨.fn, 1, 8, .nilf⟩),
  (57, ⟨.arr 7 9, 7, 112, (.arr 7 .str)⟩),
  (58, ⟨.fn, 1, 8, .nilf⟩),
  (59, ⟨.arr 12 9, 12, 192, (.arr 12 .str)⟩),
  (60, ⟨.fn, 1, 8, .nilf⟩),
  (61, ⟨.fn, 1, 8, .nilf⟩),
  (62, ⟨.fn, 1, 8, .nilf⟩),
  (63, ⟨.fn, 1, 8, .nilf⟩),
  (64, ⟨.ptr 66, 1, 8, .nilp⟩),
  (65, ⟨.struct [(39, 0)], 9, 32, (.scons (.scons .bool (.scons .bool (.scons .bool (.scons .bool (.scons .bool (.scons .bool (.scons (.int .i64) (.scons (.int .i64) (.scons (.int .i64) .snil))))))))) .snil)⟩),
  (66, ⟨.struct [(39, 0)], 9, 32, (.scons (.scons .bool (.scons .bool (.scons .bool (.scons .bool (.scons .bool (.scons .bool (.scons (.int .i64) (.scons (.int .i64) (.scons (.int .i64) .snil))))))))) .snil)⟩),
  (67, ⟨.fn, 1, 8, .nilf⟩),
  (68, ⟨.fn, 1, 8, .nilf⟩),
  (69, ⟨.fn, 1, 8, .nilf⟩),
  (70, ⟨.fn, 1, 8, .nilf⟩),
  (71, ⟨.fn, 1, 8, .nilf⟩),
  (73, ⟨.fn, 1, 8, .nilf⟩),
  (74, ⟨.fn, 1, 8, .nilf⟩),
  (75, ⟨.fn, 1, 8, .nilf⟩),
  (76, ⟨.fn, 1, 8, .nilf⟩),
  (77, ⟨.slice 3, 1, 24, (.list (.int .i64))⟩),
  (78, ⟨.ptr 81, 1, 8, .nilp⟩),
  (79, ⟨.slice 5, 1, 24, (.list (.int .u8))⟩),
  (80, ⟨.struct [(78, 0), (79, 1)], 2, 32, (.scons .nilp (.scons (.list (.int .u8)) .snil))⟩),
  (81, ⟨.struct [(78, 0), (79, 1)], 2, 32, (.scons .nilp (.scons (.list (.int .u8)) .snil))⟩),
  (82, ⟨.iface true, 1, 16, .nili⟩),
  (83, ⟨.iface true, 1, 16, .nili⟩),
  (85, ⟨.fn, 1, 8, .nilf⟩),
  (86, ⟨.fn, 1, 8, .nilf⟩),
  (87, ⟨.fn, 1, 8, .nilf⟩),
  (88, ⟨.fn, 1, 8, .nilf⟩),
  (89, ⟨.int .u64, 1, 8, (.int .u64)⟩),
  (90, ⟨.fn, 1, 8, .nilf⟩),
  (91, ⟨.fn, 1, 8, .nilf⟩),
  (92, ⟨.fn, 1, 8, .nilf⟩),
  (93, ⟨.fn, 1, 8, .nilf⟩),
  (94, ⟨.fn, 1, 8, .nilf⟩),
  (96, ⟨.fn, 1, 8, .nilf⟩),
  (97, ⟨.slice 101, 1, 24, (.list (.scons .str (.scons .nilf .snil)))⟩),
  (98, ⟨.fn, 1, 8, .nilf⟩),
  (99, ⟨.fn, 1, 8, .nilf⟩),
  (100, ⟨.struct [(9, 0), (99, 1)], 2, 24, (.scons .str (.scons .nilf .snil))⟩),
  (101, ⟨.struct [(9, 0), (99, 1)], 2, 24, (.scons .str (.scons .nilf .snil))⟩),
  (102, ⟨.fn, 1, 8, .nilf⟩),
  (103, ⟨.fn, 1, 8, .nilf⟩),
  (104, ⟨.ptr 5, 1, 8, .nilp⟩),
  (105, ⟨.int .u64, 1, 8, (.int .u64)⟩),
  (107, ⟨.fn, 1, 8, .nilf⟩),
  (108, ⟨.fn, 1, 8, .nilf⟩),
  (109, ⟨.fn, 1, 8, .nilf⟩),
  (110, ⟨.fn, 1, 8, .nilf⟩),
  (112, ⟨.fn, 1, 8, .nilf⟩),
  (114, ⟨.fn, 1, 8, .nilf⟩),
  (115, ⟨.fn, 1, 8, .nilf⟩),
  (116, ⟨.fn, 1, 8, .nilf⟩),
  (117, ⟨.arr 256 4, 256, 256, (.arr 256 .bool)⟩),
  (118, ⟨.arr 256 4, 256, 256, (.arr 256 .bool)⟩),
  (120, ⟨.fn, 1, 8, .nilf⟩),
  (121, ⟨.fn, 1, 8, .nilf⟩),
  (122, ⟨.ptr 118, 1, 8, .nilp⟩),
  (124, ⟨.fn, 1, 8, .nilf⟩),
  (125, ⟨.fn, 1, 8, .nilf⟩),
  (126, ⟨.int .u32, 1, 4, (.int .u32)⟩),
  (128, ⟨.fn, 1, 8, .nilf⟩),
  (130, ⟨.fn, 1, 8, .nilf⟩),
  (131, ⟨.fn, 1, 8, .nilf⟩),
  (132, ⟨.fn, 1, 8, .nilf⟩),
  (133, ⟨.fn, 1, 8, .nilf⟩),
  (134, ⟨.fn, 1, 8, .nilf⟩),
  (135, ⟨.fn, 1, 8, .nilf⟩),
  (136, ⟨.fn, 1, 8, .nilf⟩),
  (137, ⟨.fn, 1, 8, .nilf⟩),
  (138, ⟨.fn, 1, 8, .nilf⟩),
  (139, ⟨.fn, 1, 8, .nilf⟩),
  (141, ⟨.fn, 1, 8, .nilf⟩),
  (142, ⟨.fn, 1, 8, .nilf⟩),
  (143, ⟨.arr 24 5, 24, 24, (.arr 24 (.int .u8))⟩),
  (144, ⟨.fn, 1, 8, .nilf⟩),
  (145, ⟨.fn, 1, 8, .nilf⟩),
  (147, ⟨.fn, 1, 8, .nilf⟩),
  (148, ⟨.fn, 1, 8, .nilf⟩),
  (149, ⟨.fn, 1, 8, .nilf⟩),
  (150, ⟨.fn, 1, 8, .nilf⟩),
  (151, ⟨.fn, 1, 8, .nilf⟩),
  (152, ⟨.fn, 1, 8, .nilf⟩),
  (153, ⟨.fn, 1, 8, .nilf⟩),
  (154, ⟨.arr 20 89, 20, 160, (.arr 20 (.int .u64))⟩),
  (155, ⟨.arr 65 5, 65, 65, (.arr 65 (.int .u8))⟩),
  (156, ⟨.fn, 1, 8, .nilf⟩),
  (157, ⟨.slice 137, 1, 24, (.list .nilf)⟩),
  (158, ⟨.arr 256 5, 256, 256, (.arr 256 (.int .u8))⟩),
  (159, ⟨.struct [(5, 0), (5, 1)], 2, 2, (.scons (.int .u8) (.scons (.int .u8) .snil))⟩),
  (160, ⟨.struct [(5, 0), (5, 1)], 2, 2, (.scons (.int .u8) (.scons (.int .u8) .snil))⟩),
  (161, ⟨.arr 16 160, 32, 32, (.arr 16 (.scons (.int .u8) (.scons (.int .u8) .snil)))⟩),
  (162, ⟨.fn, 1, 8, .nilf⟩),
  (163, ⟨.fn, 1, 8, .nilf⟩),
  (164, ⟨.fn, 1, 8, .nilf⟩),
  (165, ⟨.arr 32 5, 32, 32, (.arr 32 (.int .u8))⟩),
  (166, ⟨.arr 64 5, 64, 64, (.arr 64 (.int .u8))⟩),
  (169, ⟨.arr 0 16, 0, 0, (.arr 0 .nilp)⟩),
  (172, ⟨.int .u8, 1, 1, (.int .u8)⟩),
  (173, ⟨.int .u8, 1, 1, (.int .u8)⟩),
  (174, ⟨.fn, 1, 8, .nilf⟩),
  (175, ⟨.int .i32, 1, 4, (.int .i32)⟩),
  (176, ⟨.int .i32, 1, 4, (.int .i32)⟩),
  (177, ⟨.struct [(12, 0), (12, 1), (126, 2), (172, 3), (5, 4), (5, 5), (173, 6), (174, 7), (104, 8), (175, 9), (176, 10)], 11, 48, (.scons (.int .u64) (.scons (.int .u64) (.scons (.int .u32) (.scons (.int .u8) (.scons (.int .u8) (.scons (.int .u8) (.scons (.int .u8) (.scons .nilf (.scons .nilp (.scons (.int .i32) (.scons (.int .i32) .snil)))))))))))⟩),
  (178, ⟨.struct [(12, 0), (12, 1), (126, 2), (172, 3), (5, 4), (5, 5), (173, 6), (174, 7), (104, 8), (175, 9), (176, 10)], 11, 48, (.scons (.int .u64) (.scons (.int .u64) (.scons (.int .u32) (.scons (.int .u8) (.scons (.int .u8) (.scons (.int .u8) (.scons (.int .u8) (.scons .nilf (.scons .nilp (.scons (.int .i32) (.scons (.int .i32) .snil)))))))))))⟩)]
def gl : List (Nat × TV) := [(0, ⟨.ref (.arr 7 .str), glob_date_days⟩), (1, ⟨.ref (.arr 12 .str), glob_date_months⟩), (3, ⟨.ref (.arr 20 (.int .u64)), glob_strconv_uint64pow10⟩)]
theorem tiOK : ti.all (fun p => tiOK1 Tryd.prog p.1 p.2) = true := by kernel_rfl
theorem mixed : Tryd.prog.follows .mixedOrders = true := Checked.mixed Tryd.checked

def joinS.spec : Dp.Spec := joinSpec
theorem joinS.contract : Contract Tryd.prog gl 36 joinS.spec := joinS_ok
def repeatS.spec : Dp.Spec := repeatSpec
theorem repeatS.contract : Contract Tryd.prog gl 62 repeatS.spec := repeatS_ok
def itoa.spec : Dp.Spec := itoaSpec
theorem itoa.contract : Contract Tryd.prog gl 63 itoa.spec := itoa_ok (g := 3) (n := 20) (by kernel_rfl) (by kernel_rfl)
def ixb.spec : Dp.Spec := indexByteSpec
theorem ixb.contract : Contract Tryd.prog gl 83 ixb.spec := indexByte_contract Tryd.func83 (by decide +kernel) rfl (by kernel_rfl) (by kernel_rfl)
def asciiSet.spec : Dp.Spec := asciiSetSpec
theorem asciiSet.contract : Contract Tryd.prog gl 106 asciiSet.spec := asciiSet_ok
def date_count.spec : Dp.Spec := { args := (.scons (.int .i64) (.scons (.int .i64) (.scons (.int .i64) .snil))), res := (.int .i64), own := false, F := fun K x => date_count K x.1 x.2.1 x.2.2.1 }
def date_count.hint : Dp.Hint := { n := 34, conds := [(8, [(.normal, { regs := [(0, (.int .i64)), (1, (.int .i64)), (2, (.int .i64))] })])] }
noncomputable def date_count.env : Dp.Env := { ti := ti, gl := gl, fns := [(32, Tryd.f32, date_count.hint)], specs := [], K := 0 }
theorem date_count.body_eq (K : Nat) (x : date_count.spec.args.den) : body (date_count.env.at K) 8 32 date_count.spec x = date_count K x.1 x.2.1 x.2.2.1 := by kernel_rfl
theorem date_count.contract : Contract Tryd.prog gl 32 date_count.spec :=
  contract_of (E := date_count.env) ⟨TIok_of tiOK, FnsOK_of ⟨⟨Tryd.func32, Tryd.call32⟩, trivial⟩, mixed⟩ (SpecsOK_of (E := date_count.env) trivial) Tryd.call32 rfl rfl fun K x r h => by
    rw [date_count.body_eq]; exact h

def date_Civil.spec : Dp.Spec := { args := (.scons (.int .i64) .snil), res := (.tup (.scons (.int .i64) (.scons (.int .i64) (.scons (.int .i64) (.scons .bool .snil))))), own := false, F := fun K x => date_Civil K x.1 }
def date_Civil.hint : Dp.Hint := { n := 70, conds := [(62, [(.normal, { regs := [(8, (.int .i64)), (9, (.int .i64)), (10, (.int .i64))] })])], regions := [(1, [(.normal, { regs := [(0, (.int .i64)), (16, .bool)] })])] }
noncomputable def date_Civil.env : Dp.Env := { ti := ti, gl := gl, fns := [(12, Tryd.f12, date_Civil.hint)], specs := [], K := 0 }
theorem date_Civil.body_eq (K : Nat) (x : date_Civil.spec.args.den) : body (date_Civil.env.at K) 8 12 date_Civil.spec x = date_Civil K x.1 := by kernel_rfl
theorem date_Civil.contract : Contract Tryd.prog gl 12 date_Civil.spec :=
  contract_of (E := date_Civil.env) ⟨TIok_of tiOK, FnsOK_of ⟨⟨Tryd.func12, Tryd.call12⟩, trivial⟩, mixed⟩ (SpecsOK_of (E := date_Civil.env) trivial) Tryd.call12 rfl rfl fun K x r h => by
    rw [date_Civil.body_eq]; exact h

def date_Days.spec : Dp.Spec := { args := (.scons (.int .i64) (.scons (.int .i64) (.scons (.int .i64) .snil))), res := (.tup (.scons (.int .i64) (.scons .bool .snil))), own := false, F := fun K x => date_Days K x.1 x.2.1 x.2.2.1 }
def date_Days.hint : Dp.Hint := { n := 64, regions := [(1, [(.normal, { regs := [(0, (.int .i64)), (1, (.int .i64)), (2, (.int .i64)), (34, .bool)] })]), (5, [(.normal, { regs := [(8, (.int .i64)), (62, .bool)] })])] }
noncomputable def date_Days.env : Dp.Env := { ti := ti, gl := gl, fns := [(10, Tryd.f10, date_Days.hint)], specs := [(32, date_count.spec), (12, date_Civil.spec)], K := 0 }
theorem date_Days.body_eq (K : Nat) (x : date_Days.spec.args.den) : body (date_Days.env.at K) 8 10 date_Days.spec x = date_Days K x.1 x.2.1 x.2.2.1 := by kernel_rfl
theorem date_Days.contract : Contract Tryd.prog gl 10 date_Days.spec :=
  contract_of (E := date_Days.env) ⟨TIok_of tiOK, FnsOK_of ⟨⟨Tryd.func10, Tryd.call10⟩, trivial⟩, mixed⟩ (SpecsOK_of (E := date_Days.env) ⟨date_count.contract, date_Civil.contract, trivial⟩) Tryd.call10 rfl rfl fun K x r h => by
    rw [date_Days.body_eq]; exact h

def depotref07_leap.spec : Dp.Spec := { args := (.scons (.int .i64) .snil), res := .bool, own := false, F := fun K x => depotref07_leap K x.1 }
def depotref07_leap.hint : Dp.Hint := { n := 16 }
noncomputable def depotref07_leap.env : Dp.Env := { ti := ti, gl := gl, fns := [(58, Tryd.f58, depotref07_leap.hint)], specs := [], K := 0 }
theorem depotref07_leap.body_eq (K : Nat) (x : depotref07_leap.spec.args.den) : body (depotref07_leap.env.at K) 8 58 depotref07_leap.spec x = depotref07_leap K x.1 := by kernel_rfl
theorem depotref07_leap.contract : Contract Tryd.prog gl 58 depotref07_leap.spec :=
  contract_of (E := depotref07_leap.env) ⟨TIok_of tiOK, FnsOK_of ⟨⟨Tryd.func58, Tryd.call58⟩, trivial⟩, mixed⟩ (SpecsOK_of (E := depotref07_leap.env) trivial) Tryd.call58 rfl rfl fun K x r h => by
    rw [depotref07_leap.body_eq]; exact h

def depotref07_long.spec : Dp.Spec := { args := (.scons (.int .i64) (.scons (.int .i64) .snil)), res := (.int .i64), own := false, F := fun K x => depotref07_long K x.1 x.2.1 }
def depotref07_long.hint : Dp.Hint := { n := 16, regions := [(1, [(.normal, { regs := [(1, (.int .i64)), (10, .bool)] })])] }
noncomputable def depotref07_long.env : Dp.Env := { ti := ti, gl := gl, fns := [(33, Tryd.f33, depotref07_long.hint)], specs := [(58, depotref07_leap.spec)], K := 0 }
theorem depotref07_long.body_eq (K : Nat) (x : depotref07_long.spec.args.den) : body (depotref07_long.env.at K) 8 33 depotref07_long.spec x = depotref07_long K x.1 x.2.1 := by kernel_rfl
theorem depotref07_long.contract : Contract Tryd.prog gl 33 depotref07_long.spec :=
  contract_of (E := depotref07_long.env) ⟨TIok_of tiOK, FnsOK_of ⟨⟨Tryd.func33, Tryd.call33⟩, trivial⟩, mixed⟩ (SpecsOK_of (E := depotref07_long.env) ⟨depotref07_leap.contract, trivial⟩) Tryd.call33 rfl rfl fun K x r h => by
    rw [depotref07_long.body_eq]; exact h

def depotref07_year.spec : Dp.Spec := { args := (.scons (.int .i64) .snil), res := (.int .i64), own := false, F := fun K x => depotref07_year K x.1 }
def depotref07_year.hint : Dp.Hint := { n := 5 }
noncomputable def depotref07_year.env : Dp.Env := { ti := ti, gl := gl, fns := [(34, Tryd.f34, depotref07_year.hint)], specs := [(58, depotref07_leap.spec)], K := 0 }
theorem depotref07_year.body_eq (K : Nat) (x : depotref07_year.spec.args.den) : body (depotref07_year.env.at K) 8 34 depotref07_year.spec x = depotref07_year K x.1 := by kernel_rfl
theorem depotref07_year.contract : Contract Tryd.prog gl 34 depotref07_year.spec :=
  contract_of (E := depotref07_year.env) ⟨TIok_of tiOK, FnsOK_of ⟨⟨Tryd.func34, Tryd.call34⟩, trivial⟩, mixed⟩ (SpecsOK_of (E := depotref07_year.env) ⟨depotref07_leap.contract, trivial⟩) Tryd.call34 rfl rfl fun K x r h => by
    rw [depotref07_year.body_eq]; exact h

def depotref07_Days.spec : Dp.Spec := { args := (.scons (.int .i64) (.scons (.int .i64) (.scons (.int .i64) .snil))), res := (.tup (.scons (.int .i64) (.scons .bool .snil))), own := false, F := fun K x => depotref07_Days K x.1 x.2.1 x.2.2.1 }
def depotref07_Days.hint : Dp.Hint := { n := 58, regions := [(1, [(.normal, { regs := [(0, (.int .i64)), (1, (.int .i64)), (2, (.int .i64)), (35, .bool)] })])], loops := [(5, { regs := [(0, (.int .i64)), (1, (.int .i64)), (8, (.int .i64)), (9, (.int .i64))] }, [(.exit 0, { regs := [(0, (.int .i64)), (1, (.int .i64)), (8, (.int .i64))] })]), (9, { regs := [(0, (.int .i64)), (1, (.int .i64)), (8, (.int .i64)), (10, (.int .i64))] }, [(.exit 2, { regs := [(8, (.int .i64))] })])] }
noncomputable def depotref07_Days.env : Dp.Env := { ti := ti, gl := gl, fns := [(11, Tryd.f11, depotref07_Days.hint)], specs := [(33, depotref07_long.spec), (34, depotref07_year.spec)], K := 0 }
noncomputable def depotref07_Days.r1 (K : Nat) : Nat → (((Int) × ((Int) × ((Int) × ((Int) × (Unit))))) × (Unit)) → Option ((((Int) × (Unit)) × (Unit))) :=
  loopV [(.exit 2, { regs := [(8, (.int .i64))] })] { regs := [(0, (.int .i64)), (1, (.int .i64)), (8, (.int .i64)), (10, (.int .i64))] } (interp (depotref07_Days.env.at K) depotref07_Days.hint (callF (depotref07_Days.env.at K) 7) (Code.sub [1, 1, 1, 1, 0, 1, 0, 0] (Tryd.f11.body.getD .skip)) _)
theorem depotref07_Days.s1 (K n : Nat) (x : (((Int) × ((Int) × ((Int) × ((Int) × (Unit))))) × (Unit))) : depotref07_Days.r1 K (n + 1) x = depotref07_Days.t1 K (depotref07_Days.r1 K n) x := by kernel_rfl
theorem depotref07_Days.e1 (K n : Nat) : depotref07_Days.r1 K n = depotref07_Days.l1 K n := by
  induction n with
  | zero => funext x; rfl
  | succ n ih => funext x; rw [depotref07_Days.s1, ih]; rfl
noncomputable def depotref07_Days.r0 (K : Nat) : Nat → (((Int) × ((Int) × ((Int) × ((Int) × (Unit))))) × (Unit)) → Option ((((Int) × ((Int) × ((Int) × (Unit)))) × (Unit))) :=
  loopV [(.exit 0, { regs := [(0, (.int .i64)), (1, (.int .i64)), (8, (.int .i64))] })] { regs := [(0, (.int .i64)), (1, (.int .i64)), (8, (.int .i64)), (9, (.int .i64))] } (interp (depotref07_Days.env.at K) depotref07_Days.hint (callF (depotref07_Days.env.at K) 7) (Code.sub [1, 1, 1, 0, 1, 0, 0] (Tryd.f11.body.getD .skip)) _)
theorem depotref07_Days.s0 (K n : Nat) (x : (((Int) × ((Int) × ((Int) × ((Int) × (Unit))))) × (Unit))) : depotref07_Days.r0 K (n + 1) x = depotref07_Days.t0 K (depotref07_Days.r0 K n) x := by kernel_rfl
theorem depotref07_Days.e0 (K n : Nat) : depotref07_Days.r0 K n = depotref07_Days.l0 K n := by
  induction n with
  | zero => funext x; rfl
  | succ n ih => funext x; rw [depotref07_Days.s0, ih]; rfl
theorem depotref07_Days.body_eq (K : Nat) (x : depotref07_Days.spec.args.den) : body (depotref07_Days.env.at K) 8 11 depotref07_Days.spec x = depotref07_Days.tr (depotref07_Days.r0 K) (depotref07_Days.r1 K) K x.1 x.2.1 x.2.2.1 := by kernel_rfl
theorem depotref07_Days.contract : Contract Tryd.prog gl 11 depotref07_Days.spec :=
  contract_of (E := depotref07_Days.env) ⟨TIok_of tiOK, FnsOK_of ⟨⟨Tryd.func11, Tryd.call11⟩, trivial⟩, mixed⟩ (SpecsOK_of (E := depotref07_Days.env) ⟨depotref07_long.contract, depotref07_year.contract, trivial⟩) Tryd.call11 rfl rfl fun K x r h => by
    rw [depotref07_Days.body_eq, show depotref07_Days.r0 K = depotref07_Days.l0 K from funext (depotref07_Days.e0 K), show depotref07_Days.r1 K = depotref07_Days.l1 K from funext (depotref07_Days.e1 K)]; exact h

def depotref07_Civil.spec : Dp.Spec := { args := (.scons (.int .i64) .snil), res := (.tup (.scons (.int .i64) (.scons (.int .i64) (.scons (.int .i64) (.scons .bool .snil))))), own := false, F := fun K x => depotref07_Civil K x.1 }
def depotref07_Civil.hint : Dp.Hint := { n := 40, regions := [(1, [(.normal, { regs := [(0, (.int .i64)), (13, .bool)] })])], loops := [(4, { regs := [(0, (.int .i64)), (6, (.int .i64)), (7, (.int .i64))] }, [(.exit 0, { regs := [(0, (.int .i64)), (6, (.int .i64)), (7, (.int .i64))] })]), (7, { regs := [(0, (.int .i64)), (6, (.int .i64)), (7, (.int .i64))] }, [(.exit 2, { regs := [(0, (.int .i64)), (6, (.int .i64)), (7, (.int .i64))] })])] }
noncomputable def depotref07_Civil.env : Dp.Env := { ti := ti, gl := gl, fns := [(13, Tryd.f13, depotref07_Civil.hint)], specs := [(33, depotref07_long.spec), (34, depotref07_year.spec)], K := 0 }
noncomputable def depotref07_Civil.r1 (K : Nat) : Nat → (((Int) × ((Int) × ((Int) × (Unit)))) × (Unit)) → Option ((((Int) × ((Int) × ((Int) × (Unit)))) × (Unit))) :=
  loopV [(.exit 2, { regs := [(0, (.int .i64)), (6, (.int .i64)), (7, (.int .i64))] })] { regs := [(0, (.int .i64)), (6, (.int .i64)), (7, (.int .i64))] } (interp (depotref07_Civil.env.at K) depotref07_Civil.hint (callF (depotref07_Civil.env.at K) 7) (Code.sub [1, 1, 1, 1, 0, 0, 0] (Tryd.f13.body.getD .skip)) _)
theorem depotref07_Civil.s1 (K n : Nat) (x : (((Int) × ((Int) × ((Int) × (Unit)))) × (Unit))) : depotref07_Civil.r1 K (n + 1) x = depotref07_Civil.t1 K (depotref07_Civil.r1 K n) x := by kernel_rfl
theorem depotref07_Civil.e1 (K n : Nat) : depotref07_Civil.r1 K n = depotref07_Civil.l1 K n := by
  induction n with
  | zero => funext x; rfl
  | succ n ih => funext x; rw [depotref07_Civil.s1, ih]; rfl
noncomputable def depotref07_Civil.r0 (K : Nat) : Nat → (((Int) × ((Int) × ((Int) × (Unit)))) × (Unit)) → Option ((((Int) × ((Int) × ((Int) × (Unit)))) × (Unit))) :=
  loopV [(.exit 0, { regs := [(0, (.int .i64)), (6, (.int .i64)), (7, (.int .i64))] })] { regs := [(0, (.int .i64)), (6, (.int .i64)), (7, (.int .i64))] } (interp (depotref07_Civil.env.at K) depotref07_Civil.hint (callF (depotref07_Civil.env.at K) 7) (Code.sub [1, 1, 1, 0, 0, 0] (Tryd.f13.body.getD .skip)) _)
theorem depotref07_Civil.s0 (K n : Nat) (x : (((Int) × ((Int) × ((Int) × (Unit)))) × (Unit))) : depotref07_Civil.r0 K (n + 1) x = depotref07_Civil.t0 K (depotref07_Civil.r0 K n) x := by kernel_rfl
theorem depotref07_Civil.e0 (K n : Nat) : depotref07_Civil.r0 K n = depotref07_Civil.l0 K n := by
  induction n with
  | zero => funext x; rfl
  | succ n ih => funext x; rw [depotref07_Civil.s0, ih]; rfl
theorem depotref07_Civil.body_eq (K : Nat) (x : depotref07_Civil.spec.args.den) : body (depotref07_Civil.env.at K) 8 13 depotref07_Civil.spec x = depotref07_Civil.tr (depotref07_Civil.r0 K) (depotref07_Civil.r1 K) K x.1 := by kernel_rfl
theorem depotref07_Civil.contract : Contract Tryd.prog gl 13 depotref07_Civil.spec :=
  contract_of (E := depotref07_Civil.env) ⟨TIok_of tiOK, FnsOK_of ⟨⟨Tryd.func13, Tryd.call13⟩, trivial⟩, mixed⟩ (SpecsOK_of (E := depotref07_Civil.env) ⟨depotref07_long.contract, depotref07_year.contract, trivial⟩) Tryd.call13 rfl rfl fun K x r h => by
    rw [depotref07_Civil.body_eq, show depotref07_Civil.r0 K = depotref07_Civil.l0 K from funext (depotref07_Civil.e0 K), show depotref07_Civil.r1 K = depotref07_Civil.l1 K from funext (depotref07_Civil.e1 K)]; exact h

def date_Weekday.spec : Dp.Spec := { args := (.scons (.int .i64) .snil), res := (.int .i64), own := false, F := fun K x => date_Weekday K x.1 }
def date_Weekday.hint : Dp.Hint := { n := 9 }
noncomputable def date_Weekday.env : Dp.Env := { ti := ti, gl := gl, fns := [(14, Tryd.f14, date_Weekday.hint)], specs := [], K := 0 }
theorem date_Weekday.body_eq (K : Nat) (x : date_Weekday.spec.args.den) : body (date_Weekday.env.at K) 8 14 date_Weekday.spec x = date_Weekday K x.1 := by kernel_rfl
theorem date_Weekday.contract : Contract Tryd.prog gl 14 date_Weekday.spec :=
  contract_of (E := date_Weekday.env) ⟨TIok_of tiOK, FnsOK_of ⟨⟨Tryd.func14, Tryd.call14⟩, trivial⟩, mixed⟩ (SpecsOK_of (E := date_Weekday.env) trivial) Tryd.call14 rfl rfl fun K x r h => by
    rw [date_Weekday.body_eq]; exact h

def depotref07_Weekday.spec : Dp.Spec := { args := (.scons (.int .i64) .snil), res := (.int .i64), own := false, F := fun K x => depotref07_Weekday K x.1 }
def depotref07_Weekday.hint : Dp.Hint := { n := 9 }
noncomputable def depotref07_Weekday.env : Dp.Env := { ti := ti, gl := gl, fns := [(15, Tryd.f15, depotref07_Weekday.hint)], specs := [], K := 0 }
theorem depotref07_Weekday.body_eq (K : Nat) (x : depotref07_Weekday.spec.args.den) : body (depotref07_Weekday.env.at K) 8 15 depotref07_Weekday.spec x = depotref07_Weekday K x.1 := by kernel_rfl
theorem depotref07_Weekday.contract : Contract Tryd.prog gl 15 depotref07_Weekday.spec :=
  contract_of (E := depotref07_Weekday.env) ⟨TIok_of tiOK, FnsOK_of ⟨⟨Tryd.func15, Tryd.call15⟩, trivial⟩, mixed⟩ (SpecsOK_of (E := depotref07_Weekday.env) trivial) Tryd.call15 rfl rfl fun K x r h => by
    rw [depotref07_Weekday.body_eq]; exact h

def stringslite_IndexByte.spec : Dp.Spec := { args := (.scons .str (.scons (.int .u8) .snil)), res := (.int .i64), own := false, F := fun K x => stringslite_IndexByte K x.1 x.2.1 }
def stringslite_IndexByte.hint : Dp.Hint := { n := 8 }
noncomputable def stringslite_IndexByte.env : Dp.Env := { ti := ti, gl := gl, fns := [(65, Tryd.f65, stringslite_IndexByte.hint)], specs := [(83, ixb.spec)], K := 0 }
theorem stringslite_IndexByte.body_eq (K : Nat) (x : stringslite_IndexByte.spec.args.den) : body (stringslite_IndexByte.env.at K) 8 65 stringslite_IndexByte.spec x = stringslite_IndexByte K x.1 x.2.1 := by kernel_rfl
theorem stringslite_IndexByte.contract : Contract Tryd.prog gl 65 stringslite_IndexByte.spec :=
  contract_of (E := stringslite_IndexByte.env) ⟨TIok_of tiOK, FnsOK_of ⟨⟨Tryd.func65, Tryd.call65⟩, trivial⟩, mixed⟩ (SpecsOK_of (E := stringslite_IndexByte.env) ⟨ixb.contract, trivial⟩) Tryd.call65 rfl rfl fun K x r h => by
    rw [stringslite_IndexByte.body_eq]; exact h

def strings_IndexByte.spec : Dp.Spec := { args := (.scons .str (.scons (.int .u8) .snil)), res := (.int .i64), own := false, F := fun K x => strings_IndexByte K x.1 x.2.1 }
def strings_IndexByte.hint : Dp.Hint := { n := 8 }
noncomputable def strings_IndexByte.env : Dp.Env := { ti := ti, gl := gl, fns := [(44, Tryd.f44, strings_IndexByte.hint)], specs := [(65, stringslite_IndexByte.spec)], K := 0 }
theorem strings_IndexByte.body_eq (K : Nat) (x : strings_IndexByte.spec.args.den) : body (strings_IndexByte.env.at K) 8 44 strings_IndexByte.spec x = strings_IndexByte K x.1 x.2.1 := by kernel_rfl
theorem strings_IndexByte.contract : Contract Tryd.prog gl 44 strings_IndexByte.spec :=
  contract_of (E := strings_IndexByte.env) ⟨TIok_of tiOK, FnsOK_of ⟨⟨Tryd.func44, Tryd.call44⟩, trivial⟩, mixed⟩ (SpecsOK_of (E := strings_IndexByte.env) ⟨stringslite_IndexByte.contract, trivial⟩) Tryd.call44 rfl rfl fun K x r h => by
    rw [strings_IndexByte.body_eq]; exact h

def date_read_c1.spec : Dp.Spec := { args := (.scons (.int .i64) (.scons (.int .i64) (.scons (.ref .str) .snil))), res := .str, own := false, F := fun K x => date_read_c1 K x.1 x.2.1 x.2.2.1 }
def date_read_c1.hint : Dp.Hint := { n := 18 }
noncomputable def date_read_c1.env : Dp.Env := { ti := ti, gl := gl, fns := [(66, Tryd.f66, date_read_c1.hint)], specs := [], K := 0 }
theorem date_read_c1.body_eq (K : Nat) (x : date_read_c1.spec.args.den) : body (date_read_c1.env.at K) 8 66 date_read_c1.spec x = date_read_c1 K x.1 x.2.1 x.2.2.1 := by kernel_rfl
theorem date_read_c1.contract : Contract Tryd.prog gl 66 date_read_c1.spec :=
  contract_of (E := date_read_c1.env) ⟨TIok_of tiOK, FnsOK_of ⟨⟨Tryd.func66, Tryd.call66⟩, trivial⟩, mixed⟩ (SpecsOK_of (E := date_read_c1.env) trivial) Tryd.call66 rfl rfl fun K x r h => by
    rw [date_read_c1.body_eq]; exact h

def strings_trimLeftByte.spec : Dp.Spec := { args := (.scons .str (.scons (.int .u8) .snil)), res := .str, own := false, F := fun K x => strings_trimLeftByte K x.1 x.2.1 }
def strings_trimLeftByte.hint : Dp.Hint := { n := 17, regions := [(1, [(.normal, { regs := [(0, .str), (1, (.int .u8)), (13, .bool)] })])], loops := [(1, { regs := [(0, .str), (1, (.int .u8))] }, [(.exit 0, { regs := [(0, .str)] })])] }
noncomputable def strings_trimLeftByte.env : Dp.Env := { ti := ti, gl := gl, fns := [(104, Tryd.f104, strings_trimLeftByte.hint)], specs := [], K := 0 }
noncomputable def strings_trimLeftByte.r0 (K : Nat) : Nat → (((List UInt8) × ((Int) × (Unit))) × (Unit)) → Option ((((List UInt8) × (Unit)) × (Unit))) :=
  loopV [(.exit 0, { regs := [(0, .str)] })] { regs := [(0, .str), (1, (.int .u8))] } (interp (strings_trimLeftByte.env.at K) strings_trimLeftByte.hint (callF (strings_trimLeftByte.env.at K) 7) (Code.sub [1, 0, 0, 0] (Tryd.f104.body.getD .skip)) _)
theorem strings_trimLeftByte.s0 (K n : Nat) (x : (((List UInt8) × ((Int) × (Unit))) × (Unit))) : strings_trimLeftByte.r0 K (n + 1) x = strings_trimLeftByte.t0 K (strings_trimLeftByte.r0 K n) x := by kernel_rfl
theorem strings_trimLeftByte.e0 (K n : Nat) : strings_trimLeftByte.r0 K n = strings_trimLeftByte.l0 K n := by
  induction n with
  | zero => funext x; rfl
  | succ n ih => funext x; rw [strings_trimLeftByte.s0, ih]; rfl
theorem strings_trimLeftByte.body_eq (K : Nat) (x : strings_trimLeftByte.spec.args.den) : body (strings_trimLeftByte.env.at K) 8 104 strings_trimLeftByte.spec x = strings_trimLeftByte.tr (strings_trimLeftByte.r0 K) K x.1 x.2.1 := by kernel_rfl
theorem strings_trimLeftByte.contract : Contract Tryd.prog gl 104 strings_trimLeftByte.spec :=
  contract_of (E := strings_trimLeftByte.env) ⟨TIok_of tiOK, FnsOK_of ⟨⟨Tryd.func104, Tryd.call104⟩, trivial⟩, mixed⟩ (SpecsOK_of (E := strings_trimLeftByte.env) trivial) Tryd.call104 rfl rfl fun K x r h => by
    rw [strings_trimLeftByte.body_eq, show strings_trimLeftByte.r0 K = strings_trimLeftByte.l0 K from funext (strings_trimLeftByte.e0 K)]; exact h

def strings_asciiSet_contains.spec : Dp.Spec := { args := (.scons (.ref (.arr 256 .bool)) (.scons (.int .u8) .snil)), res := .bool, own := false, F := fun K x => strings_asciiSet_contains K x.1 x.2.1 }
def strings_asciiSet_contains.hint : Dp.Hint := { n := 10 }
noncomputable def strings_asciiSet_contains.env : Dp.Env := { ti := ti, gl := gl, fns := [(124, Tryd.f124, strings_asciiSet_contains.hint)], specs := [], K := 0 }
theorem strings_asciiSet_contains.body_eq (K : Nat) (x : strings_asciiSet_contains.spec.args.den) : body (strings_asciiSet_contains.env.at K) 8 124 strings_asciiSet_contains.spec x = strings_asciiSet_contains K x.1 x.2.1 := by kernel_rfl
theorem strings_asciiSet_contains.contract : Contract Tryd.prog gl 124 strings_asciiSet_contains.spec :=
  contract_of (E := strings_asciiSet_contains.env) ⟨TIok_of tiOK, FnsOK_of ⟨⟨Tryd.func124, Tryd.call124⟩, trivial⟩, mixed⟩ (SpecsOK_of (E := strings_asciiSet_contains.env) trivial) Tryd.call124 rfl rfl fun K x r h => by
    rw [strings_asciiSet_contains.body_eq]; exact h

def strings_trimLeftASCII.spec : Dp.Spec := { args := (.scons .str (.scons (.ref (.arr 256 .bool)) .snil)), res := .str, own := false, F := fun K x => strings_trimLeftASCII K x.1 x.2.1 }
def strings_trimLeftASCII.hint : Dp.Hint := { n := 16, loops := [(1, { regs := [(0, .str), (1, (.ref (.arr 256 .bool)))] }, [(.exit 0, { regs := [(0, .str)] })])] }
noncomputable def strings_trimLeftASCII.env : Dp.Env := { ti := ti, gl := gl, fns := [(107, Tryd.f107, strings_trimLeftASCII.hint)], specs := [(124, strings_asciiSet_contains.spec)], K := 0 }
noncomputable def strings_trimLeftASCII.r0 (K : Nat) : Nat → (((List UInt8) × ((List (Bool)) × (Unit))) × (Unit)) → Option ((((List UInt8) × (Unit)) × (Unit))) :=
  loopV [(.exit 0, { regs := [(0, .str)] })] { regs := [(0, .str), (1, (.ref (.arr 256 .bool)))] } (interp (strings_trimLeftASCII.env.at K) strings_trimLeftASCII.hint (callF (strings_trimLeftASCII.env.at K) 7) (Code.sub [1, 0, 0, 0] (Tryd.f107.body.getD .skip)) _)
theorem strings_trimLeftASCII.s0 (K n : Nat) (x : (((List UInt8) × ((List (Bool)) × (Unit))) × (Unit))) : strings_trimLeftASCII.r0 K (n + 1) x = strings_trimLeftASCII.t0 K (strings_trimLeftASCII.r0 K n) x := by kernel_rfl
theorem strings_trimLeftASCII.e0 (K n : Nat) : strings_trimLeftASCII.r0 K n = strings_trimLeftASCII.l0 K n := by
  induction n with
  | zero => funext x; rfl
  | succ n ih => funext x; rw [strings_trimLeftASCII.s0, ih]; rfl
theorem strings_trimLeftASCII.body_eq (K : Nat) (x : strings_trimLeftASCII.spec.args.den) : body (strings_trimLeftASCII.env.at K) 8 107 strings_trimLeftASCII.spec x = strings_trimLeftASCII.tr (strings_trimLeftASCII.r0 K) K x.1 x.2.1 := by kernel_rfl
theorem strings_trimLeftASCII.contract : Contract Tryd.prog gl 107 strings_trimLeftASCII.spec :=
  contract_of (E := strings_trimLeftASCII.env) ⟨TIok_of tiOK, FnsOK_of ⟨⟨Tryd.func107, Tryd.call107⟩, trivial⟩, mixed⟩ (SpecsOK_of (E := strings_trimLeftASCII.env) ⟨strings_asciiSet_contains.contract, trivial⟩) Tryd.call107 rfl rfl fun K x r h => by
    rw [strings_trimLeftASCII.body_eq, show strings_trimLeftASCII.r0 K = strings_trimLeftASCII.l0 K from funext (strings_trimLeftASCII.e0 K)]; exact h

def strings_TrimLeft.spec : Dp.Spec := { args := (.scons .str (.scons .str .snil)), res := .str, own := false, F := fun K x => strings_TrimLeft K x.1 x.2.1 }
def strings_TrimLeft.hint : Dp.Hint := { n := 37, regions := [(1, [(.normal, { regs := [(0, .str), (1, .str), (12, .bool)] })]), (3, [(.normal, { regs := [(0, .str), (1, .str), (21, .bool)] })])] }
noncomputable def strings_TrimLeft.env : Dp.Env := { ti := ti, gl := gl, fns := [(85, Tryd.f85, strings_TrimLeft.hint)], specs := [(104, strings_trimLeftByte.spec), (107, strings_trimLeftASCII.spec), (106, asciiSet.spec)], K := 0 }
theorem strings_TrimLeft.body_eq (K : Nat) (x : strings_TrimLeft.spec.args.den) : body (strings_TrimLeft.env.at K) 8 85 strings_TrimLeft.spec x = strings_TrimLeft K x.1 x.2.1 := by kernel_rfl
theorem strings_TrimLeft.contract : Contract Tryd.prog gl 85 strings_TrimLeft.spec :=
  contract_of (E := strings_TrimLeft.env) ⟨TIok_of tiOK, FnsOK_of ⟨⟨Tryd.func85, Tryd.call85⟩, trivial⟩, mixed⟩ (SpecsOK_of (E := strings_TrimLeft.env) ⟨strings_trimLeftByte.contract, strings_trimLeftASCII.contract, asciiSet.contract, trivial⟩) Tryd.call85 rfl rfl fun K x r h => by
    rw [strings_TrimLeft.body_eq]; exact h

def decimal_digit.spec : Dp.Spec := { args := (.scons (.int .i32) (.scons (.int .i64) .snil)), res := (.int .i64), own := false, F := fun K x => decimal_digit K x.1 x.2.1 }
def decimal_digit.hint : Dp.Hint := { n := 42, conds := [(6, [(.normal, { regs := [(1, (.int .i64)), (5, (.int .i64))] })]), (16, [(.normal, { regs := [(1, (.int .i64)), (5, (.int .i64))] })]), (27, [(.normal, { regs := [(1, (.int .i64)), (5, (.int .i64))] })])], regions := [(2, [(.normal, { regs := [(0, (.int .i32)), (1, (.int .i64)), (5, (.int .i64)), (6, .bool)] })]), (4, [(.normal, { regs := [(0, (.int .i32)), (1, (.int .i64)), (5, (.int .i64)), (16, .bool)] })]), (6, [(.normal, { regs := [(0, (.int .i32)), (1, (.int .i64)), (5, (.int .i64)), (27, .bool)] })])] }
noncomputable def decimal_digit.env : Dp.Env := { ti := ti, gl := gl, fns := [(132, Tryd.f132, decimal_digit.hint)], specs := [], K := 0 }
theorem decimal_digit.body_eq (K : Nat) (x : decimal_digit.spec.args.den) : body (decimal_digit.env.at K) 8 132 decimal_digit.spec x = decimal_digit K x.1 x.2.1 := by kernel_rfl
theorem decimal_digit.contract : Contract Tryd.prog gl 132 decimal_digit.spec :=
  contract_of (E := decimal_digit.env) ⟨TIok_of tiOK, FnsOK_of ⟨⟨Tryd.func132, Tryd.call132⟩, trivial⟩, mixed⟩ (SpecsOK_of (E := decimal_digit.env) trivial) Tryd.call132 rfl rfl fun K x r h => by
    rw [decimal_digit.body_eq]; exact h

def decimal_read.spec : Dp.Spec := { args := (.scons .str (.scons (.int .i64) (.scons (.int .i64) (.scons (.int .i64) .snil)))), res := (.tup (.scons (.int .i64) (.scons (.int .i64) .snil))), own := false, F := fun K x => decimal_read K x.1 x.2.1 x.2.2.1 x.2.2.2.1 }
def decimal_read.hint : Dp.Hint := { n := 41, regions := [(1, [(.normal, { regs := [(0, .str), (1, (.int .i64)), (3, (.int .i64)), (21, .bool)] })])], loops := [(5, { regs := [(1, (.int .i64)), (3, (.int .i64)), (10, (.int .i64)), (23, (.loc 0 false []))], heap := [.iter] }, [(.exit 0, { regs := [(3, (.int .i64)), (10, (.int .i64))], heap := [.iter] }), (.ret, { regs := [(8, (.int .i64)), (9, (.int .i64))], heap := [.iter] })])] }
noncomputable def decimal_read.env : Dp.Env := { ti := ti, gl := gl, fns := [(117, Tryd.f117, decimal_read.hint)], specs := [(132, decimal_digit.spec)], K := 0 }
noncomputable def decimal_read.r0 (K : Nat) : Nat → (((Int) × ((Int) × ((Int) × ((Nat) × (Unit))))) × ((List UInt8 × Nat) × (Unit))) → Option ((((Int) × ((Int) × (Unit))) × ((List UInt8 × Nat) × (Unit))) ⊕ (((Int) × ((Int) × (Unit))) × ((List UInt8 × Nat) × (Unit)))) :=
  loopV [(.exit 0, { regs := [(3, (.int .i64)), (10, (.int .i64))], heap := [.iter] }), (.ret, { regs := [(8, (.int .i64)), (9, (.int .i64))], heap := [.iter] })] { regs := [(1, (.int .i64)), (3, (.int .i64)), (10, (.int .i64)), (23, (.loc 0 false []))], heap := [.iter] } (interp (decimal_read.env.at K) decimal_read.hint (callF (decimal_read.env.at K) 7) (Code.sub [1, 1, 1, 0, 1, 0, 0] (Tryd.f117.body.getD .skip)) _)
theorem decimal_read.s0 (K n : Nat) (x : (((Int) × ((Int) × ((Int) × ((Nat) × (Unit))))) × ((List UInt8 × Nat) × (Unit)))) : decimal_read.r0 K (n + 1) x = decimal_read.t0 K (decimal_read.r0 K n) x := by kernel_rfl
theorem decimal_read.e0 (K n : Nat) : decimal_read.r0 K n = decimal_read.l0 K n := by
  induction n with
  | zero => funext x; rfl
  | succ n ih => funext x; rw [decimal_read.s0, ih]; rfl
theorem decimal_read.body_eq (K : Nat) (x : decimal_read.spec.args.den) : body (decimal_read.env.at K) 8 117 decimal_read.spec x = decimal_read.tr (decimal_read.r0 K) K x.1 x.2.1 x.2.2.1 x.2.2.2.1 := by kernel_rfl
theorem decimal_read.contract : Contract Tryd.prog gl 117 decimal_read.spec :=
  contract_of (E := decimal_read.env) ⟨TIok_of tiOK, FnsOK_of ⟨⟨Tryd.func117, Tryd.call117⟩, trivial⟩, mixed⟩ (SpecsOK_of (E := decimal_read.env) ⟨decimal_digit.contract, trivial⟩) Tryd.call117 rfl rfl fun K x r h => by
    rw [decimal_read.body_eq, show decimal_read.r0 K = decimal_read.l0 K from funext (decimal_read.e0 K)]; exact h

def decimal_Number.spec : Dp.Spec := { args := (.scons .str (.scons (.int .i64) .snil)), res := (.tup (.scons (.int .i64) (.scons (.int .i64) .snil))), own := false, F := fun K x => decimal_Number K x.1 x.2.1 }
def decimal_Number.hint : Dp.Hint := { n := 11 }
noncomputable def decimal_Number.env : Dp.Env := { ti := ti, gl := gl, fns := [(84, Tryd.f84, decimal_Number.hint)], specs := [(117, decimal_read.spec)], K := 0 }
theorem decimal_Number.body_eq (K : Nat) (x : decimal_Number.spec.args.den) : body (decimal_Number.env.at K) 8 84 decimal_Number.spec x = decimal_Number K x.1 x.2.1 := by kernel_rfl
theorem decimal_Number.contract : Contract Tryd.prog gl 84 decimal_Number.spec :=
  contract_of (E := decimal_Number.env) ⟨TIok_of tiOK, FnsOK_of ⟨⟨Tryd.func84, Tryd.call84⟩, trivial⟩, mixed⟩ (SpecsOK_of (E := decimal_Number.env) ⟨decimal_read.contract, trivial⟩) Tryd.call84 rfl rfl fun K x r h => by
    rw [decimal_Number.body_eq]; exact h

def date_number.spec : Dp.Spec := { args := (.scons .str .snil), res := (.int .i64), own := false, F := fun K x => date_number K x.1 }
def date_number.hint : Dp.Hint := { n := 14 }
noncomputable def date_number.env : Dp.Env := { ti := ti, gl := gl, fns := [(67, Tryd.f67, date_number.hint)], specs := [(85, strings_TrimLeft.spec), (84, decimal_Number.spec)], K := 0 }
theorem date_number.body_eq (K : Nat) (x : date_number.spec.args.den) : body (date_number.env.at K) 8 67 date_number.spec x = date_number K x.1 := by kernel_rfl
theorem date_number.contract : Contract Tryd.prog gl 67 date_number.spec :=
  contract_of (E := date_number.env) ⟨TIok_of tiOK, FnsOK_of ⟨⟨Tryd.func67, Tryd.call67⟩, trivial⟩, mixed⟩ (SpecsOK_of (E := date_number.env) ⟨strings_TrimLeft.contract, decimal_Number.contract, trivial⟩) Tryd.call67 rfl rfl fun K x r h => by
    rw [date_number.body_eq]; exact h

def date_century.spec : Dp.Spec := { args := (.scons (.int .i64) .snil), res := (.int .i64), own := false, F := fun K x => date_century K x.1 }
def date_century.hint : Dp.Hint := { n := 9 }
noncomputable def date_century.env : Dp.Env := { ti := ti, gl := gl, fns := [(68, Tryd.f68, date_century.hint)], specs := [], K := 0 }
theorem date_century.body_eq (K : Nat) (x : date_century.spec.args.den) : body (date_century.env.at K) 8 68 date_century.spec x = date_century K x.1 := by kernel_rfl
theorem date_century.contract : Contract Tryd.prog gl 68 date_century.spec :=
  contract_of (E := date_century.env) ⟨TIok_of tiOK, FnsOK_of ⟨⟨Tryd.func68, Tryd.call68⟩, trivial⟩, mixed⟩ (SpecsOK_of (E := date_century.env) trivial) Tryd.call68 rfl rfl fun K x r h => by
    rw [date_century.body_eq]; exact h

def date_named.spec : Dp.Spec := { args := (.scons .str .snil), res := (.int .i64), own := false, F := fun K x => date_named K x.1 }
def date_named.hint : Dp.Hint := { n := 16, loops := [(2, { regs := [(0, .str), (5, (.arr 12 .str)), (6, (.int .i64))] }, [(.exit 0, { regs := [] }), (.ret, { regs := [(2, (.int .i64))] })])] }
noncomputable def date_named.env : Dp.Env := { ti := ti, gl := gl, fns := [(69, Tryd.f69, date_named.hint)], specs := [], K := 0 }
noncomputable def date_named.r0 (K : Nat) : Nat → (((List UInt8) × ((List (List UInt8)) × ((Int) × (Unit)))) × (Unit)) → Option (((Unit) × (Unit)) ⊕ (((Int) × (Unit)) × (Unit))) :=
  loopV [(.exit 0, { regs := [] }), (.ret, { regs := [(2, (.int .i64))] })] { regs := [(0, .str), (5, (.arr 12 .str)), (6, (.int .i64))] } (interp (date_named.env.at K) date_named.hint (callF (date_named.env.at K) 7) (Code.sub [1, 0, 1, 0, 0] (Tryd.f69.body.getD .skip)) _)
theorem date_named.s0 (K n : Nat) (x : (((List UInt8) × ((List (List UInt8)) × ((Int) × (Unit)))) × (Unit))) : date_named.r0 K (n + 1) x = date_named.t0 K (date_named.r0 K n) x := by kernel_rfl
theorem date_named.e0 (K n : Nat) : date_named.r0 K n = date_named.l0 K n := by
  induction n with
  | zero => funext x; rfl
  | succ n ih => funext x; rw [date_named.s0, ih]; rfl
theorem date_named.body_eq (K : Nat) (x : date_named.spec.args.den) : body (date_named.env.at K) 8 69 date_named.spec x = date_named.tr (date_named.r0 K) K x.1 := by kernel_rfl
theorem date_named.contract : Contract Tryd.prog gl 69 date_named.spec :=
  contract_of (E := date_named.env) ⟨TIok_of tiOK, FnsOK_of ⟨⟨Tryd.func69, Tryd.call69⟩, trivial⟩, mixed⟩ (SpecsOK_of (E := date_named.env) trivial) Tryd.call69 rfl rfl fun K x r h => by
    rw [date_named.body_eq, show date_named.r0 K = date_named.l0 K from funext (date_named.e0 K)]; exact h

def date_read.spec : Dp.Spec := { args := (.scons .str (.scons (.int .i64) (.scons (.int .i64) (.scons (.int .i64) (.scons (.int .i64) (.scons (.int .i64) .snil)))))), res := (.int .i64), own := false, F := fun K x => date_read K x.1 x.2.1 x.2.2.1 x.2.2.2.1 x.2.2.2.2.1 x.2.2.2.2.2.1 }
def date_read.hint : Dp.Hint := { n := 97, conds := [(31, [(.normal, { regs := [(1, (.int .i64)), (2, (.int .i64)), (5, (.int .i64)), (13, (.fn 66 (.scons (.ref .str) .snil))), (14, (.int .i64))] })])], regions := [(3, [(.normal, { regs := [(1, (.int .i64)), (2, (.int .i64)), (5, (.int .i64)), (13, (.fn 66 (.scons (.ref .str) .snil))), (14, (.int .i64)), (31, .bool)] })]), (7, [(.normal, { regs := [(15, (.int .i64)), (17, (.int .i64)), (18, (.int .i64)), (19, (.int .i64)), (86, .bool)] })])], imm := [6] }
noncomputable def date_read.env : Dp.Env := { ti := ti, gl := gl, fns := [(45, Tryd.f45, date_read.hint)], specs := [(10, date_Days.spec), (66, date_read_c1.spec), (67, date_number.spec), (68, date_century.spec), (69, date_named.spec)], K := 0 }
theorem date_read.body_eq (K : Nat) (x : date_read.spec.args.den) : body (date_read.env.at K) 8 45 date_read.spec x = date_read K x.1 x.2.1 x.2.2.1 x.2.2.2.1 x.2.2.2.2.1 x.2.2.2.2.2.1 := by kernel_rfl
theorem date_read.contract : Contract Tryd.prog gl 45 date_read.spec :=
  contract_of (E := date_read.env) ⟨TIok_of tiOK, FnsOK_of ⟨⟨Tryd.func45, Tryd.call45⟩, trivial⟩, mixed⟩ (SpecsOK_of (E := date_read.env) ⟨date_Days.contract, date_read_c1.contract, date_number.contract, date_century.contract, date_named.contract, trivial⟩) Tryd.call45 rfl rfl fun K x r h => by
    rw [date_read.body_eq]; exact h

def decimal_Plain.spec : Dp.Spec := { args := (.scons (.int .i64) .snil), res := .str, own := false, F := fun K x => decimal_Plain K x.1 }
def decimal_Plain.hint : Dp.Hint := { n := 5 }
noncomputable def decimal_Plain.env : Dp.Env := { ti := ti, gl := gl, fns := [(38, Tryd.f38, decimal_Plain.hint)], specs := [(63, itoa.spec)], K := 0 }
theorem decimal_Plain.body_eq (K : Nat) (x : decimal_Plain.spec.args.den) : body (decimal_Plain.env.at K) 8 38 decimal_Plain.spec x = decimal_Plain K x.1 := by kernel_rfl
theorem decimal_Plain.contract : Contract Tryd.prog gl 38 decimal_Plain.spec :=
  contract_of (E := decimal_Plain.env) ⟨TIok_of tiOK, FnsOK_of ⟨⟨Tryd.func38, Tryd.call38⟩, trivial⟩, mixed⟩ (SpecsOK_of (E := decimal_Plain.env) ⟨itoa.contract, trivial⟩) Tryd.call38 rfl rfl fun K x r h => by
    rw [decimal_Plain.body_eq]; exact h

def decimal_Pad.spec : Dp.Spec := { args := (.scons (.int .i64) (.scons (.int .i64) .snil)), res := .str, own := false, F := fun K x => decimal_Pad K x.1 x.2.1 }
def decimal_Pad.hint : Dp.Hint := { n := 28, regions := [(2, [(.normal, { regs := [(1, (.int .i64)), (5, .str), (19, .bool)] })])] }
noncomputable def decimal_Pad.env : Dp.Env := { ti := ti, gl := gl, fns := [(37, Tryd.f37, decimal_Pad.hint)], specs := [(38, decimal_Plain.spec), (62, repeatS.spec)], K := 0 }
theorem decimal_Pad.body_eq (K : Nat) (x : decimal_Pad.spec.args.den) : body (decimal_Pad.env.at K) 8 37 decimal_Pad.spec x = decimal_Pad K x.1 x.2.1 := by kernel_rfl
theorem decimal_Pad.contract : Contract Tryd.prog gl 37 decimal_Pad.spec :=
  contract_of (E := decimal_Pad.env) ⟨TIok_of tiOK, FnsOK_of ⟨⟨Tryd.func37, Tryd.call37⟩, trivial⟩, mixed⟩ (SpecsOK_of (E := decimal_Pad.env) ⟨decimal_Plain.contract, repeatS.contract, trivial⟩) Tryd.call37 rfl rfl fun K x r h => by
    rw [decimal_Pad.body_eq]; exact h

def date_of.spec : Dp.Spec := { args := (.scons (.int .i64) .snil), res := (.scons (.int .i64) (.scons (.int .i64) (.scons (.int .i64) (.scons (.int .i64) (.scons .str .snil))))), own := false, F := fun K x => date_of K x.1 }
def date_of.hint : Dp.Hint := { n := 39 }
noncomputable def date_of.env : Dp.Env := { ti := ti, gl := gl, fns := [(35, Tryd.f35, date_of.hint)], specs := [(12, date_Civil.spec), (14, date_Weekday.spec), (37, decimal_Pad.spec), (36, joinS.spec)], K := 0 }
theorem date_of.body_eq (K : Nat) (x : date_of.spec.args.den) : body (date_of.env.at K) 8 35 date_of.spec x = date_of K x.1 := by kernel_rfl
theorem date_of.contract : Contract Tryd.prog gl 35 date_of.spec :=
  contract_of (E := date_of.env) ⟨TIok_of tiOK, FnsOK_of ⟨⟨Tryd.func35, Tryd.call35⟩, trivial⟩, mixed⟩ (SpecsOK_of (E := date_of.env) ⟨date_Civil.contract, date_Weekday.contract, decimal_Pad.contract, joinS.contract, trivial⟩) Tryd.call35 rfl rfl fun K x r h => by
    rw [date_of.body_eq]; exact h

def date_Format.spec : Dp.Spec := { args := (.scons (.int .i64) .snil), res := .str, own := false, F := fun K x => date_Format K x.1 }
def date_Format.hint : Dp.Hint := { n := 33, regions := [(1, [(.normal, { regs := [(0, (.int .i64)), (9, .bool)] })])] }
noncomputable def date_Format.env : Dp.Env := { ti := ti, gl := gl, fns := [(17, Tryd.f17, date_Format.hint)], specs := [(38, decimal_Plain.spec), (37, decimal_Pad.spec), (35, date_of.spec), (36, joinS.spec)], K := 0 }
theorem date_Format.body_eq (K : Nat) (x : date_Format.spec.args.den) : body (date_Format.env.at K) 8 17 date_Format.spec x = date_Format K x.1 := by kernel_rfl
theorem date_Format.contract : Contract Tryd.prog gl 17 date_Format.spec :=
  contract_of (E := date_Format.env) ⟨TIok_of tiOK, FnsOK_of ⟨⟨Tryd.func17, Tryd.call17⟩, trivial⟩, mixed⟩ (SpecsOK_of (E := date_Format.env) ⟨decimal_Plain.contract, decimal_Pad.contract, date_of.contract, joinS.contract, trivial⟩) Tryd.call17 rfl rfl fun K x r h => by
    rw [date_Format.body_eq]; exact h

def date_Old.spec : Dp.Spec := { args := (.scons (.int .i64) .snil), res := .str, own := false, F := fun K x => date_Old K x.1 }
def date_Old.hint : Dp.Hint := { n := 37, regions := [(1, [(.normal, { regs := [(0, (.int .i64)), (10, .bool)] })])] }
noncomputable def date_Old.env : Dp.Env := { ti := ti, gl := gl, fns := [(19, Tryd.f19, date_Old.hint)], specs := [(37, decimal_Pad.spec), (35, date_of.spec), (36, joinS.spec)], K := 0 }
theorem date_Old.body_eq (K : Nat) (x : date_Old.spec.args.den) : body (date_Old.env.at K) 8 19 date_Old.spec x = date_Old K x.1 := by kernel_rfl
theorem date_Old.contract : Contract Tryd.prog gl 19 date_Old.spec :=
  contract_of (E := date_Old.env) ⟨TIok_of tiOK, FnsOK_of ⟨⟨Tryd.func19, Tryd.call19⟩, trivial⟩, mixed⟩ (SpecsOK_of (E := date_Old.env) ⟨decimal_Pad.contract, date_of.contract, joinS.contract, trivial⟩) Tryd.call19 rfl rfl fun K x r h => by
    rw [date_Old.body_eq]; exact h

def date_Plain.spec : Dp.Spec := { args := (.scons (.int .i64) .snil), res := .str, own := false, F := fun K x => date_Plain K x.1 }
def date_Plain.hint : Dp.Hint := { n := 39, conds := [(18, [(.normal, { regs := [(3, (.loc 0 false [])), (4, .str)], heap := [(.scons (.int .i64) (.scons (.int .i64) (.scons (.int .i64) (.scons (.int .i64) (.scons .str .snil)))))] })])], regions := [(1, [(.normal, { regs := [(0, (.int .i64)), (10, .bool)] })])] }
noncomputable def date_Plain.env : Dp.Env := { ti := ti, gl := gl, fns := [(21, Tryd.f21, date_Plain.hint)], specs := [(38, decimal_Plain.spec), (35, date_of.spec), (36, joinS.spec)], K := 0 }
theorem date_Plain.body_eq (K : Nat) (x : date_Plain.spec.args.den) : body (date_Plain.env.at K) 8 21 date_Plain.spec x = date_Plain K x.1 := by kernel_rfl
theorem date_Plain.contract : Contract Tryd.prog gl 21 date_Plain.spec :=
  contract_of (E := date_Plain.env) ⟨TIok_of tiOK, FnsOK_of ⟨⟨Tryd.func21, Tryd.call21⟩, trivial⟩, mixed⟩ (SpecsOK_of (E := date_Plain.env) ⟨decimal_Plain.contract, date_of.contract, joinS.contract, trivial⟩) Tryd.call21 rfl rfl fun K x r h => by
    rw [date_Plain.body_eq]; exact h

def date_Parse.spec : Dp.Spec := { args := (.scons .str .snil), res := (.tup (.scons (.int .i64) (.scons (.int .i64) .snil))), own := false, F := fun K x => date_Parse K x.1 }
def date_Parse.hint : Dp.Hint := { n := 52, regions := [(3, [(.normal, { regs := [(0, .str), (4, (.int .i64)), (5, (.int .i64)), (20, .bool)] })]), (6, [(.normal, { regs := [(0, .str), (6, (.int .i64)), (39, .bool)] })]), (9, [(.normal, { regs := [(7, (.int .i64)), (50, .bool)] })])] }
noncomputable def date_Parse.env : Dp.Env := { ti := ti, gl := gl, fns := [(23, Tryd.f23, date_Parse.hint)], specs := [(44, strings_IndexByte.spec), (45, date_read.spec), (17, date_Format.spec), (19, date_Old.spec), (21, date_Plain.spec)], K := 0 }
theorem date_Parse.body_eq (K : Nat) (x : date_Parse.spec.args.den) : body (date_Parse.env.at K) 8 23 date_Parse.spec x = date_Parse K x.1 := by kernel_rfl
theorem date_Parse.contract : Contract Tryd.prog gl 23 date_Parse.spec :=
  contract_of (E := date_Parse.env) ⟨TIok_of tiOK, FnsOK_of ⟨⟨Tryd.func23, Tryd.call23⟩, trivial⟩, mixed⟩ (SpecsOK_of (E := date_Parse.env) ⟨strings_IndexByte.contract, date_read.contract, date_Format.contract, date_Old.contract, date_Plain.contract, trivial⟩) Tryd.call23 rfl rfl fun K x r h => by
    rw [date_Parse.body_eq]; exact h

def depotlaw07_dates.spec : Dp.Spec := { args := .snil, res := .bool, own := false, F := fun K x => depotlaw07_dates K }
def depotlaw07_dates.hint : Dp.Hint := { n := 74 }
noncomputable def depotlaw07_dates.env : Dp.Env := { ti := ti, gl := gl, fns := [(16, Tryd.f16, depotlaw07_dates.hint)], specs := [(10, date_Days.spec), (14, date_Weekday.spec), (17, date_Format.spec), (23, date_Parse.spec)], K := 0 }
theorem depotlaw07_dates.body_eq (K : Nat) (x : depotlaw07_dates.spec.args.den) : body (depotlaw07_dates.env.at K) 8 16 depotlaw07_dates.spec x = depotlaw07_dates K := by kernel_rfl
theorem depotlaw07_dates.contract : Contract Tryd.prog gl 16 depotlaw07_dates.spec :=
  contract_of (E := depotlaw07_dates.env) ⟨TIok_of tiOK, FnsOK_of ⟨⟨Tryd.func16, Tryd.call16⟩, trivial⟩, mixed⟩ (SpecsOK_of (E := depotlaw07_dates.env) ⟨date_Days.contract, date_Weekday.contract, date_Format.contract, date_Parse.contract, trivial⟩) Tryd.call16 rfl rfl fun K x r h => by
    rw [depotlaw07_dates.body_eq]; exact h

def depotref07_day.spec : Dp.Spec := { args := (.scons (.int .i64) .snil), res := .str, own := false, F := fun K x => depotref07_day K x.1 }
def depotref07_day.hint : Dp.Hint := { n := 7 }
noncomputable def depotref07_day.env : Dp.Env := { ti := ti, gl := gl, fns := [(39, Tryd.f39, depotref07_day.hint)], specs := [], K := 0 }
theorem depotref07_day.body_eq (K : Nat) (x : depotref07_day.spec.args.den) : body (depotref07_day.env.at K) 8 39 depotref07_day.spec x = depotref07_day K x.1 := by kernel_rfl
theorem depotref07_day.contract : Contract Tryd.prog gl 39 depotref07_day.spec :=
  contract_of (E := depotref07_day.env) ⟨TIok_of tiOK, FnsOK_of ⟨⟨Tryd.func39, Tryd.call39⟩, trivial⟩, mixed⟩ (SpecsOK_of (E := depotref07_day.env) trivial) Tryd.call39 rfl rfl fun K x r h => by
    rw [depotref07_day.body_eq]; exact h

def depotref02_digits.spec : Dp.Spec := { args := (.scons (.int .u64) (.scons (.int .u64) .snil)), res := .str, own := false, F := fun K x => depotref02_digits K x.1 x.2.1 }
def depotref02_digits.hint : Dp.Hint := { n := 31, loops := [(3, { regs := [(0, (.int .u64)), (1, (.int .u64)), (5, .str), (6, .str)] }, [(.exit 0, { regs := [(0, (.int .u64)), (5, .str), (6, .str)] })])] }
noncomputable def depotref02_digits.env : Dp.Env := { ti := ti, gl := gl, fns := [(64, Tryd.f64, depotref02_digits.hint)], specs := [], K := 0 }
noncomputable def depotref02_digits.r0 (K : Nat) : Nat → (((Int) × ((Int) × ((List UInt8) × ((List UInt8) × (Unit))))) × (Unit)) → Option ((((Int) × ((List UInt8) × ((List UInt8) × (Unit)))) × (Unit))) :=
  loopV [(.exit 0, { regs := [(0, (.int .u64)), (5, .str), (6, .str)] })] { regs := [(0, (.int .u64)), (1, (.int .u64)), (5, .str), (6, .str)] } (interp (depotref02_digits.env.at K) depotref02_digits.hint (callF (depotref02_digits.env.at K) 7) (Code.sub [1, 1, 1, 0, 0, 0] (Tryd.f64.body.getD .skip)) _)
theorem depotref02_digits.s0 (K n : Nat) (x : (((Int) × ((Int) × ((List UInt8) × ((List UInt8) × (Unit))))) × (Unit))) : depotref02_digits.r0 K (n + 1) x = depotref02_digits.t0 K (depotref02_digits.r0 K n) x := by kernel_rfl
theorem depotref02_digits.e0 (K n : Nat) : depotref02_digits.r0 K n = depotref02_digits.l0 K n := by
  induction n with
  | zero => funext x; rfl
  | succ n ih => funext x; rw [depotref02_digits.s0, ih]; rfl
theorem depotref02_digits.body_eq (K : Nat) (x : depotref02_digits.spec.args.den) : body (depotref02_digits.env.at K) 8 64 depotref02_digits.spec x = depotref02_digits.tr (depotref02_digits.r0 K) K x.1 x.2.1 := by kernel_rfl
theorem depotref02_digits.contract : Contract Tryd.prog gl 64 depotref02_digits.spec :=
  contract_of (E := depotref02_digits.env) ⟨TIok_of tiOK, FnsOK_of ⟨⟨Tryd.func64, Tryd.call64⟩, trivial⟩, mixed⟩ (SpecsOK_of (E := depotref02_digits.env) trivial) Tryd.call64 rfl rfl fun K x r h => by
    rw [depotref02_digits.body_eq, show depotref02_digits.r0 K = depotref02_digits.l0 K from funext (depotref02_digits.e0 K)]; exact h

def depotref02_Plain.spec : Dp.Spec := { args := (.scons (.int .i64) .snil), res := .str, own := false, F := fun K x => depotref02_Plain K x.1 }
def depotref02_Plain.hint : Dp.Hint := { n := 13 }
noncomputable def depotref02_Plain.env : Dp.Env := { ti := ti, gl := gl, fns := [(43, Tryd.f43, depotref02_Plain.hint)], specs := [(64, depotref02_digits.spec)], K := 0 }
theorem depotref02_Plain.body_eq (K : Nat) (x : depotref02_Plain.spec.args.den) : body (depotref02_Plain.env.at K) 8 43 depotref02_Plain.spec x = depotref02_Plain K x.1 := by kernel_rfl
theorem depotref02_Plain.contract : Contract Tryd.prog gl 43 depotref02_Plain.spec :=
  contract_of (E := depotref02_Plain.env) ⟨TIok_of tiOK, FnsOK_of ⟨⟨Tryd.func43, Tryd.call43⟩, trivial⟩, mixed⟩ (SpecsOK_of (E := depotref02_Plain.env) ⟨depotref02_digits.contract, trivial⟩) Tryd.call43 rfl rfl fun K x r h => by
    rw [depotref02_Plain.body_eq]; exact h

def depotref02_Pad.spec : Dp.Spec := { args := (.scons (.int .i64) (.scons (.int .i64) .snil)), res := .str, own := false, F := fun K x => depotref02_Pad K x.1 x.2.1 }
def depotref02_Pad.hint : Dp.Hint := { n := 22, regions := [(2, [(.normal, { regs := [(1, (.int .i64)), (5, .str), (13, .bool)] })])], loops := [(4, { regs := [(1, (.int .i64)), (5, .str)] }, [(.exit 0, { regs := [(5, .str)] })])] }
noncomputable def depotref02_Pad.env : Dp.Env := { ti := ti, gl := gl, fns := [(40, Tryd.f40, depotref02_Pad.hint)], specs := [(43, depotref02_Plain.spec)], K := 0 }
noncomputable def depotref02_Pad.r0 (K : Nat) : Nat → (((Int) × ((List UInt8) × (Unit))) × (Unit)) → Option ((((List UInt8) × (Unit)) × (Unit))) :=
  loopV [(.exit 0, { regs := [(5, .str)] })] { regs := [(1, (.int .i64)), (5, .str)] } (interp (depotref02_Pad.env.at K) depotref02_Pad.hint (callF (depotref02_Pad.env.at K) 7) (Code.sub [1, 1, 1, 0, 0, 0] (Tryd.f40.body.getD .skip)) _)
theorem depotref02_Pad.s0 (K n : Nat) (x : (((Int) × ((List UInt8) × (Unit))) × (Unit))) : depotref02_Pad.r0 K (n + 1) x = depotref02_Pad.t0 K (depotref02_Pad.r0 K n) x := by kernel_rfl
theorem depotref02_Pad.e0 (K n : Nat) : depotref02_Pad.r0 K n = depotref02_Pad.l0 K n := by
  induction n with
  | zero => funext x; rfl
  | succ n ih => funext x; rw [depotref02_Pad.s0, ih]; rfl
theorem depotref02_Pad.body_eq (K : Nat) (x : depotref02_Pad.spec.args.den) : body (depotref02_Pad.env.at K) 8 40 depotref02_Pad.spec x = depotref02_Pad.tr (depotref02_Pad.r0 K) K x.1 x.2.1 := by kernel_rfl
theorem depotref02_Pad.contract : Contract Tryd.prog gl 40 depotref02_Pad.spec :=
  contract_of (E := depotref02_Pad.env) ⟨TIok_of tiOK, FnsOK_of ⟨⟨Tryd.func40, Tryd.call40⟩, trivial⟩, mixed⟩ (SpecsOK_of (E := depotref02_Pad.env) ⟨depotref02_Plain.contract, trivial⟩) Tryd.call40 rfl rfl fun K x r h => by
    rw [depotref02_Pad.body_eq, show depotref02_Pad.r0 K = depotref02_Pad.l0 K from funext (depotref02_Pad.e0 K)]; exact h

def depotref07_month.spec : Dp.Spec := { args := (.scons (.int .i64) .snil), res := .str, own := false, F := fun K x => depotref07_month K x.1 }
def depotref07_month.hint : Dp.Hint := { n := 9 }
noncomputable def depotref07_month.env : Dp.Env := { ti := ti, gl := gl, fns := [(41, Tryd.f41, depotref07_month.hint)], specs := [], K := 0 }
theorem depotref07_month.body_eq (K : Nat) (x : depotref07_month.spec.args.den) : body (depotref07_month.env.at K) 8 41 depotref07_month.spec x = depotref07_month K x.1 := by kernel_rfl
theorem depotref07_month.contract : Contract Tryd.prog gl 41 depotref07_month.spec :=
  contract_of (E := depotref07_month.env) ⟨TIok_of tiOK, FnsOK_of ⟨⟨Tryd.func41, Tryd.call41⟩, trivial⟩, mixed⟩ (SpecsOK_of (E := depotref07_month.env) trivial) Tryd.call41 rfl rfl fun K x r h => by
    rw [depotref07_month.body_eq]; exact h

def depotref07_clock.spec : Dp.Spec := { args := (.scons (.int .i64) .snil), res := .str, own := false, F := fun K x => depotref07_clock K x.1 }
def depotref07_clock.hint : Dp.Hint := { n := 20 }
noncomputable def depotref07_clock.env : Dp.Env := { ti := ti, gl := gl, fns := [(42, Tryd.f42, depotref07_clock.hint)], specs := [(40, depotref02_Pad.spec)], K := 0 }
theorem depotref07_clock.body_eq (K : Nat) (x : depotref07_clock.spec.args.den) : body (depotref07_clock.env.at K) 8 42 depotref07_clock.spec x = depotref07_clock K x.1 := by kernel_rfl
theorem depotref07_clock.contract : Contract Tryd.prog gl 42 depotref07_clock.spec :=
  contract_of (E := depotref07_clock.env) ⟨TIok_of tiOK, FnsOK_of ⟨⟨Tryd.func42, Tryd.call42⟩, trivial⟩, mixed⟩ (SpecsOK_of (E := depotref07_clock.env) ⟨depotref02_Pad.contract, trivial⟩) Tryd.call42 rfl rfl fun K x r h => by
    rw [depotref07_clock.body_eq]; exact h

def depotref07_Format.spec : Dp.Spec := { args := (.scons (.int .i64) .snil), res := .str, own := false, F := fun K x => depotref07_Format K x.1 }
def depotref07_Format.hint : Dp.Hint := { n := 43, regions := [(1, [(.normal, { regs := [(0, (.int .i64)), (12, .bool)] })])] }
noncomputable def depotref07_Format.env : Dp.Env := { ti := ti, gl := gl, fns := [(18, Tryd.f18, depotref07_Format.hint)], specs := [(13, depotref07_Civil.spec), (15, depotref07_Weekday.spec), (39, depotref07_day.spec), (40, depotref02_Pad.spec), (41, depotref07_month.spec), (42, depotref07_clock.spec)], K := 0 }
theorem depotref07_Format.body_eq (K : Nat) (x : depotref07_Format.spec.args.den) : body (depotref07_Format.env.at K) 8 18 depotref07_Format.spec x = depotref07_Format K x.1 := by kernel_rfl
theorem depotref07_Format.contract : Contract Tryd.prog gl 18 depotref07_Format.spec :=
  contract_of (E := depotref07_Format.env) ⟨TIok_of tiOK, FnsOK_of ⟨⟨Tryd.func18, Tryd.call18⟩, trivial⟩, mixed⟩ (SpecsOK_of (E := depotref07_Format.env) ⟨depotref07_Civil.contract, depotref07_Weekday.contract, depotref07_day.contract, depotref02_Pad.contract, depotref07_month.contract, depotref07_clock.contract, trivial⟩) Tryd.call18 rfl rfl fun K x r h => by
    rw [depotref07_Format.body_eq]; exact h

def depotref07_Old.spec : Dp.Spec := { args := (.scons (.int .i64) .snil), res := .str, own := false, F := fun K x => depotref07_Old K x.1 }
def depotref07_Old.hint : Dp.Hint := { n := 43, regions := [(1, [(.normal, { regs := [(0, (.int .i64)), (12, .bool)] })])] }
noncomputable def depotref07_Old.env : Dp.Env := { ti := ti, gl := gl, fns := [(20, Tryd.f20, depotref07_Old.hint)], specs := [(13, depotref07_Civil.spec), (15, depotref07_Weekday.spec), (39, depotref07_day.spec), (40, depotref02_Pad.spec), (41, depotref07_month.spec), (42, depotref07_clock.spec)], K := 0 }
theorem depotref07_Old.body_eq (K : Nat) (x : depotref07_Old.spec.args.den) : body (depotref07_Old.env.at K) 8 20 depotref07_Old.spec x = depotref07_Old K x.1 := by kernel_rfl
theorem depotref07_Old.contract : Contract Tryd.prog gl 20 depotref07_Old.spec :=
  contract_of (E := depotref07_Old.env) ⟨TIok_of tiOK, FnsOK_of ⟨⟨Tryd.func20, Tryd.call20⟩, trivial⟩, mixed⟩ (SpecsOK_of (E := depotref07_Old.env) ⟨depotref07_Civil.contract, depotref07_Weekday.contract, depotref07_day.contract, depotref02_Pad.contract, depotref07_month.contract, depotref07_clock.contract, trivial⟩) Tryd.call20 rfl rfl fun K x r h => by
    rw [depotref07_Old.body_eq]; exact h

def depotref07_Plain.spec : Dp.Spec := { args := (.scons (.int .i64) .snil), res := .str, own := false, F := fun K x => depotref07_Plain K x.1 }
def depotref07_Plain.hint : Dp.Hint := { n := 48, conds := [(25, [(.normal, { regs := [(0, (.int .i64)), (3, (.int .i64)), (4, (.int .i64)), (7, .str)] })])], regions := [(1, [(.normal, { regs := [(0, (.int .i64)), (13, .bool)] })])] }
noncomputable def depotref07_Plain.env : Dp.Env := { ti := ti, gl := gl, fns := [(22, Tryd.f22, depotref07_Plain.hint)], specs := [(13, depotref07_Civil.spec), (15, depotref07_Weekday.spec), (39, depotref07_day.spec), (43, depotref02_Plain.spec), (40, depotref02_Pad.spec), (41, depotref07_month.spec), (42, depotref07_clock.spec)], K := 0 }
theorem depotref07_Plain.body_eq (K : Nat) (x : depotref07_Plain.spec.args.den) : body (depotref07_Plain.env.at K) 8 22 depotref07_Plain.spec x = depotref07_Plain K x.1 := by kernel_rfl
theorem depotref07_Plain.contract : Contract Tryd.prog gl 22 depotref07_Plain.spec :=
  contract_of (E := depotref07_Plain.env) ⟨TIok_of tiOK, FnsOK_of ⟨⟨Tryd.func22, Tryd.call22⟩, trivial⟩, mixed⟩ (SpecsOK_of (E := depotref07_Plain.env) ⟨depotref07_Civil.contract, depotref07_Weekday.contract, depotref07_day.contract, depotref02_Plain.contract, depotref02_Pad.contract, depotref07_month.contract, depotref07_clock.contract, trivial⟩) Tryd.call22 rfl rfl fun K x r h => by
    rw [depotref07_Plain.body_eq]; exact h

def depotref01_Hex.spec : Dp.Spec := { args := (.scons (.int .u8) .snil), res := (.tup (.scons (.int .i64) (.scons .bool .snil))), own := false, F := fun K x => depotref01_Hex K x.1 }
def depotref01_Hex.hint : Dp.Hint := { n := 24, regions := [(5, [(.normal, { regs := [(0, (.int .u8)), (4, .str), (5, .str), (6, (.int .i64)), (22, .bool)] })])], loops := [(3, { regs := [(0, (.int .u8)), (4, .str), (5, .str), (6, (.int .i64))] }, [(.exit 0, { regs := [] }), (.ret, { regs := [(2, (.int .i64)), (3, .bool)] })])] }
noncomputable def depotref01_Hex.env : Dp.Env := { ti := ti, gl := gl, fns := [(118, Tryd.f118, depotref01_Hex.hint)], specs := [], K := 0 }
noncomputable def depotref01_Hex.r0 (K : Nat) : Nat → (((Int) × ((List UInt8) × ((List UInt8) × ((Int) × (Unit))))) × (Unit)) → Option (((Unit) × (Unit)) ⊕ (((Int) × ((Bool) × (Unit))) × (Unit))) :=
  loopV [(.exit 0, { regs := [] }), (.ret, { regs := [(2, (.int .i64)), (3, .bool)] })] { regs := [(0, (.int .u8)), (4, .str), (5, .str), (6, (.int .i64))] } (interp (depotref01_Hex.env.at K) depotref01_Hex.hint (callF (depotref01_Hex.env.at K) 7) (Code.sub [1, 1, 0, 1, 0, 0] (Tryd.f118.body.getD .skip)) _)
theorem depotref01_Hex.s0 (K n : Nat) (x : (((Int) × ((List UInt8) × ((List UInt8) × ((Int) × (Unit))))) × (Unit))) : depotref01_Hex.r0 K (n + 1) x = depotref01_Hex.t0 K (depotref01_Hex.r0 K n) x := by kernel_rfl
theorem depotref01_Hex.e0 (K n : Nat) : depotref01_Hex.r0 K n = depotref01_Hex.l0 K n := by
  induction n with
  | zero => funext x; rfl
  | succ n ih => funext x; rw [depotref01_Hex.s0, ih]; rfl
theorem depotref01_Hex.body_eq (K : Nat) (x : depotref01_Hex.spec.args.den) : body (depotref01_Hex.env.at K) 8 118 depotref01_Hex.spec x = depotref01_Hex.tr (depotref01_Hex.r0 K) K x.1 := by kernel_rfl
theorem depotref01_Hex.contract : Contract Tryd.prog gl 118 depotref01_Hex.spec :=
  contract_of (E := depotref01_Hex.env) ⟨TIok_of tiOK, FnsOK_of ⟨⟨Tryd.func118, Tryd.call118⟩, trivial⟩, mixed⟩ (SpecsOK_of (E := depotref01_Hex.env) trivial) Tryd.call118 rfl rfl fun K x r h => by
    rw [depotref01_Hex.body_eq, show depotref01_Hex.r0 K = depotref01_Hex.l0 K from funext (depotref01_Hex.e0 K)]; exact h

def depotref02_read.spec : Dp.Spec := { args := (.scons .str (.scons (.int .i64) (.scons (.int .i64) (.scons (.int .i64) .snil)))), res := (.tup (.scons (.int .i64) (.scons (.int .i64) .snil))), own := false, F := fun K x => depotref02_read K x.1 x.2.1 x.2.2.1 x.2.2.2.1 }
def depotref02_read.hint : Dp.Hint := { n := 52, regions := [(1, [(.normal, { regs := [(0, .str), (1, (.int .i64)), (3, (.int .i64)), (22, .bool)] })]), (8, [(.normal, { regs := [(0, .str), (1, (.int .i64)), (3, (.int .i64)), (10, (.int .i64)), (11, (.int .i64)), (12, (.int .i64)), (42, .bool)] })])], loops := [(5, { regs := [(0, .str), (1, (.int .i64)), (3, (.int .i64)), (10, (.int .i64)), (11, (.int .i64))] }, [(.exit 0, { regs := [(3, (.int .i64)), (10, (.int .i64))] }), (.ret, { regs := [(8, (.int .i64)), (9, (.int .i64))] })])] }
noncomputable def depotref02_read.env : Dp.Env := { ti := ti, gl := gl, fns := [(86, Tryd.f86, depotref02_read.hint)], specs := [(118, depotref01_Hex.spec)], K := 0 }
noncomputable def depotref02_read.r0 (K : Nat) : Nat → (((List UInt8) × ((Int) × ((Int) × ((Int) × ((Int) × (Unit)))))) × (Unit)) → Option ((((Int) × ((Int) × (Unit))) × (Unit)) ⊕ (((Int) × ((Int) × (Unit))) × (Unit))) :=
  loopV [(.exit 0, { regs := [(3, (.int .i64)), (10, (.int .i64))] }), (.ret, { regs := [(8, (.int .i64)), (9, (.int .i64))] })] { regs := [(0, .str), (1, (.int .i64)), (3, (.int .i64)), (10, (.int .i64)), (11, (.int .i64))] } (interp (depotref02_read.env.at K) depotref02_read.hint (callF (depotref02_read.env.at K) 7) (Code.sub [1, 1, 1, 0, 1, 0, 0] (Tryd.f86.body.getD .skip)) _)
theorem depotref02_read.s0 (K n : Nat) (x : (((List UInt8) × ((Int) × ((Int) × ((Int) × ((Int) × (Unit)))))) × (Unit))) : depotref02_read.r0 K (n + 1) x = depotref02_read.t0 K (depotref02_read.r0 K n) x := by kernel_rfl
theorem depotref02_read.e0 (K n : Nat) : depotref02_read.r0 K n = depotref02_read.l0 K n := by
  induction n with
  | zero => funext x; rfl
  | succ n ih => funext x; rw [depotref02_read.s0, ih]; rfl
theorem depotref02_read.body_eq (K : Nat) (x : depotref02_read.spec.args.den) : body (depotref02_read.env.at K) 8 86 depotref02_read.spec x = depotref02_read.tr (depotref02_read.r0 K) K x.1 x.2.1 x.2.2.1 x.2.2.2.1 := by kernel_rfl
theorem depotref02_read.contract : Contract Tryd.prog gl 86 depotref02_read.spec :=
  contract_of (E := depotref02_read.env) ⟨TIok_of tiOK, FnsOK_of ⟨⟨Tryd.func86, Tryd.call86⟩, trivial⟩, mixed⟩ (SpecsOK_of (E := depotref02_read.env) ⟨depotref01_Hex.contract, trivial⟩) Tryd.call86 rfl rfl fun K x r h => by
    rw [depotref02_read.body_eq, show depotref02_read.r0 K = depotref02_read.l0 K from funext (depotref02_read.e0 K)]; exact h

def depotref02_Number.spec : Dp.Spec := { args := (.scons .str (.scons (.int .i64) .snil)), res := (.tup (.scons (.int .i64) (.scons (.int .i64) .snil))), own := false, F := fun K x => depotref02_Number K x.1 x.2.1 }
def depotref02_Number.hint : Dp.Hint := { n := 11 }
noncomputable def depotref02_Number.env : Dp.Env := { ti := ti, gl := gl, fns := [(70, Tryd.f70, depotref02_Number.hint)], specs := [(86, depotref02_read.spec)], K := 0 }
theorem depotref02_Number.body_eq (K : Nat) (x : depotref02_Number.spec.args.den) : body (depotref02_Number.env.at K) 8 70 depotref02_Number.spec x = depotref02_Number K x.1 x.2.1 := by kernel_rfl
theorem depotref02_Number.contract : Contract Tryd.prog gl 70 depotref02_Number.spec :=
  contract_of (E := depotref02_Number.env) ⟨TIok_of tiOK, FnsOK_of ⟨⟨Tryd.func70, Tryd.call70⟩, trivial⟩, mixed⟩ (SpecsOK_of (E := depotref02_Number.env) ⟨depotref02_read.contract, trivial⟩) Tryd.call70 rfl rfl fun K x r h => by
    rw [depotref02_Number.body_eq]; exact h

def depotref07_digits.spec : Dp.Spec := { args := (.scons .str (.scons (.int .i64) (.scons (.int .i64) .snil))), res := (.int .i64), own := false, F := fun K x => depotref07_digits K x.1 x.2.1 x.2.2.1 }
def depotref07_digits.hint : Dp.Hint := { n := 32, regions := [(1, [(.normal, { regs := [(0, .str), (1, (.int .i64)), (2, (.int .i64)), (18, .bool)] })])] }
noncomputable def depotref07_digits.env : Dp.Env := { ti := ti, gl := gl, fns := [(47, Tryd.f47, depotref07_digits.hint)], specs := [(70, depotref02_Number.spec)], K := 0 }
theorem depotref07_digits.body_eq (K : Nat) (x : depotref07_digits.spec.args.den) : body (depotref07_digits.env.at K) 8 47 depotref07_digits.spec x = depotref07_digits K x.1 x.2.1 x.2.2.1 := by kernel_rfl
theorem depotref07_digits.contract : Contract Tryd.prog gl 47 depotref07_digits.spec :=
  contract_of (E := depotref07_digits.env) ⟨TIok_of tiOK, FnsOK_of ⟨⟨Tryd.func47, Tryd.call47⟩, trivial⟩, mixed⟩ (SpecsOK_of (E := depotref07_digits.env) ⟨depotref02_Number.contract, trivial⟩) Tryd.call47 rfl rfl fun K x r h => by
    rw [depotref07_digits.body_eq]; exact h

def depotref07_time.spec : Dp.Spec := { args := (.scons .str (.scons (.int .i64) (.scons (.int .i64) (.scons (.int .i64) (.scons (.int .i64) .snil))))), res := (.int .i64), own := false, F := fun K x => depotref07_time K x.1 x.2.1 x.2.2.1 x.2.2.2.1 x.2.2.2.2.1 }
def depotref07_time.hint : Dp.Hint := { n := 92, regions := [(1, [(.normal, { regs := [(0, .str), (1, (.int .i64)), (2, (.int .i64)), (3, (.int .i64)), (4, (.int .i64)), (25, .bool)] })]), (9, [(.normal, { regs := [(12, (.int .i64)), (14, (.int .i64)), (15, (.int .i64)), (16, (.int .i64)), (81, .bool)] })])], loops := [(4, { regs := [(0, .str), (1, (.int .i64)), (2, (.int .i64)), (3, (.int .i64)), (4, (.int .i64)), (11, (.int .i64))] }, [(.exit 0, { regs := [] }), (.ret, { regs := [(10, (.int .i64))] })])] }
noncomputable def depotref07_time.env : Dp.Env := { ti := ti, gl := gl, fns := [(46, Tryd.f46, depotref07_time.hint)], specs := [(11, depotref07_Days.spec), (41, depotref07_month.spec), (47, depotref07_digits.spec)], K := 0 }
noncomputable def depotref07_time.r0 (K : Nat) : Nat → (((List UInt8) × ((Int) × ((Int) × ((Int) × ((Int) × ((Int) × (Unit))))))) × (Unit)) → Option (((Unit) × (Unit)) ⊕ (((Int) × (Unit)) × (Unit))) :=
  loopV [(.exit 0, { regs := [] }), (.ret, { regs := [(10, (.int .i64))] })] { regs := [(0, .str), (1, (.int .i64)), (2, (.int .i64)), (3, (.int .i64)), (4, (.int .i64)), (11, (.int .i64))] } (interp (depotref07_time.env.at K) depotref07_time.hint (callF (depotref07_time.env.at K) 7) (Code.sub [1, 1, 0, 1, 0, 0] (Tryd.f46.body.getD .skip)) _)
theorem depotref07_time.s0 (K n : Nat) (x : (((List UInt8) × ((Int) × ((Int) × ((Int) × ((Int) × ((Int) × (Unit))))))) × (Unit))) : depotref07_time.r0 K (n + 1) x = depotref07_time.t0 K (depotref07_time.r0 K n) x := by kernel_rfl
theorem depotref07_time.e0 (K n : Nat) : depotref07_time.r0 K n = depotref07_time.l0 K n := by
  induction n with
  | zero => funext x; rfl
  | succ n ih => funext x; rw [depotref07_time.s0, ih]; rfl
theorem depotref07_time.body_eq (K : Nat) (x : depotref07_time.spec.args.den) : body (depotref07_time.env.at K) 8 46 depotref07_time.spec x = depotref07_time.tr (depotref07_time.r0 K) K x.1 x.2.1 x.2.2.1 x.2.2.2.1 x.2.2.2.2.1 := by kernel_rfl
theorem depotref07_time.contract : Contract Tryd.prog gl 46 depotref07_time.spec :=
  contract_of (E := depotref07_time.env) ⟨TIok_of tiOK, FnsOK_of ⟨⟨Tryd.func46, Tryd.call46⟩, trivial⟩, mixed⟩ (SpecsOK_of (E := depotref07_time.env) ⟨depotref07_Days.contract, depotref07_month.contract, depotref07_digits.contract, trivial⟩) Tryd.call46 rfl rfl fun K x r h => by
    rw [depotref07_time.body_eq, show depotref07_time.r0 K = depotref07_time.l0 K from funext (depotref07_time.e0 K)]; exact h

def depotref07_Parse.spec : Dp.Spec := { args := (.scons .str .snil), res := (.tup (.scons (.int .i64) (.scons (.int .i64) .snil))), own := false, F := fun K x => depotref07_Parse K x.1 }
def depotref07_Parse.hint : Dp.Hint := { n := 87, conds := [(42, [(.normal, { regs := [(0, .str), (5, (.int .i64)), (6, (.int .i64))] })]), (70, [(.normal, { regs := [(0, .str), (8, (.int .i64))] })])], regions := [(2, [(.normal, { regs := [(0, .str), (4, (.int .i64)), (23, .bool)] })]), (5, [(.normal, { regs := [(0, .str), (5, (.int .i64)), (34, .bool)] })]), (12, [(.normal, { regs := [(0, .str), (7, (.int .i64)), (65, .bool)] })]), (18, [(.normal, { regs := [(9, (.int .i64)), (85, .bool)] })])], loops := [(5, { regs := [(0, .str), (5, (.int .i64))] }, [(.exit 0, { regs := [(0, .str), (5, (.int .i64))] })])] }
noncomputable def depotref07_Parse.env : Dp.Env := { ti := ti, gl := gl, fns := [(24, Tryd.f24, depotref07_Parse.hint)], specs := [(18, depotref07_Format.spec), (20, depotref07_Old.spec), (22, depotref07_Plain.spec), (47, depotref07_digits.spec), (46, depotref07_time.spec)], K := 0 }
noncomputable def depotref07_Parse.r0 (K : Nat) : Nat → (((List UInt8) × ((Int) × (Unit))) × (Unit)) → Option ((((List UInt8) × ((Int) × (Unit))) × (Unit))) :=
  loopV [(.exit 0, { regs := [(0, .str), (5, (.int .i64))] })] { regs := [(0, .str), (5, (.int .i64))] } (interp (depotref07_Parse.env.at K) depotref07_Parse.hint (callF (depotref07_Parse.env.at K) 7) (Code.sub [1, 1, 1, 0, 0, 0] (Tryd.f24.body.getD .skip)) _)
theorem depotref07_Parse.s0 (K n : Nat) (x : (((List UInt8) × ((Int) × (Unit))) × (Unit))) : depotref07_Parse.r0 K (n + 1) x = depotref07_Parse.t0 K (depotref07_Parse.r0 K n) x := by kernel_rfl
theorem depotref07_Parse.e0 (K n : Nat) : depotref07_Parse.r0 K n = depotref07_Parse.l0 K n := by
  induction n with
  | zero => funext x; rfl
  | succ n ih => funext x; rw [depotref07_Parse.s0, ih]; rfl
theorem depotref07_Parse.body_eq (K : Nat) (x : depotref07_Parse.spec.args.den) : body (depotref07_Parse.env.at K) 8 24 depotref07_Parse.spec x = depotref07_Parse.tr (depotref07_Parse.r0 K) K x.1 := by kernel_rfl
theorem depotref07_Parse.contract : Contract Tryd.prog gl 24 depotref07_Parse.spec :=
  contract_of (E := depotref07_Parse.env) ⟨TIok_of tiOK, FnsOK_of ⟨⟨Tryd.func24, Tryd.call24⟩, trivial⟩, mixed⟩ (SpecsOK_of (E := depotref07_Parse.env) ⟨depotref07_Format.contract, depotref07_Old.contract, depotref07_Plain.contract, depotref07_digits.contract, depotref07_time.contract, trivial⟩) Tryd.call24 rfl rfl fun K x r h => by
    rw [depotref07_Parse.body_eq, show depotref07_Parse.r0 K = depotref07_Parse.l0 K from funext (depotref07_Parse.e0 K)]; exact h

def depotlaw07_DateDays.spec : Dp.Spec := { args := (.scons (.int .i64) (.scons (.int .i64) (.scons (.int .i64) (.scons (.int .i64) .snil)))), res := .bool, own := false, F := fun K x => depotlaw07_DateDays K x.1 x.2.1 x.2.2.1 x.2.2.2.1 }
def depotlaw07_DateDays.hint : Dp.Hint := { n := 87 }
noncomputable def depotlaw07_DateDays.env : Dp.Env := { ti := ti, gl := gl, fns := [(3, Tryd.f3, depotlaw07_DateDays.hint)], specs := [(12, date_Civil.spec), (10, date_Days.spec), (11, depotref07_Days.spec), (13, depotref07_Civil.spec), (14, date_Weekday.spec), (15, depotref07_Weekday.spec), (16, depotlaw07_dates.spec)], K := 0 }
theorem depotlaw07_DateDays.body_eq (K : Nat) (x : depotlaw07_DateDays.spec.args.den) : body (depotlaw07_DateDays.env.at K) 8 3 depotlaw07_DateDays.spec x = depotlaw07_DateDays K x.1 x.2.1 x.2.2.1 x.2.2.2.1 := by kernel_rfl
theorem depotlaw07_DateDays.contract : Contract Tryd.prog gl 3 depotlaw07_DateDays.spec :=
  contract_of (E := depotlaw07_DateDays.env) ⟨TIok_of tiOK, FnsOK_of ⟨⟨Tryd.func3, Tryd.call3⟩, trivial⟩, mixed⟩ (SpecsOK_of (E := depotlaw07_DateDays.env) ⟨date_Civil.contract, date_Days.contract, depotref07_Days.contract, depotref07_Civil.contract, date_Weekday.contract, depotref07_Weekday.contract, depotlaw07_dates.contract, trivial⟩) Tryd.call3 rfl rfl fun K x r h => by
    rw [depotlaw07_DateDays.body_eq]; exact h

def depotlaw07_DateWrites.spec : Dp.Spec := { args := (.scons (.int .i64) .snil), res := .bool, own := false, F := fun K x => depotlaw07_DateWrites K x.1 }
def depotlaw07_DateWrites.hint : Dp.Hint := { n := 25 }
noncomputable def depotlaw07_DateWrites.env : Dp.Env := { ti := ti, gl := gl, fns := [(4, Tryd.f4, depotlaw07_DateWrites.hint)], specs := [(17, date_Format.spec), (19, date_Old.spec), (21, date_Plain.spec), (16, depotlaw07_dates.spec), (18, depotref07_Format.spec), (20, depotref07_Old.spec), (22, depotref07_Plain.spec)], K := 0 }
theorem depotlaw07_DateWrites.body_eq (K : Nat) (x : depotlaw07_DateWrites.spec.args.den) : body (depotlaw07_DateWrites.env.at K) 8 4 depotlaw07_DateWrites.spec x = depotlaw07_DateWrites K x.1 := by kernel_rfl
theorem depotlaw07_DateWrites.contract : Contract Tryd.prog gl 4 depotlaw07_DateWrites.spec :=
  contract_of (E := depotlaw07_DateWrites.env) ⟨TIok_of tiOK, FnsOK_of ⟨⟨Tryd.func4, Tryd.call4⟩, trivial⟩, mixed⟩ (SpecsOK_of (E := depotlaw07_DateWrites.env) ⟨date_Format.contract, date_Old.contract, date_Plain.contract, depotlaw07_dates.contract, depotref07_Format.contract, depotref07_Old.contract, depotref07_Plain.contract, trivial⟩) Tryd.call4 rfl rfl fun K x r h => by
    rw [depotlaw07_DateWrites.body_eq]; exact h

def depotlaw07_DateReads.spec : Dp.Spec := { args := (.scons .str .snil), res := .bool, own := false, F := fun K x => depotlaw07_DateReads K x.1 }
def depotlaw07_DateReads.hint : Dp.Hint := { n := 32 }
noncomputable def depotlaw07_DateReads.env : Dp.Env := { ti := ti, gl := gl, fns := [(5, Tryd.f5, depotlaw07_DateReads.hint)], specs := [(23, date_Parse.spec), (16, depotlaw07_dates.spec), (24, depotref07_Parse.spec)], K := 0 }
theorem depotlaw07_DateReads.body_eq (K : Nat) (x : depotlaw07_DateReads.spec.args.den) : body (depotlaw07_DateReads.env.at K) 8 5 depotlaw07_DateReads.spec x = depotlaw07_DateReads K x.1 := by kernel_rfl
theorem depotlaw07_DateReads.contract : Contract Tryd.prog gl 5 depotlaw07_DateReads.spec :=
  contract_of (E := depotlaw07_DateReads.env) ⟨TIok_of tiOK, FnsOK_of ⟨⟨Tryd.func5, Tryd.call5⟩, trivial⟩, mixed⟩ (SpecsOK_of (E := depotlaw07_DateReads.env) ⟨date_Parse.contract, depotlaw07_dates.contract, depotref07_Parse.contract, trivial⟩) Tryd.call5 rfl rfl fun K x r h => by
    rw [depotlaw07_DateReads.body_eq]; exact h

def depotlaw07_DateBack.spec : Dp.Spec := { args := (.scons (.int .i64) (.scons (.int .i64) (.scons .str .snil))), res := .bool, own := false, F := fun K x => depotlaw07_DateBack K x.1 x.2.1 x.2.2.1 }
def depotlaw07_DateBack.hint : Dp.Hint := { n := 126, regions := [(4, [(.normal, { regs := [(0, (.int .i64)), (1, (.int .i64)), (43, .bool)] })]), (6, [(.normal, { regs := [(0, (.int .i64)), (1, (.int .i64)), (49, .bool)] })]), (7, [(.normal, { regs := [(6, .bool)] })]), (10, [(.normal, { regs := [(0, (.int .i64)), (104, .bool)] })])] }
noncomputable def depotlaw07_DateBack.env : Dp.Env := { ti := ti, gl := gl, fns := [(6, Tryd.f6, depotlaw07_DateBack.hint)], specs := [(17, date_Format.spec), (19, date_Old.spec), (21, date_Plain.spec), (23, date_Parse.spec), (16, depotlaw07_dates.spec)], K := 0 }
theorem depotlaw07_DateBack.body_eq (K : Nat) (x : depotlaw07_DateBack.spec.args.den) : body (depotlaw07_DateBack.env.at K) 8 6 depotlaw07_DateBack.spec x = depotlaw07_DateBack K x.1 x.2.1 x.2.2.1 := by kernel_rfl
theorem depotlaw07_DateBack.contract : Contract Tryd.prog gl 6 depotlaw07_DateBack.spec :=
  contract_of (E := depotlaw07_DateBack.env) ⟨TIok_of tiOK, FnsOK_of ⟨⟨Tryd.func6, Tryd.call6⟩, trivial⟩, mixed⟩ (SpecsOK_of (E := depotlaw07_DateBack.env) ⟨date_Format.contract, date_Old.contract, date_Plain.contract, date_Parse.contract, depotlaw07_dates.contract, trivial⟩) Tryd.call6 rfl rfl fun K x r h => by
    rw [depotlaw07_DateBack.body_eq]; exact h

def depotlaw07_DateNext.spec : Dp.Spec := { args := (.scons (.int .i64) .snil), res := .bool, own := false, F := fun K x => depotlaw07_DateNext K x.1 }
def depotlaw07_DateNext.hint : Dp.Hint := { n := 131, regions := [(1, [(.normal, { regs := [(0, (.int .i64)), (21, .bool)] })]), (6, [(.normal, { regs := [(3, (.int .i64)), (4, (.int .i64)), (5, (.int .i64)), (9, (.int .i64)), (10, (.int .i64)), (11, (.int .i64)), (69, .bool)] })]), (8, [(.normal, { regs := [(3, (.int .i64)), (4, (.int .i64)), (5, (.int .i64)), (9, (.int .i64)), (10, (.int .i64)), (11, (.int .i64)), (13, .bool)] })]), (9, [(.normal, { regs := [(3, (.int .i64)), (4, (.int .i64)), (5, (.int .i64)), (9, (.int .i64)), (10, (.int .i64)), (11, (.int .i64)), (13, .bool), (14, .bool)] })]), (10, [(.normal, { regs := [(13, .bool), (14, .bool), (15, .bool)] })])] }
noncomputable def depotlaw07_DateNext.env : Dp.Env := { ti := ti, gl := gl, fns := [(7, Tryd.f7, depotlaw07_DateNext.hint)], specs := [(12, date_Civil.spec), (10, date_Days.spec), (14, date_Weekday.spec), (16, depotlaw07_dates.spec)], K := 0 }
theorem depotlaw07_DateNext.body_eq (K : Nat) (x : depotlaw07_DateNext.spec.args.den) : body (depotlaw07_DateNext.env.at K) 8 7 depotlaw07_DateNext.spec x = depotlaw07_DateNext K x.1 := by kernel_rfl
theorem depotlaw07_DateNext.contract : Contract Tryd.prog gl 7 depotlaw07_DateNext.spec :=
  contract_of (E := depotlaw07_DateNext.env) ⟨TIok_of tiOK, FnsOK_of ⟨⟨Tryd.func7, Tryd.call7⟩, trivial⟩, mixed⟩ (SpecsOK_of (E := depotlaw07_DateNext.env) ⟨date_Civil.contract, date_Days.contract, date_Weekday.contract, depotlaw07_dates.contract, trivial⟩) Tryd.call7 rfl rfl fun K x r h => by
    rw [depotlaw07_DateNext.body_eq]; exact h

end Go.Proofs.X