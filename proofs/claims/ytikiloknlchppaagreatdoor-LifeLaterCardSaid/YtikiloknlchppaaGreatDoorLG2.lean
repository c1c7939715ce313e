/- That the machine comes to the plain functions. No condition. -/
import Derived.Test.YtikiloknlchppaaGreatDoorLG1
import Derived.Test.YtikiloknlchppaaGreatDoorLS2
import Derived.Test.YtikiloknlchppaaGreatDoorChecked
import Derived.KernelRfl
import Derived.Eval
set_option linter.unusedVariables false
set_option maxRecDepth 20000
namespace Go.Proofs.X
open Go Go.Dp

def ti : List (Nat × TI) := [(1, ⟨.fn, 1, 8, .nilf⟩),
  (2, ⟨.int .i64, 1, 8, (.int .i64)⟩),
  (3, ⟨.int .i64, 1, 8, (.int .i64)⟩),
  (4, ⟨.bool, 1, 1, .bool⟩),
  (5, ⟨.int .u8, 1, 1, (.int .u8)⟩),
  (6, ⟨.int .u8, 1, 1, (.int .u8)⟩),
  (9, ⟨.str, 1, 16, .str⟩),
  (10, ⟨.str, 1, 16, .str⟩),
  (11, ⟨.str, 1, 16, .str⟩),
  (12, ⟨.int .u64, 1, 8, (.int .u64)⟩),
  (15, ⟨.ptr 226, 1, 8, .nilp⟩),
  (16, ⟨.ptr 229, 1, 8, .nilp⟩),
  (17, ⟨.ptr 236, 1, 8, .nilp⟩),
  (18, ⟨.struct [(17, 0)], 1, 8, (.scons .nilp .snil)⟩),
  (19, ⟨.struct [(17, 0)], 1, 8, (.scons .nilp .snil)⟩),
  (20, ⟨.iface false, 1, 16, .nili⟩),
  (21, ⟨.int .i32, 1, 4, (.int .i32)⟩),
  (22, ⟨.slice 58, 1, 24, (.list (.scons .str (.scons .str .snil)))⟩),
  (23, ⟨.fn, 1, 8, .nilf⟩),
  (24, ⟨.fn, 1, 8, .nilf⟩),
  (25, ⟨.struct [(4, 0), (4, 1), (4, 2), (4, 3), (4, 4), (4, 5), (3, 6), (3, 7), (3, 8)], 9, 32, (.scons .bool (.scons .bool (.scons .bool (.scons .bool (.scons .bool (.scons .bool (.scons (.int .i64) (.scons (.int .i64) (.scons (.int .i64) .snil)))))))))⟩),
  (26, ⟨.struct [(4, 0), (4, 1), (4, 2), (4, 3), (4, 4), (4, 5), (3, 6), (3, 7), (3, 8)], 9, 32, (.scons .bool (.scons .bool (.scons .bool (.scons .bool (.scons .bool (.scons .bool (.scons (.int .i64) (.scons (.int .i64) (.scons (.int .i64) .snil)))))))))⟩),
  (27, ⟨.fn, 1, 8, .nilf⟩),
  (28, ⟨.fn, 1, 8, .nilf⟩),
  (29, ⟨.fn, 1, 8, .nilf⟩),
  (30, ⟨.fn, 1, 8, .nilf⟩),
  (31, ⟨.fn, 1, 8, .nilf⟩),
  (32, ⟨.slice 9, 1, 24, (.list .str)⟩),
  (34, ⟨.fn, 1, 8, .nilf⟩),
  (35, ⟨.fn, 1, 8, .nilf⟩),
  (36, ⟨.slice 80, 1, 24, (.list (.scons .str (.scons .bool (.scons .str .snil))))⟩),
  (37, ⟨.fn, 1, 8, .nilf⟩),
  (38, ⟨.fn, 1, 8, .nilf⟩),
  (39, ⟨.fn, 1, 8, .nilf⟩),
  (40, ⟨.fn, 1, 8, .nilf⟩),
  (41, ⟨.fn, 1, 8, .nilf⟩),
  (42, ⟨.fn, 1, 8, .nilf⟩),
  (43, ⟨.struct [(3, 0), (9, 1), (3, 2), (22, 3), (9, 4)], 5, 72, (.scons (.int .i64) (.scons .str (.scons (.int .i64) (.scons (.list (.scons .str (.scons .str .snil))) (.scons .str .snil)))))⟩),
  (44, ⟨.struct [(3, 0), (9, 1), (3, 2), (22, 3), (9, 4)], 5, 72, (.scons (.int .i64) (.scons .str (.scons (.int .i64) (.scons (.list (.scons .str (.scons .str .snil))) (.scons .str .snil)))))⟩),
  (45, ⟨.struct [(44, 0), (3, 5), (36, 6)], 7, 104, (.scons (.scons (.int .i64) (.scons .str (.scons (.int .i64) (.scons (.list (.scons .str (.scons .str .snil))) (.scons .str .snil))))) (.scons (.int .i64) (.scons (.list (.scons .str (.scons .bool (.scons .str .snil)))) .snil)))⟩),
  (46, ⟨.struct [(44, 0), (3, 5), (36, 6)], 7, 104, (.scons (.scons (.int .i64) (.scons .str (.scons (.int .i64) (.scons (.list (.scons .str (.scons .str .snil))) (.scons .str .snil))))) (.scons (.int .i64) (.scons (.list (.scons .str (.scons .bool (.scons .str .snil)))) .snil)))⟩),
  (47, ⟨.fn, 1, 8, .nilf⟩),
  (48, ⟨.fn, 1, 8, .nilf⟩),
  (49, ⟨.fn, 1, 8, .nilf⟩),
  (50, ⟨.fn, 1, 8, .nilf⟩),
  (52, ⟨.fn, 1, 8, .nilf⟩),
  (53, ⟨.fn, 1, 8, .nilf⟩),
  (54, ⟨.fn, 1, 8, .nilf⟩),
  (55, ⟨.fn, 1, 8, .nilf⟩),
  (56, ⟨.fn, 1, 8, .nilf⟩),
  (57, ⟨.struct [(9, 0), (9, 1)], 2, 32, (.scons .str (.scons .str .snil))⟩),
  (58, ⟨.struct [(9, 0), (9, 1)], 2, 32, (.scons .str (.scons .str .snil))⟩),
  (59, ⟨.fn, 1, 8, .nilf⟩),
  (60, ⟨.ptr 62, 1, 8, .nilp⟩),
  (61, ⟨.struct [(26, 0)], 9, 32, (.scons (.scons .bool (.scons .bool (.scons .bool (.scons .bool (.scons .bool (.scons .bool (.scons (.int .i64) (.scons (.int .i64) (.scons (.int .i64) .snil))))))))) .snil)⟩),
  (62, ⟨.struct [(26, 0)], 9, 32, (.scons (.scons .bool (.scons .bool (.scons .bool (.scons .bool (.scons .bool (.scons .bool (.scons (.int .i64) (.scons (.int .i64) (.scons (.int .i64) .snil))))))))) .snil)⟩),
  (63, ⟨.fn, 1, 8, .nilf⟩),
  (64, ⟨.fn, 1, 8, .nilf⟩),
  (65, ⟨.fn, 1, 8, .nilf⟩),
  (67, ⟨.fn, 1, 8, .nilf⟩),
  (68, ⟨.fn, 1, 8, .nilf⟩),
  (69, ⟨.fn, 1, 8, .nilf⟩),
  (71, ⟨.fn, 1, 8, .nilf⟩),
  (72, ⟨.fn, 1, 8, .nilf⟩),
  (73, ⟨.fn, 1, 8, .nilf⟩),
  (74, ⟨.fn, 1, 8, .nilf⟩),
  (75, ⟨.fn, 1, 8, .nilf⟩),
  (76, ⟨.fn, 1, 8, .nilf⟩),
  (77, ⟨.slice 4, 1, 24, (.list .bool)⟩),
  (78, ⟨.slice 3, 1, 24, (.list (.int .i64))⟩),
  (79, ⟨.struct [(9, 0), (4, 1), (9, 2)], 3, 40, (.scons .str (.scons .bool (.scons .str .snil)))⟩),
  (80, ⟨.struct [(9, 0), (4, 1), (9, 2)], 3, 40, (.scons .str (.scons .bool (.scons .str .snil)))⟩),
  (81, ⟨.map 9 3, 1, 8, .unk⟩),
  (82, ⟨.int .i64, 1, 8, (.int .i64)⟩),
  (84, ⟨.fn, 1, 8, .nilf⟩),
  (85, ⟨.fn, 1, 8, .nilf⟩),
  (86, ⟨.fn, 1, 8, .nilf⟩),
  (87, ⟨.fn, 1, 8, .nilf⟩),
  (89, ⟨.fn, 1, 8, .nilf⟩),
  (90, ⟨.fn, 1, 8, .nilf⟩),
  (91, ⟨.fn, 1, 8, .nilf⟩),
  (92, ⟨.fn, 1, 8, .nilf⟩),
  (93, ⟨.fn, 1, 8, .nilf⟩),
  (95, ⟨.fn, 1, 8, .nilf⟩),
  (97, ⟨.fn, 1, 8, .nilf⟩),
  (98, ⟨.fn, 1, 8, .nilf⟩),
  (99, ⟨.fn, 1, 8, .nilf⟩),
  (100, ⟨.fn, 1, 8, .nilf⟩),
  (102, ⟨.fn, 1, 8, .nilf⟩),
  (103, ⟨.slice 107, 1, 24, (.list (.scons .str (.scons .nilf .snil)))⟩),
  (104, ⟨.fn, 1, 8, .nilf⟩),
  (105, ⟨.fn, 1, 8, .nilf⟩),
  (106, ⟨.struct [(9, 0), (105, 1)], 2, 24, (.scons .str (.scons .nilf .snil))⟩),
  (107, ⟨.struct [(9, 0), (105, 1)], 2, 24, (.scons .str (.scons .nilf .snil))⟩),
  (109, ⟨.fn, 1, 8, .nilf⟩),
  (110, ⟨.fn, 1, 8, .nilf⟩),
  (111, ⟨.fn, 1, 8, .nilf⟩),
  (112, ⟨.fn, 1, 8, .nilf⟩),
  (113, ⟨.int .u64, 1, 8, (.int .u64)⟩),
  (114, ⟨.fn, 1, 8, .nilf⟩),
  (115, ⟨.fn, 1, 8, .nilf⟩),
  (116, ⟨.fn, 1, 8, .nilf⟩),
  (117, ⟨.fn, 1, 8, .nilf⟩),
  (118, ⟨.fn, 1, 8, .nilf⟩),
  (119, ⟨.slice 5, 1, 24, (.list (.int .u8))⟩),
  (120, ⟨.fn, 1, 8, .nilf⟩),
  (121, ⟨.fn, 1, 8, .nilf⟩),
  (122, ⟨.int .u64, 1, 8, (.int .u64)⟩),
  (123, ⟨.fn, 1, 8, .nilf⟩),
  (124, ⟨.fn, 1, 8, .nilf⟩),
  (125, ⟨.fn, 1, 8, .nilf⟩),
  (126, ⟨.fn, 1, 8, .nilf⟩),
  (127, ⟨.fn, 1, 8, .nilf⟩),
  (128, ⟨.fn, 1, 8, .nilf⟩),
  (129, ⟨.fn, 1, 8, .nilf⟩),
  (131, ⟨.fn, 1, 8, .nilf⟩),
  (133, ⟨.fn, 1, 8, .nilf⟩),
  (134, ⟨.fn, 1, 8, .nilf⟩),
  (136, ⟨.fn, 1, 8, .nilf⟩),
  (137, ⟨.ptr 139, 1, 8, .nilp⟩),
  (138, ⟨.struct [(137, 0), (119, 1)], 2, 32, (.scons .nilp (.scons (.list (.int .u8)) .snil))⟩),
  (139, ⟨.struct [(137, 0), (119, 1)], 2, 32, (.scons .nilp (.scons (.list (.int .u8)) .snil))⟩),
  (140, ⟨.iface true, 1, 16, .nili⟩),
  (141, ⟨.iface true, 1, 16, .nili⟩),
  (143, ⟨.fn, 1, 8, .nilf⟩),
  (144, ⟨.fn, 1, 8, .nilf⟩),
  (145, ⟨.fn, 1, 8, .nilf⟩),
  (146, ⟨.fn, 1, 8, .nilf⟩),
  (147, ⟨.fn, 1, 8, .nilf⟩),
  (148, ⟨.fn, 1, 8, .nilf⟩),
  (149, ⟨.int .i64, 1, 8, (.int .i64)⟩),
  (151, ⟨.fn, 1, 8, .nilf⟩),
  (152, ⟨.fn, 1, 8, .nilf⟩),
  (153, ⟨.fn, 1, 8, .nilf⟩),
  (154, ⟨.fn, 1, 8, .nilf⟩),
  (155, ⟨.int .u32, 1, 4, (.int .u32)⟩),
  (156, ⟨.fn, 1, 8, .nilf⟩),
  (157, ⟨.fn, 1, 8, .nilf⟩),
  (158, ⟨.fn, 1, 8, .nilf⟩),
  (159, ⟨.fn, 1, 8, .nilf⟩),
  (160, ⟨.fn, 1, 8, .nilf⟩),
  (161, ⟨.struct [(3, 0), (3, 1), (3, 2), (3, 3), (9, 4)], 5, 48, (.scons (.int .i64) (.scons (.int .i64) (.scons (.int .i64) (.scons (.int .i64) (.scons .str .snil)))))⟩),
  (162, ⟨.struct [(3, 0), (3, 1), (3, 2), (3, 3), (9, 4)], 5, 48, (.scons (.int .i64) (.scons (.int .i64) (.scons (.int .i64) (.scons (.int .i64) (.scons .str .snil)))))⟩),
  (163, ⟨.fn, 1, 8, .nilf⟩),
  (164, ⟨.arr 7 9, 7, 112, (.arr 7 .str)⟩),
  (165, ⟨.arr 12 9, 12, 192, (.arr 12 .str)⟩),
  (166, ⟨.fn, 1, 8, .nilf⟩),
  (168, ⟨.fn, 1, 8, .nilf⟩),
  (169, ⟨.fn, 1, 8, .nilf⟩),
  (170, ⟨.fn, 1, 8, .nilf⟩),
  (171, ⟨.ptr 5, 1, 8, .nilp⟩),
  (172, ⟨.fn, 1, 8, .nilf⟩),
  (173, ⟨.fn, 1, 8, .nilf⟩),
  (174, ⟨.arr 256 4, 256, 256, (.arr 256 .bool)⟩),
  (175, ⟨.arr 256 4, 256, 256, (.arr 256 .bool)⟩),
  (177, ⟨.fn, 1, 8, .nilf⟩),
  (178, ⟨.fn, 1, 8, .nilf⟩),
  (179, ⟨.ptr 175, 1, 8, .nilp⟩),
  (180, ⟨.slice 117, 1, 24, (.list .nilf)⟩),
  (181, ⟨.int .u64, 1, 8, (.int .u64)⟩),
  (182, ⟨.fn, 1, 8, .nilf⟩),
  (183, ⟨.fn, 1, 8, .nilf⟩),
  (184, ⟨.fn, 1, 8, .nilf⟩),
  (185, ⟨.ptr 3, 1, 8, .nilp⟩),
  (186, ⟨.fn, 1, 8, .nilf⟩),
  (187, ⟨.fn, 1, 8, .nilf⟩),
  (188, ⟨.fn, 1, 8, .nilf⟩),
  (189, ⟨.fn, 1, 8, .nilf⟩),
  (190, ⟨.fn, 1, 8, .nilf⟩),
  (191, ⟨.fn, 1, 8, .nilf⟩),
  (192, ⟨.fn, 1, 8, .nilf⟩),
  (194, ⟨.fn, 1, 8, .nilf⟩),
  (195, ⟨.fn, 1, 8, .nilf⟩),
  (196, ⟨.arr 24 5, 24, 24, (.arr 24 (.int .u8))⟩),
  (197, ⟨.fn, 1, 8, .nilf⟩),
  (199, ⟨.fn, 1, 8, .nilf⟩),
  (201, ⟨.fn, 1, 8, .nilf⟩),
  (202, ⟨.fn, 1, 8, .nilf⟩),
  (203, ⟨.ptr 181, 1, 8, .nilp⟩),
  (204, ⟨.fn, 1, 8, .nilf⟩),
  (205, ⟨.fn, 1, 8, .nilf⟩),
  (207, ⟨.fn, 1, 8, .nilf⟩),
  (208, ⟨.fn, 1, 8, .nilf⟩),
  (209, ⟨.fn, 1, 8, .nilf⟩),
  (210, ⟨.arr 20 113, 20, 160, (.arr 20 (.int .u64))⟩),
  (211, ⟨.arr 65 5, 65, 65, (.arr 65 (.int .u8))⟩),
  (212, ⟨.fn, 1, 8, .nilf⟩),
  (214, ⟨.fn, 1, 8, .nilf⟩),
  (216, ⟨.fn, 1, 8, .nilf⟩),
  (217, ⟨.arr 256 5, 256, 256, (.arr 256 (.int .u8))⟩),
  (218, ⟨.struct [(5, 0), (5, 1)], 2, 2, (.scons (.int .u8) (.scons (.int .u8) .snil))⟩),
  (219, ⟨.struct [(5, 0), (5, 1)], 2, 2, (.scons (.int .u8) (.scons (.int .u8) .snil))⟩),
  (220, ⟨.arr 16 219, 32, 32, (.arr 16 (.scons (.int .u8) (.scons (.int .u8) .snil)))⟩),
  (221, ⟨.fn, 1, 8, .nilf⟩),
  (222, ⟨.fn, 1, 8, .nilf⟩),
  (223, ⟨.arr 32 5, 32, 32, (.arr 32 (.int .u8))⟩),
  (224, ⟨.arr 64 5, 64, 64, (.arr 64 (.int .u8))⟩),
  (227, ⟨.arr 0 16, 0, 0, (.arr 0 .nilp)⟩),
  (230, ⟨.int .u8, 1, 1, (.int .u8)⟩),
  (231, ⟨.int .u8, 1, 1, (.int .u8)⟩),
  (232, ⟨.fn, 1, 8, .nilf⟩),
  (233, ⟨.int .i32, 1, 4, (.int .i32)⟩),
  (234, ⟨.int .i32, 1, 4, (.int .i32)⟩),
  (235, ⟨.struct [(12, 0), (12, 1), (155, 2), (230, 3), (5, 4), (5, 5), (231, 6), (232, 7), (171, 8), (233, 9), (234, 10)], 11, 48, (.scons (.int .u64) (.scons (.int .u64) (.scons (.int .u32) (.scons (.int .u8) (.scons (.int .u8) (.scons (.int .u8) (.scons (.int .u8) (.scons .nilf (.scons .nilp (.scons (.int .i32) (.scons (.int .i32) .snil)))))))))))⟩),
  (236, ⟨.struct [(12, 0), (12, 1), (155, 2), (230, 3), (5, 4), (5, 5), (231, 6), (232, 7), (171, 8), (233, 9), (234, 10)], 11, 48, (.scons (.int .u64) (.scons (.int .u64) (.scons (.int .u32) (.scons (.int .u8) (.scons (.int .u8) (.scons (.int .u8) (.scons (.int .u8) (.scons .nilf (.scons .nilp (.scons (.int .i32) (.scons (.int .i32) .snil)))))))))))⟩)]
def gl : List (Nat × TV) := [(0, ⟨.ref (.arr 7 .str), glob_date_days⟩), (1, ⟨.ref (.arr 12 .str), glob_date_months⟩), (3, ⟨.ref (.arr 20 (.int .u64)), glob_strconv_uint64pow10⟩)]
theorem tiOK : ti.all (fun p => tiOK1 Tryz.prog p.1 p.2) = true := by kernel_rfl
theorem mixed : Tryz.prog.follows .mixedOrders = true := Checked.mixed Tryz.checked

def joinS.spec : Dp.Spec := joinSpec
theorem joinS.contract : Contract Tryz.prog gl 97 joinS.spec := joinS_ok
def itoa.spec : Dp.Spec := itoaSpec
theorem itoa.contract : Contract Tryz.prog gl 101 itoa.spec := itoa_ok (g := 3) (n := 20) (by kernel_rfl) (by kernel_rfl)
def items_Unquote.spec : Dp.Spec := unquoteSpec
theorem items_Unquote.contract : Contract Tryz.prog gl 134 items_Unquote.spec := items_Unquote_ok
def asciiSet.spec : Dp.Spec := asciiSetSpec
theorem asciiSet.contract : Contract Tryz.prog gl 194 asciiSet.spec := asciiSet_ok
def ixb.spec : Dp.Spec := indexByteSpec
theorem ixb.contract : Contract Tryz.prog gl 208 ixb.spec := indexByte_contract Tryz.func208 (by decide +kernel) rfl (by kernel_rfl) (by kernel_rfl)
def repeatS.spec : Dp.Spec := repeatSpec
theorem repeatS.contract : Contract Tryz.prog gl 214 repeatS.spec := repeatS_ok
def depotref09_Few.spec : Dp.Spec := { args := (.scons (.list (.scons .str (.scons .str .snil))) (.scons (.int .i64) (.scons (.int .i64) .snil))), res := .bool, own := false, F := fun K x => depotref09_Few K x.1 x.2.1 x.2.2.1 }
def depotref09_Few.hint : Dp.Hint := { n := 41, regions := [(2, [(.normal, { regs := [(0, (.list (.scons .str (.scons .str .snil)))), (1, (.int .i64)), (2, (.int .i64)), (7, (.int .i64)), (16, .bool)] })]), (4, [(.normal, { regs := [(0, (.list (.scons .str (.scons .str .snil)))), (1, (.int .i64)), (2, (.int .i64)), (7, (.int .i64)), (36, .bool)] })])], loops := [(2, { regs := [(0, (.list (.scons .str (.scons .str .snil)))), (1, (.int .i64)), (2, (.int .i64)), (7, (.int .i64))] }, [(.exit 0, { regs := [(0, (.list (.scons .str (.scons .str .snil)))), (1, (.int .i64))] }), (.ret, { regs := [(6, .bool)] })])] }
noncomputable def depotref09_Few.env : Dp.Env := { ti := ti, gl := gl, fns := [(11, Tryz.f11, depotref09_Few.hint)], specs := [], K := 0 }
noncomputable def depotref09_Few.r0 (K : Nat) : Nat → (((List ((List UInt8) × ((List UInt8) × (Unit)))) × ((Int) × ((Int) × ((Int) × (Unit))))) × (Unit)) → Option ((((List ((List UInt8) × ((List UInt8) × (Unit)))) × ((Int) × (Unit))) × (Unit)) ⊕ (((Bool) × (Unit)) × (Unit))) :=
  loopV [(.exit 0, { regs := [(0, (.list (.scons .str (.scons .str .snil)))), (1, (.int .i64))] }), (.ret, { regs := [(6, .bool)] })] { regs := [(0, (.list (.scons .str (.scons .str .snil)))), (1, (.int .i64)), (2, (.int .i64)), (7, (.int .i64))] } (interp (depotref09_Few.env.at K) depotref09_Few.hint (callF (depotref09_Few.env.at K) 7) (Code.sub [1, 0, 1, 0, 0] (Tryz.f11.body.getD .skip)) _)
theorem depotref09_Few.s0 (K n : Nat) (x : (((List ((List UInt8) × ((List UInt8) × (Unit)))) × ((Int) × ((Int) × ((Int) × (Unit))))) × (Unit))) : depotref09_Few.r0 K (n + 1) x = depotref09_Few.t0 K (depotref09_Few.r0 K n) x := by kernel_rfl
theorem depotref09_Few.e0 (K n : Nat) : depotref09_Few.r0 K n = depotref09_Few.l0 K n := by
  induction n with
  | zero => funext x; rfl
  | succ n ih => funext x; rw [depotref09_Few.s0, ih]; rfl
theorem depotref09_Few.body_eq (K : Nat) (x : depotref09_Few.spec.args.den) : body (depotref09_Few.env.at K) 8 11 depotref09_Few.spec x = depotref09_Few.tr (depotref09_Few.r0 K) K x.1 x.2.1 x.2.2.1 := by kernel_rfl
theorem depotref09_Few.contract : Contract Tryz.prog gl 11 depotref09_Few.spec :=
  contract_of (E := depotref09_Few.env) ⟨TIok_of tiOK, FnsOK_of ⟨⟨Tryz.func11, Tryz.call11⟩, trivial⟩, mixed⟩ (SpecsOK_of (E := depotref09_Few.env) trivial) Tryz.call11 rfl rfl fun K x r h => by
    rw [depotref09_Few.body_eq, show depotref09_Few.r0 K = depotref09_Few.l0 K from funext (depotref09_Few.e0 K)]; exact h

def depotref12_FewReply.spec : Dp.Spec := { args := (.scons (.scons (.int .i64) (.scons .str (.scons (.int .i64) (.scons (.list (.scons .str (.scons .str .snil))) (.scons .str .snil))))) (.scons (.int .i64) .snil)), res := .bool, own := false, F := fun K x => depotref12_FewReply K x.1 x.2.1 }
def depotref12_FewReply.hint : Dp.Hint := { n := 23, imm := [2] }
noncomputable def depotref12_FewReply.env : Dp.Env := { ti := ti, gl := gl, fns := [(33, Tryz.f33, depotref12_FewReply.hint)], specs := [(11, depotref09_Few.spec)], K := 0 }
theorem depotref12_FewReply.body_eq (K : Nat) (x : depotref12_FewReply.spec.args.den) : body (depotref12_FewReply.env.at K) 8 33 depotref12_FewReply.spec x = depotref12_FewReply K x.1 x.2.1 := by kernel_rfl
theorem depotref12_FewReply.contract : Contract Tryz.prog gl 33 depotref12_FewReply.spec :=
  contract_of (E := depotref12_FewReply.env) ⟨TIok_of tiOK, FnsOK_of ⟨⟨Tryz.func33, Tryz.call33⟩, trivial⟩, mixed⟩ (SpecsOK_of (E := depotref12_FewReply.env) ⟨depotref09_Few.contract, trivial⟩) Tryz.call33 rfl rfl fun K x r h => by
    rw [depotref12_FewReply.body_eq]; exact h

def fields_named.spec : Dp.Spec := { args := (.scons .str .snil), res := (.fn 131 (.scons (.ref .str) .snil)), own := false, F := fun K x => fields_named K x.1 }
def fields_named.hint : Dp.Hint := { n := 4, imm := [1] }
noncomputable def fields_named.env : Dp.Env := { ti := ti, gl := gl, fns := [(93, Tryz.f93, fields_named.hint)], specs := [], K := 0 }
theorem fields_named.body_eq (K : Nat) (x : fields_named.spec.args.den) : body (fields_named.env.at K) 8 93 fields_named.spec x = fields_named K x.1 := by kernel_rfl
theorem fields_named.contract : Contract Tryz.prog gl 93 fields_named.spec :=
  contract_of (E := fields_named.env) ⟨TIok_of tiOK, FnsOK_of ⟨⟨Tryz.func93, Tryz.call93⟩, trivial⟩, mixed⟩ (SpecsOK_of (E := fields_named.env) trivial) Tryz.call93 rfl rfl fun K x r h => by
    rw [fields_named.body_eq]; exact h

def octet_from.spec : Dp.Spec := { args := (.scons (.int .u8) (.scons (.int .u8) .snil)), res := (.fn 156 (.scons (.ref (.int .u8)) (.scons (.ref (.int .u8)) .snil))), own := false, F := fun K x => octet_from K x.1 x.2.1 }
def octet_from.hint : Dp.Hint := { n := 6, imm := [2, 3] }
noncomputable def octet_from.env : Dp.Env := { ti := ti, gl := gl, fns := [(107, Tryz.f107, octet_from.hint)], specs := [], K := 0 }
theorem octet_from.body_eq (K : Nat) (x : octet_from.spec.args.den) : body (octet_from.env.at K) 8 107 octet_from.spec x = octet_from K x.1 x.2.1 := by kernel_rfl
theorem octet_from.contract : Contract Tryz.prog gl 107 octet_from.spec :=
  contract_of (E := octet_from.env) ⟨TIok_of tiOK, FnsOK_of ⟨⟨Tryz.func107, Tryz.call107⟩, trivial⟩, mixed⟩ (SpecsOK_of (E := octet_from.env) trivial) Tryz.call107 rfl rfl fun K x r h => by
    rw [octet_from.body_eq]; exact h

def octet_from_c1.spec : Dp.Spec := { args := (.scons (.int .u8) (.scons (.ref (.int .u8)) (.scons (.ref (.int .u8)) .snil))), res := .bool, own := false, F := fun K x => octet_from_c1 K x.1 x.2.1 x.2.2.1 }
def octet_from_c1.hint : Dp.Hint := { n := 13 }
noncomputable def octet_from_c1.env : Dp.Env := { ti := ti, gl := gl, fns := [(156, Tryz.f156, octet_from_c1.hint)], specs := [], K := 0 }
theorem octet_from_c1.body_eq (K : Nat) (x : octet_from_c1.spec.args.den) : body (octet_from_c1.env.at K) 8 156 octet_from_c1.spec x = octet_from_c1 K x.1 x.2.1 x.2.2.1 := by kernel_rfl
theorem octet_from_c1.contract : Contract Tryz.prog gl 156 octet_from_c1.spec :=
  contract_of (E := octet_from_c1.env) ⟨TIok_of tiOK, FnsOK_of ⟨⟨Tryz.func156, Tryz.call156⟩, trivial⟩, mixed⟩ (SpecsOK_of (E := octet_from_c1.env) trivial) Tryz.call156 rfl rfl fun K x r h => by
    rw [octet_from_c1.body_eq]; exact h

def octet_Lower.spec : Dp.Spec := { args := (.scons .str .snil), res := .str, own := false, F := fun K x => octet_Lower K x.1 }
def octet_Lower.hint : Dp.Hint := { n := 29, conds := [(19, [(.normal, { regs := [(3, (.fn 156 (.scons (.ref (.int .u8)) (.scons (.ref (.int .u8)) .snil)))), (4, (.slw 0)), (10, (.slw 0)), (11, (.int .i64)), (12, (.int .i64))], heap := [(.row (.int .u8))] })])], loops := [(4, { regs := [(3, (.fn 156 (.scons (.ref (.int .u8)) (.scons (.ref (.int .u8)) .snil)))), (4, (.slw 0)), (10, (.slw 0)), (11, (.int .i64)), (12, (.int .i64))], heap := [(.row (.int .u8))] }, [(.exit 0, { regs := [(4, (.slw 0))], heap := [(.row (.int .u8))] })])], own := [9] }
noncomputable def octet_Lower.env : Dp.Env := { ti := ti, gl := gl, fns := [(71, Tryz.f71, octet_Lower.hint)], specs := [(107, octet_from.spec), (156, octet_from_c1.spec)], K := 0 }
noncomputable def octet_Lower.r0 (K : Nat) : Nat → ((((Int) × ((Int) × (Unit))) × ((Unit) × ((Unit) × ((Int) × ((Int) × (Unit)))))) × ((List (Int)) × (Unit))) → Option ((((Unit) × (Unit)) × ((List (Int)) × (Unit)))) :=
  loopV [(.exit 0, { regs := [(4, (.slw 0))], heap := [(.row (.int .u8))] })] { regs := [(3, (.fn 156 (.scons (.ref (.int .u8)) (.scons (.ref (.int .u8)) .snil)))), (4, (.slw 0)), (10, (.slw 0)), (11, (.int .i64)), (12, (.int .i64))], heap := [(.row (.int .u8))] } (interp (octet_Lower.env.at K) octet_Lower.hint (callF (octet_Lower.env.at K) 7) (Code.sub [1, 1, 1, 0, 1, 0, 0] (Tryz.f71.body.getD .skip)) _)
theorem octet_Lower.s0 (K n : Nat) (x : ((((Int) × ((Int) × (Unit))) × ((Unit) × ((Unit) × ((Int) × ((Int) × (Unit)))))) × ((List (Int)) × (Unit)))) : octet_Lower.r0 K (n + 1) x = octet_Lower.t0 K (octet_Lower.r0 K n) x := by kernel_rfl
theorem octet_Lower.e0 (K n : Nat) : octet_Lower.r0 K n = octet_Lower.l0 K n := by
  induction n with
  | zero => funext x; rfl
  | succ n ih => funext x; rw [octet_Lower.s0, ih]; rfl
theorem octet_Lower.body_eq (K : Nat) (x : octet_Lower.spec.args.den) : body (octet_Lower.env.at K) 8 71 octet_Lower.spec x = octet_Lower.tr (octet_Lower.r0 K) K x.1 := by kernel_rfl
theorem octet_Lower.contract : Contract Tryz.prog gl 71 octet_Lower.spec :=
  contract_of (E := octet_Lower.env) ⟨TIok_of tiOK, FnsOK_of ⟨⟨Tryz.func71, Tryz.call71⟩, trivial⟩, mixed⟩ (SpecsOK_of (E := octet_Lower.env) ⟨octet_from.contract, octet_from_c1.contract, trivial⟩) Tryz.call71 rfl rfl fun K x r h => by
    rw [octet_Lower.body_eq, show octet_Lower.r0 K = octet_Lower.l0 K from funext (octet_Lower.e0 K)]; exact h

def octet_Same.spec : Dp.Spec := { args := (.scons .str (.scons .str .snil)), res := .bool, own := false, F := fun K x => octet_Same K x.1 x.2.1 }
def octet_Same.hint : Dp.Hint := { n := 17 }
noncomputable def octet_Same.env : Dp.Env := { ti := ti, gl := gl, fns := [(132, Tryz.f132, octet_Same.hint)], specs := [(71, octet_Lower.spec)], K := 0 }
theorem octet_Same.body_eq (K : Nat) (x : octet_Same.spec.args.den) : body (octet_Same.env.at K) 8 132 octet_Same.spec x = octet_Same K x.1 x.2.1 := by kernel_rfl
theorem octet_Same.contract : Contract Tryz.prog gl 132 octet_Same.spec :=
  contract_of (E := octet_Same.env) ⟨TIok_of tiOK, FnsOK_of ⟨⟨Tryz.func132, Tryz.call132⟩, trivial⟩, mixed⟩ (SpecsOK_of (E := octet_Same.env) ⟨octet_Lower.contract, trivial⟩) Tryz.call132 rfl rfl fun K x r h => by
    rw [octet_Same.body_eq]; exact h

def fields_named_c1.spec : Dp.Spec := { args := (.scons (.scons .str (.scons .str .snil)) (.scons (.ref .str) .snil)), res := .bool, own := false, F := fun K x => fields_named_c1 K x.1 x.2.1 }
def fields_named_c1.hint : Dp.Hint := { n := 8, imm := [2] }
noncomputable def fields_named_c1.env : Dp.Env := { ti := ti, gl := gl, fns := [(131, Tryz.f131, fields_named_c1.hint)], specs := [(132, octet_Same.spec)], K := 0 }
theorem fields_named_c1.body_eq (K : Nat) (x : fields_named_c1.spec.args.den) : body (fields_named_c1.env.at K) 8 131 fields_named_c1.spec x = fields_named_c1 K x.1 x.2.1 := by kernel_rfl
theorem fields_named_c1.contract : Contract Tryz.prog gl 131 fields_named_c1.spec :=
  contract_of (E := fields_named_c1.env) ⟨TIok_of tiOK, FnsOK_of ⟨⟨Tryz.func131, Tryz.call131⟩, trivial⟩, mixed⟩ (SpecsOK_of (E := fields_named_c1.env) ⟨octet_Same.contract, trivial⟩) Tryz.call131 rfl rfl fun K x r h => by
    rw [fields_named_c1.body_eq]; exact h

def fields_chosen__named_c1.spec : Dp.Spec := { args := (.scons (.list (.scons .str (.scons .str .snil))) (.scons (.fn 131 (.scons (.ref .str) .snil)) .snil)), res := (.list (.scons .str (.scons .str .snil))), own := false, F := fun K x => fields_chosen__named_c1 K x.1 x.2.1 }
def fields_chosen__named_c1.hint : Dp.Hint := { n := 23, conds := [(16, [(.normal, { regs := [(1, (.fn 131 (.scons (.ref .str) .snil))), (5, (.slw 1)), (8, (.list (.scons .str (.scons .str .snil)))), (9, (.int .i64)), (10, (.int .i64))], heap := [(.row (.scons .str (.scons .str .snil))), (.row (.scons .str (.scons .str .snil))), (.scons .str (.scons .str .snil))], app := [1] })])], loops := [(3, { regs := [(1, (.fn 131 (.scons (.ref .str) .snil))), (5, (.slw 1)), (8, (.list (.scons .str (.scons .str .snil)))), (9, (.int .i64)), (10, (.int .i64))], heap := [(.row (.scons .str (.scons .str .snil))), (.row (.scons .str (.scons .str .snil)))], app := [1] }, [(.exit 0, { regs := [(5, (.slw 1))], heap := [(.row (.scons .str (.scons .str .snil))), (.row (.scons .str (.scons .str .snil)))], app := [1] })])], own := [4, 5] }
noncomputable def fields_chosen__named_c1.env : Dp.Env := { ti := ti, gl := gl, fns := [(92, Tryz.f92, fields_chosen__named_c1.hint)], specs := [(131, fields_named_c1.spec)], K := 0 }
noncomputable def fields_chosen__named_c1.r0 (K : Nat) : Nat → ((((List UInt8) × (Unit)) × ((Unit) × ((List ((List UInt8) × ((List UInt8) × (Unit)))) × ((Int) × ((Int) × (Unit)))))) × ((List ((List UInt8) × ((List UInt8) × (Unit)))) × ((List ((List UInt8) × ((List UInt8) × (Unit)))) × (Unit)))) → Option ((((Unit) × (Unit)) × ((List ((List UInt8) × ((List UInt8) × (Unit)))) × ((List ((List UInt8) × ((List UInt8) × (Unit)))) × (Unit))))) :=
  loopV [(.exit 0, { regs := [(5, (.slw 1))], heap := [(.row (.scons .str (.scons .str .snil))), (.row (.scons .str (.scons .str .snil)))], app := [1] })] { regs := [(1, (.fn 131 (.scons (.ref .str) .snil))), (5, (.slw 1)), (8, (.list (.scons .str (.scons .str .snil)))), (9, (.int .i64)), (10, (.int .i64))], heap := [(.row (.scons .str (.scons .str .snil))), (.row (.scons .str (.scons .str .snil)))], app := [1] } (interp (fields_chosen__named_c1.env.at K) fields_chosen__named_c1.hint (callF (fields_chosen__named_c1.env.at K) 7) (Code.sub [1, 1, 0, 1, 0, 0] (Tryz.f92.body.getD .skip)) _)
theorem fields_chosen__named_c1.s0 (K n : Nat) (x : ((((List UInt8) × (Unit)) × ((Unit) × ((List ((List UInt8) × ((List UInt8) × (Unit)))) × ((Int) × ((Int) × (Unit)))))) × ((List ((List UInt8) × ((List UInt8) × (Unit)))) × ((List ((List UInt8) × ((List UInt8) × (Unit)))) × (Unit))))) : fields_chosen__named_c1.r0 K (n + 1) x = fields_chosen__named_c1.t0 K (fields_chosen__named_c1.r0 K n) x := by kernel_rfl
theorem fields_chosen__named_c1.e0 (K n : Nat) : fields_chosen__named_c1.r0 K n = fields_chosen__named_c1.l0 K n := by
  induction n with
  | zero => funext x; rfl
  | succ n ih => funext x; rw [fields_chosen__named_c1.s0, ih]; rfl
theorem fields_chosen__named_c1.body_eq (K : Nat) (x : fields_chosen__named_c1.spec.args.den) : body (fields_chosen__named_c1.env.at K) 8 92 fields_chosen__named_c1.spec x = fields_chosen__named_c1.tr (fields_chosen__named_c1.r0 K) K x.1 x.2.1 := by kernel_rfl
theorem fields_chosen__named_c1.contract : Contract Tryz.prog gl 92 fields_chosen__named_c1.spec :=
  contract_of (E := fields_chosen__named_c1.env) ⟨TIok_of tiOK, FnsOK_of ⟨⟨Tryz.func92, Tryz.call92⟩, trivial⟩, mixed⟩ (SpecsOK_of (E := fields_chosen__named_c1.env) ⟨fields_named_c1.contract, trivial⟩) Tryz.call92 rfl rfl fun K x r h => by
    rw [fields_chosen__named_c1.body_eq, show fields_chosen__named_c1.r0 K = fields_chosen__named_c1.l0 K from funext (fields_chosen__named_c1.e0 K)]; exact h

def fields_All.spec : Dp.Spec := { args := (.scons (.list (.scons .str (.scons .str .snil))) (.scons .str .snil)), res := (.list .str), own := false, F := fun K x => fields_All K x.1 x.2.1 }
def fields_All.hint : Dp.Hint := { n := 24, loops := [(3, { regs := [(5, (.slw 1)), (11, (.list (.scons .str (.scons .str .snil)))), (12, (.int .i64)), (13, (.int .i64))], heap := [(.row .str), (.row .str)], app := [1] }, [(.exit 0, { regs := [(5, (.slw 1))], heap := [(.row .str), (.row .str)], app := [1] })])], own := [4, 5] }
noncomputable def fields_All.env : Dp.Env := { ti := ti, gl := gl, fns := [(53, Tryz.f53, fields_All.hint)], specs := [(93, fields_named.spec), (92, fields_chosen__named_c1.spec)], K := 0 }
noncomputable def fields_All.r0 (K : Nat) : Nat → (((Unit) × ((List ((List UInt8) × ((List UInt8) × (Unit)))) × ((Int) × ((Int) × (Unit))))) × ((List (List UInt8)) × ((List (List UInt8)) × (Unit)))) → Option ((((Unit) × (Unit)) × ((List (List UInt8)) × ((List (List UInt8)) × (Unit))))) :=
  loopV [(.exit 0, { regs := [(5, (.slw 1))], heap := [(.row .str), (.row .str)], app := [1] })] { regs := [(5, (.slw 1)), (11, (.list (.scons .str (.scons .str .snil)))), (12, (.int .i64)), (13, (.int .i64))], heap := [(.row .str), (.row .str)], app := [1] } (interp (fields_All.env.at K) fields_All.hint (callF (fields_All.env.at K) 7) (Code.sub [1, 1, 0, 1, 0, 0] (Tryz.f53.body.getD .skip)) _)
theorem fields_All.s0 (K n : Nat) (x : (((Unit) × ((List ((List UInt8) × ((List UInt8) × (Unit)))) × ((Int) × ((Int) × (Unit))))) × ((List (List UInt8)) × ((List (List UInt8)) × (Unit))))) : fields_All.r0 K (n + 1) x = fields_All.t0 K (fields_All.r0 K n) x := by kernel_rfl
theorem fields_All.e0 (K n : Nat) : fields_All.r0 K n = fields_All.l0 K n := by
  induction n with
  | zero => funext x; rfl
  | succ n ih => funext x; rw [fields_All.s0, ih]; rfl
theorem fields_All.body_eq (K : Nat) (x : fields_All.spec.args.den) : body (fields_All.env.at K) 8 53 fields_All.spec x = fields_All.tr (fields_All.r0 K) K x.1 x.2.1 := by kernel_rfl
theorem fields_All.contract : Contract Tryz.prog gl 53 fields_All.spec :=
  contract_of (E := fields_All.env) ⟨TIok_of tiOK, FnsOK_of ⟨⟨Tryz.func53, Tryz.call53⟩, trivial⟩, mixed⟩ (SpecsOK_of (E := fields_All.env) ⟨fields_named.contract, fields_chosen__named_c1.contract, trivial⟩) Tryz.call53 rfl rfl fun K x r h => by
    rw [fields_All.body_eq, show fields_All.r0 K = fields_All.l0 K from funext (fields_All.e0 K)]; exact h

def stringslite_IndexByte.spec : Dp.Spec := { args := (.scons .str (.scons (.int .u8) .snil)), res := (.int .i64), own := false, F := fun K x => stringslite_IndexByte K x.1 x.2.1 }
def stringslite_IndexByte.hint : Dp.Hint := { n := 8 }
noncomputable def stringslite_IndexByte.env : Dp.Env := { ti := ti, gl := gl, fns := [(171, Tryz.f171, stringslite_IndexByte.hint)], specs := [(208, ixb.spec)], K := 0 }
theorem stringslite_IndexByte.body_eq (K : Nat) (x : stringslite_IndexByte.spec.args.den) : body (stringslite_IndexByte.env.at K) 8 171 stringslite_IndexByte.spec x = stringslite_IndexByte K x.1 x.2.1 := by kernel_rfl
theorem stringslite_IndexByte.contract : Contract Tryz.prog gl 171 stringslite_IndexByte.spec :=
  contract_of (E := stringslite_IndexByte.env) ⟨TIok_of tiOK, FnsOK_of ⟨⟨Tryz.func171, Tryz.call171⟩, trivial⟩, mixed⟩ (SpecsOK_of (E := stringslite_IndexByte.env) ⟨ixb.contract, trivial⟩) Tryz.call171 rfl rfl fun K x r h => by
    rw [stringslite_IndexByte.body_eq]; exact h

def strings_IndexByte.spec : Dp.Spec := { args := (.scons .str (.scons (.int .u8) .snil)), res := (.int .i64), own := false, F := fun K x => strings_IndexByte K x.1 x.2.1 }
def strings_IndexByte.hint : Dp.Hint := { n := 8 }
noncomputable def strings_IndexByte.env : Dp.Env := { ti := ti, gl := gl, fns := [(118, Tryz.f118, strings_IndexByte.hint)], specs := [(171, stringslite_IndexByte.spec)], K := 0 }
theorem strings_IndexByte.body_eq (K : Nat) (x : strings_IndexByte.spec.args.den) : body (strings_IndexByte.env.at K) 8 118 strings_IndexByte.spec x = strings_IndexByte K x.1 x.2.1 := by kernel_rfl
theorem strings_IndexByte.contract : Contract Tryz.prog gl 118 strings_IndexByte.spec :=
  contract_of (E := strings_IndexByte.env) ⟨TIok_of tiOK, FnsOK_of ⟨⟨Tryz.func118, Tryz.call118⟩, trivial⟩, mixed⟩ (SpecsOK_of (E := strings_IndexByte.env) ⟨stringslite_IndexByte.contract, trivial⟩) Tryz.call118 rfl rfl fun K x r h => by
    rw [strings_IndexByte.body_eq]; exact h

def date_read_c1.spec : Dp.Spec := { args := (.scons (.int .i64) (.scons (.int .i64) (.scons (.ref .str) .snil))), res := .str, own := false, F := fun K x => date_read_c1 K x.1 x.2.1 x.2.2.1 }
def date_read_c1.hint : Dp.Hint := { n := 18 }
noncomputable def date_read_c1.env : Dp.Env := { ti := ti, gl := gl, fns := [(172, Tryz.f172, date_read_c1.hint)], specs := [], K := 0 }
theorem date_read_c1.body_eq (K : Nat) (x : date_read_c1.spec.args.den) : body (date_read_c1.env.at K) 8 172 date_read_c1.spec x = date_read_c1 K x.1 x.2.1 x.2.2.1 := by kernel_rfl
theorem date_read_c1.contract : Contract Tryz.prog gl 172 date_read_c1.spec :=
  contract_of (E := date_read_c1.env) ⟨TIok_of tiOK, FnsOK_of ⟨⟨Tryz.func172, Tryz.call172⟩, trivial⟩, mixed⟩ (SpecsOK_of (E := date_read_c1.env) trivial) Tryz.call172 rfl rfl fun K x r h => by
    rw [date_read_c1.body_eq]; exact h

def strings_trimLeftByte.spec : Dp.Spec := { args := (.scons .str (.scons (.int .u8) .snil)), res := .str, own := false, F := fun K x => strings_trimLeftByte K x.1 x.2.1 }
def strings_trimLeftByte.hint : Dp.Hint := { n := 17, regions := [(1, [(.normal, { regs := [(0, .str), (1, (.int .u8)), (13, .bool)] })])], loops := [(1, { regs := [(0, .str), (1, (.int .u8))] }, [(.exit 0, { regs := [(0, .str)] })])] }
noncomputable def strings_trimLeftByte.env : Dp.Env := { ti := ti, gl := gl, fns := [(192, Tryz.f192, strings_trimLeftByte.hint)], specs := [], K := 0 }
noncomputable def strings_trimLeftByte.r0 (K : Nat) : Nat → (((List UInt8) × ((Int) × (Unit))) × (Unit)) → Option ((((List UInt8) × (Unit)) × (Unit))) :=
  loopV [(.exit 0, { regs := [(0, .str)] })] { regs := [(0, .str), (1, (.int .u8))] } (interp (strings_trimLeftByte.env.at K) strings_trimLeftByte.hint (callF (strings_trimLeftByte.env.at K) 7) (Code.sub [1, 0, 0, 0] (Tryz.f192.body.getD .skip)) _)
theorem strings_trimLeftByte.s0 (K n : Nat) (x : (((List UInt8) × ((Int) × (Unit))) × (Unit))) : strings_trimLeftByte.r0 K (n + 1) x = strings_trimLeftByte.t0 K (strings_trimLeftByte.r0 K n) x := by kernel_rfl
theorem strings_trimLeftByte.e0 (K n : Nat) : strings_trimLeftByte.r0 K n = strings_trimLeftByte.l0 K n := by
  induction n with
  | zero => funext x; rfl
  | succ n ih => funext x; rw [strings_trimLeftByte.s0, ih]; rfl
theorem strings_trimLeftByte.body_eq (K : Nat) (x : strings_trimLeftByte.spec.args.den) : body (strings_trimLeftByte.env.at K) 8 192 strings_trimLeftByte.spec x = strings_trimLeftByte.tr (strings_trimLeftByte.r0 K) K x.1 x.2.1 := by kernel_rfl
theorem strings_trimLeftByte.contract : Contract Tryz.prog gl 192 strings_trimLeftByte.spec :=
  contract_of (E := strings_trimLeftByte.env) ⟨TIok_of tiOK, FnsOK_of ⟨⟨Tryz.func192, Tryz.call192⟩, trivial⟩, mixed⟩ (SpecsOK_of (E := strings_trimLeftByte.env) trivial) Tryz.call192 rfl rfl fun K x r h => by
    rw [strings_trimLeftByte.body_eq, show strings_trimLeftByte.r0 K = strings_trimLeftByte.l0 K from funext (strings_trimLeftByte.e0 K)]; exact h

def strings_asciiSet_contains.spec : Dp.Spec := { args := (.scons (.ref (.arr 256 .bool)) (.scons (.int .u8) .snil)), res := .bool, own := false, F := fun K x => strings_asciiSet_contains K x.1 x.2.1 }
def strings_asciiSet_contains.hint : Dp.Hint := { n := 10 }
noncomputable def strings_asciiSet_contains.env : Dp.Env := { ti := ti, gl := gl, fns := [(224, Tryz.f224, strings_asciiSet_contains.hint)], specs := [], K := 0 }
theorem strings_asciiSet_contains.body_eq (K : Nat) (x : strings_asciiSet_contains.spec.args.den) : body (strings_asciiSet_contains.env.at K) 8 224 strings_asciiSet_contains.spec x = strings_asciiSet_contains K x.1 x.2.1 := by kernel_rfl
theorem strings_asciiSet_contains.contract : Contract Tryz.prog gl 224 strings_asciiSet_contains.spec :=
  contract_of (E := strings_asciiSet_contains.env) ⟨TIok_of tiOK, FnsOK_of ⟨⟨Tryz.func224, Tryz.call224⟩, trivial⟩, mixed⟩ (SpecsOK_of (E := strings_asciiSet_contains.env) trivial) Tryz.call224 rfl rfl fun K x r h => by
    rw [strings_asciiSet_contains.body_eq]; exact h

def strings_trimLeftASCII.spec : Dp.Spec := { args := (.scons .str (.scons (.ref (.arr 256 .bool)) .snil)), res := .str, own := false, F := fun K x => strings_trimLeftASCII K x.1 x.2.1 }
def strings_trimLeftASCII.hint : Dp.Hint := { n := 16, loops := [(1, { regs := [(0, .str), (1, (.ref (.arr 256 .bool)))] }, [(.exit 0, { regs := [(0, .str)] })])] }
noncomputable def strings_trimLeftASCII.env : Dp.Env := { ti := ti, gl := gl, fns := [(195, Tryz.f195, strings_trimLeftASCII.hint)], specs := [(224, strings_asciiSet_contains.spec)], K := 0 }
noncomputable def strings_trimLeftASCII.r0 (K : Nat) : Nat → (((List UInt8) × ((List (Bool)) × (Unit))) × (Unit)) → Option ((((List UInt8) × (Unit)) × (Unit))) :=
  loopV [(.exit 0, { regs := [(0, .str)] })] { regs := [(0, .str), (1, (.ref (.arr 256 .bool)))] } (interp (strings_trimLeftASCII.env.at K) strings_trimLeftASCII.hint (callF (strings_trimLeftASCII.env.at K) 7) (Code.sub [1, 0, 0, 0] (Tryz.f195.body.getD .skip)) _)
theorem strings_trimLeftASCII.s0 (K n : Nat) (x : (((List UInt8) × ((List (Bool)) × (Unit))) × (Unit))) : strings_trimLeftASCII.r0 K (n + 1) x = strings_trimLeftASCII.t0 K (strings_trimLeftASCII.r0 K n) x := by kernel_rfl
theorem strings_trimLeftASCII.e0 (K n : Nat) : strings_trimLeftASCII.r0 K n = strings_trimLeftASCII.l0 K n := by
  induction n with
  | zero => funext x; rfl
  | succ n ih => funext x; rw [strings_trimLeftASCII.s0, ih]; rfl
theorem strings_trimLeftASCII.body_eq (K : Nat) (x : strings_trimLeftASCII.spec.args.den) : body (strings_trimLeftASCII.env.at K) 8 195 strings_trimLeftASCII.spec x = strings_trimLeftASCII.tr (strings_trimLeftASCII.r0 K) K x.1 x.2.1 := by kernel_rfl
theorem strings_trimLeftASCII.contract : Contract Tryz.prog gl 195 strings_trimLeftASCII.spec :=
  contract_of (E := strings_trimLeftASCII.env) ⟨TIok_of tiOK, FnsOK_of ⟨⟨Tryz.func195, Tryz.call195⟩, trivial⟩, mixed⟩ (SpecsOK_of (E := strings_trimLeftASCII.env) ⟨strings_asciiSet_contains.contract, trivial⟩) Tryz.call195 rfl rfl fun K x r h => by
    rw [strings_trimLeftASCII.body_eq, show strings_trimLeftASCII.r0 K = strings_trimLeftASCII.l0 K from funext (strings_trimLeftASCII.e0 K)]; exact h

def strings_TrimLeft.spec : Dp.Spec := { args := (.scons .str (.scons .str .snil)), res := .str, own := false, F := fun K x => strings_TrimLeft K x.1 x.2.1 }
def strings_TrimLeft.hint : Dp.Hint := { n := 37, regions := [(1, [(.normal, { regs := [(0, .str), (1, .str), (12, .bool)] })]), (3, [(.normal, { regs := [(0, .str), (1, .str), (21, .bool)] })])] }
noncomputable def strings_TrimLeft.env : Dp.Env := { ti := ti, gl := gl, fns := [(210, Tryz.f210, strings_TrimLeft.hint)], specs := [(192, strings_trimLeftByte.spec), (195, strings_trimLeftASCII.spec), (194, asciiSet.spec)], K := 0 }
theorem strings_TrimLeft.body_eq (K : Nat) (x : strings_TrimLeft.spec.args.den) : body (strings_TrimLeft.env.at K) 8 210 strings_TrimLeft.spec x = strings_TrimLeft K x.1 x.2.1 := by kernel_rfl
theorem strings_TrimLeft.contract : Contract Tryz.prog gl 210 strings_TrimLeft.spec :=
  contract_of (E := strings_TrimLeft.env) ⟨TIok_of tiOK, FnsOK_of ⟨⟨Tryz.func210, Tryz.call210⟩, trivial⟩, mixed⟩ (SpecsOK_of (E := strings_TrimLeft.env) ⟨strings_trimLeftByte.contract, strings_trimLeftASCII.contract, asciiSet.contract, trivial⟩) Tryz.call210 rfl rfl fun K x r h => by
    rw [strings_TrimLeft.body_eq]; exact h

def decimal_digit.spec : Dp.Spec := { args := (.scons (.int .i32) (.scons (.int .i64) .snil)), res := (.int .i64), own := false, F := fun K x => decimal_digit K x.1 x.2.1 }
def decimal_digit.hint : Dp.Hint := { n := 42, conds := [(6, [(.normal, { regs := [(1, (.int .i64)), (5, (.int .i64))] })]), (16, [(.normal, { regs := [(1, (.int .i64)), (5, (.int .i64))] })]), (27, [(.normal, { regs := [(1, (.int .i64)), (5, (.int .i64))] })])], regions := [(2, [(.normal, { regs := [(0, (.int .i32)), (1, (.int .i64)), (5, (.int .i64)), (6, .bool)] })]), (4, [(.normal, { regs := [(0, (.int .i32)), (1, (.int .i64)), (5, (.int .i64)), (16, .bool)] })]), (6, [(.normal, { regs := [(0, (.int .i32)), (1, (.int .i64)), (5, (.int .i64)), (27, .bool)] })])] }
noncomputable def decimal_digit.env : Dp.Env := { ti := ti, gl := gl, fns := [(128, Tryz.f128, decimal_digit.hint)], specs := [], K := 0 }
theorem decimal_digit.body_eq (K : Nat) (x : decimal_digit.spec.args.den) : body (decimal_digit.env.at K) 8 128 decimal_digit.spec x = decimal_digit K x.1 x.2.1 := by kernel_rfl
theorem decimal_digit.contract : Contract Tryz.prog gl 128 decimal_digit.spec :=
  contract_of (E := decimal_digit.env) ⟨TIok_of tiOK, FnsOK_of ⟨⟨Tryz.func128, Tryz.call128⟩, trivial⟩, mixed⟩ (SpecsOK_of (E := decimal_digit.env) trivial) Tryz.call128 rfl rfl fun K x r h => by
    rw [decimal_digit.body_eq]; exact h

def decimal_read.spec : Dp.Spec := { args := (.scons .str (.scons (.int .i64) (.scons (.int .i64) (.scons (.int .i64) .snil)))), res := (.tup (.scons (.int .i64) (.scons (.int .i64) .snil))), own := false, F := fun K x => decimal_read K x.1 x.2.1 x.2.2.1 x.2.2.2.1 }
def decimal_read.hint : Dp.Hint := { n := 41, regions := [(1, [(.normal, { regs := [(0, .str), (1, (.int .i64)), (3, (.int .i64)), (21, .bool)] })])], loops := [(5, { regs := [(1, (.int .i64)), (3, (.int .i64)), (10, (.int .i64)), (23, (.loc 0 false []))], heap := [.iter] }, [(.exit 0, { regs := [(3, (.int .i64)), (10, (.int .i64))], heap := [.iter] }), (.ret, { regs := [(8, (.int .i64)), (9, (.int .i64))], heap := [.iter] })])] }
noncomputable def decimal_read.env : Dp.Env := { ti := ti, gl := gl, fns := [(231, Tryz.f231, decimal_read.hint)], specs := [(128, decimal_digit.spec)], K := 0 }
noncomputable def decimal_read.r0 (K : Nat) : Nat → (((Int) × ((Int) × ((Int) × ((Nat) × (Unit))))) × ((List UInt8 × Nat) × (Unit))) → Option ((((Int) × ((Int) × (Unit))) × ((List UInt8 × Nat) × (Unit))) ⊕ (((Int) × ((Int) × (Unit))) × ((List UInt8 × Nat) × (Unit)))) :=
  loopV [(.exit 0, { regs := [(3, (.int .i64)), (10, (.int .i64))], heap := [.iter] }), (.ret, { regs := [(8, (.int .i64)), (9, (.int .i64))], heap := [.iter] })] { regs := [(1, (.int .i64)), (3, (.int .i64)), (10, (.int .i64)), (23, (.loc 0 false []))], heap := [.iter] } (interp (decimal_read.env.at K) decimal_read.hint (callF (decimal_read.env.at K) 7) (Code.sub [1, 1, 1, 0, 1, 0, 0] (Tryz.f231.body.getD .skip)) _)
theorem decimal_read.s0 (K n : Nat) (x : (((Int) × ((Int) × ((Int) × ((Nat) × (Unit))))) × ((List UInt8 × Nat) × (Unit)))) : decimal_read.r0 K (n + 1) x = decimal_read.t0 K (decimal_read.r0 K n) x := by kernel_rfl
theorem decimal_read.e0 (K n : Nat) : decimal_read.r0 K n = decimal_read.l0 K n := by
  induction n with
  | zero => funext x; rfl
  | succ n ih => funext x; rw [decimal_read.s0, ih]; rfl
theorem decimal_read.body_eq (K : Nat) (x : decimal_read.spec.args.den) : body (decimal_read.env.at K) 8 231 decimal_read.spec x = decimal_read.tr (decimal_read.r0 K) K x.1 x.2.1 x.2.2.1 x.2.2.2.1 := by kernel_rfl
theorem decimal_read.contract : Contract Tryz.prog gl 231 decimal_read.spec :=
  contract_of (E := decimal_read.env) ⟨TIok_of tiOK, FnsOK_of ⟨⟨Tryz.func231, Tryz.call231⟩, trivial⟩, mixed⟩ (SpecsOK_of (E := decimal_read.env) ⟨decimal_digit.contract, trivial⟩) Tryz.call231 rfl rfl fun K x r h => by
    rw [decimal_read.body_eq, show decimal_read.r0 K = decimal_read.l0 K from funext (decimal_read.e0 K)]; exact h

def decimal_Number.spec : Dp.Spec := { args := (.scons .str (.scons (.int .i64) .snil)), res := (.tup (.scons (.int .i64) (.scons (.int .i64) .snil))), own := false, F := fun K x => decimal_Number K x.1 x.2.1 }
def decimal_Number.hint : Dp.Hint := { n := 11 }
noncomputable def decimal_Number.env : Dp.Env := { ti := ti, gl := gl, fns := [(209, Tryz.f209, decimal_Number.hint)], specs := [(231, decimal_read.spec)], K := 0 }
theorem decimal_Number.body_eq (K : Nat) (x : decimal_Number.spec.args.den) : body (decimal_Number.env.at K) 8 209 decimal_Number.spec x = decimal_Number K x.1 x.2.1 := by kernel_rfl
theorem decimal_Number.contract : Contract Tryz.prog gl 209 decimal_Number.spec :=
  contract_of (E := decimal_Number.env) ⟨TIok_of tiOK, FnsOK_of ⟨⟨Tryz.func209, Tryz.call209⟩, trivial⟩, mixed⟩ (SpecsOK_of (E := decimal_Number.env) ⟨decimal_read.contract, trivial⟩) Tryz.call209 rfl rfl fun K x r h => by
    rw [decimal_Number.body_eq]; exact h

def date_number.spec : Dp.Spec := { args := (.scons .str .snil), res := (.int .i64), own := false, F := fun K x => date_number K x.1 }
def date_number.hint : Dp.Hint := { n := 14 }
noncomputable def date_number.env : Dp.Env := { ti := ti, gl := gl, fns := [(173, Tryz.f173, date_number.hint)], specs := [(210, strings_TrimLeft.spec), (209, decimal_Number.spec)], K := 0 }
theorem date_number.body_eq (K : Nat) (x : date_number.spec.args.den) : body (date_number.env.at K) 8 173 date_number.spec x = date_number K x.1 := by kernel_rfl
theorem date_number.contract : Contract Tryz.prog gl 173 date_number.spec :=
  contract_of (E := date_number.env) ⟨TIok_of tiOK, FnsOK_of ⟨⟨Tryz.func173, Tryz.call173⟩, trivial⟩, mixed⟩ (SpecsOK_of (E := date_number.env) ⟨strings_TrimLeft.contract, decimal_Number.contract, trivial⟩) Tryz.call173 rfl rfl fun K x r h => by
    rw [date_number.body_eq]; exact h

def date_century.spec : Dp.Spec := { args := (.scons (.int .i64) .snil), res := (.int .i64), own := false, F := fun K x => date_century K x.1 }
def date_century.hint : Dp.Hint := { n := 9 }
noncomputable def date_century.env : Dp.Env := { ti := ti, gl := gl, fns := [(174, Tryz.f174, date_century.hint)], specs := [], K := 0 }
theorem date_century.body_eq (K : Nat) (x : date_century.spec.args.den) : body (date_century.env.at K) 8 174 date_century.spec x = date_century K x.1 := by kernel_rfl
theorem date_century.contract : Contract Tryz.prog gl 174 date_century.spec :=
  contract_of (E := date_century.env) ⟨TIok_of tiOK, FnsOK_of ⟨⟨Tryz.func174, Tryz.call174⟩, trivial⟩, mixed⟩ (SpecsOK_of (E := date_century.env) trivial) Tryz.call174 rfl rfl fun K x r h => by
    rw [date_century.body_eq]; exact h

def date_named.spec : Dp.Spec := { args := (.scons .str .snil), res := (.int .i64), own := false, F := fun K x => date_named K x.1 }
def date_named.hint : Dp.Hint := { n := 16, loops := [(2, { regs := [(0, .str), (5, (.arr 12 .str)), (6, (.int .i64))] }, [(.exit 0, { regs := [] }), (.ret, { regs := [(2, (.int .i64))] })])] }
noncomputable def date_named.env : Dp.Env := { ti := ti, gl := gl, fns := [(176, Tryz.f176, date_named.hint)], specs := [], K := 0 }
noncomputable def date_named.r0 (K : Nat) : Nat → (((List UInt8) × ((List (List UInt8)) × ((Int) × (Unit)))) × (Unit)) → Option (((Unit) × (Unit)) ⊕ (((Int) × (Unit)) × (Unit))) :=
  loopV [(.exit 0, { regs := [] }), (.ret, { regs := [(2, (.int .i64))] })] { regs := [(0, .str), (5, (.arr 12 .str)), (6, (.int .i64))] } (interp (date_named.env.at K) date_named.hint (callF (date_named.env.at K) 7) (Code.sub [1, 0, 1, 0, 0] (Tryz.f176.body.getD .skip)) _)
theorem date_named.s0 (K n : Nat) (x : (((List UInt8) × ((List (List UInt8)) × ((Int) × (Unit)))) × (Unit))) : date_named.r0 K (n + 1) x = date_named.t0 K (date_named.r0 K n) x := by kernel_rfl
theorem date_named.e0 (K n : Nat) : date_named.r0 K n = date_named.l0 K n := by
  induction n with
  | zero => funext x; rfl
  | succ n ih => funext x; rw [date_named.s0, ih]; rfl
theorem date_named.body_eq (K : Nat) (x : date_named.spec.args.den) : body (date_named.env.at K) 8 176 date_named.spec x = date_named.tr (date_named.r0 K) K x.1 := by kernel_rfl
theorem date_named.contract : Contract Tryz.prog gl 176 date_named.spec :=
  contract_of (E := date_named.env) ⟨TIok_of tiOK, FnsOK_of ⟨⟨Tryz.func176, Tryz.call176⟩, trivial⟩, mixed⟩ (SpecsOK_of (E := date_named.env) trivial) Tryz.call176 rfl rfl fun K x r h => by
    rw [date_named.body_eq, show date_named.r0 K = date_named.l0 K from funext (date_named.e0 K)]; exact h

def date_count.spec : Dp.Spec := { args := (.scons (.int .i64) (.scons (.int .i64) (.scons (.int .i64) .snil))), res := (.int .i64), own := false, F := fun K x => date_count K x.1 x.2.1 x.2.2.1 }
def date_count.hint : Dp.Hint := { n := 34, conds := [(8, [(.normal, { regs := [(0, (.int .i64)), (1, (.int .i64)), (2, (.int .i64))] })])] }
noncomputable def date_count.env : Dp.Env := { ti := ti, gl := gl, fns := [(211, Tryz.f211, date_count.hint)], specs := [], K := 0 }
theorem date_count.body_eq (K : Nat) (x : date_count.spec.args.den) : body (date_count.env.at K) 8 211 date_count.spec x = date_count K x.1 x.2.1 x.2.2.1 := by kernel_rfl
theorem date_count.contract : Contract Tryz.prog gl 211 date_count.spec :=
  contract_of (E := date_count.env) ⟨TIok_of tiOK, FnsOK_of ⟨⟨Tryz.func211, Tryz.call211⟩, trivial⟩, mixed⟩ (SpecsOK_of (E := date_count.env) trivial) Tryz.call211 rfl rfl fun K x r h => by
    rw [date_count.body_eq]; exact h

def date_Civil.spec : Dp.Spec := { args := (.scons (.int .i64) .snil), res := (.tup (.scons (.int .i64) (.scons (.int .i64) (.scons (.int .i64) (.scons .bool .snil))))), own := false, F := fun K x => date_Civil K x.1 }
def date_Civil.hint : Dp.Hint := { n := 70, conds := [(62, [(.normal, { regs := [(8, (.int .i64)), (9, (.int .i64)), (10, (.int .i64))] })])], regions := [(1, [(.normal, { regs := [(0, (.int .i64)), (16, .bool)] })])] }
noncomputable def date_Civil.env : Dp.Env := { ti := ti, gl := gl, fns := [(212, Tryz.f212, date_Civil.hint)], specs := [], K := 0 }
theorem date_Civil.body_eq (K : Nat) (x : date_Civil.spec.args.den) : body (date_Civil.env.at K) 8 212 date_Civil.spec x = date_Civil K x.1 := by kernel_rfl
theorem date_Civil.contract : Contract Tryz.prog gl 212 date_Civil.spec :=
  contract_of (E := date_Civil.env) ⟨TIok_of tiOK, FnsOK_of ⟨⟨Tryz.func212, Tryz.call212⟩, trivial⟩, mixed⟩ (SpecsOK_of (E := date_Civil.env) trivial) Tryz.call212 rfl rfl fun K x r h => by
    rw [date_Civil.body_eq]; exact h

def date_Days.spec : Dp.Spec := { args := (.scons (.int .i64) (.scons (.int .i64) (.scons (.int .i64) .snil))), res := (.tup (.scons (.int .i64) (.scons .bool .snil))), own := false, F := fun K x => date_Days K x.1 x.2.1 x.2.2.1 }
def date_Days.hint : Dp.Hint := { n := 64, regions := [(1, [(.normal, { regs := [(0, (.int .i64)), (1, (.int .i64)), (2, (.int .i64)), (34, .bool)] })]), (5, [(.normal, { regs := [(8, (.int .i64)), (62, .bool)] })])] }
noncomputable def date_Days.env : Dp.Env := { ti := ti, gl := gl, fns := [(175, Tryz.f175, date_Days.hint)], specs := [(211, date_count.spec), (212, date_Civil.spec)], K := 0 }
theorem date_Days.body_eq (K : Nat) (x : date_Days.spec.args.den) : body (date_Days.env.at K) 8 175 date_Days.spec x = date_Days K x.1 x.2.1 x.2.2.1 := by kernel_rfl
theorem date_Days.contract : Contract Tryz.prog gl 175 date_Days.spec :=
  contract_of (E := date_Days.env) ⟨TIok_of tiOK, FnsOK_of ⟨⟨Tryz.func175, Tryz.call175⟩, trivial⟩, mixed⟩ (SpecsOK_of (E := date_Days.env) ⟨date_count.contract, date_Civil.contract, trivial⟩) Tryz.call175 rfl rfl fun K x r h => by
    rw [date_Days.body_eq]; exact h

def date_read.spec : Dp.Spec := { args := (.scons .str (.scons (.int .i64) (.scons (.int .i64) (.scons (.int .i64) (.scons (.int .i64) (.scons (.int .i64) .snil)))))), res := (.int .i64), own := false, F := fun K x => date_read K x.1 x.2.1 x.2.2.1 x.2.2.2.1 x.2.2.2.2.1 x.2.2.2.2.2.1 }
def date_read.hint : Dp.Hint := { n := 97, conds := [(31, [(.normal, { regs := [(1, (.int .i64)), (2, (.int .i64)), (5, (.int .i64)), (13, (.fn 172 (.scons (.ref .str) .snil))), (14, (.int .i64))] })])], regions := [(3, [(.normal, { regs := [(1, (.int .i64)), (2, (.int .i64)), (5, (.int .i64)), (13, (.fn 172 (.scons (.ref .str) .snil))), (14, (.int .i64)), (31, .bool)] })]), (7, [(.normal, { regs := [(15, (.int .i64)), (17, (.int .i64)), (18, (.int .i64)), (19, (.int .i64)), (86, .bool)] })])], imm := [6] }
noncomputable def date_read.env : Dp.Env := { ti := ti, gl := gl, fns := [(119, Tryz.f119, date_read.hint)], specs := [(172, date_read_c1.spec), (173, date_number.spec), (174, date_century.spec), (176, date_named.spec), (175, date_Days.spec)], K := 0 }
theorem date_read.body_eq (K : Nat) (x : date_read.spec.args.den) : body (date_read.env.at K) 8 119 date_read.spec x = date_read K x.1 x.2.1 x.2.2.1 x.2.2.2.1 x.2.2.2.2.1 x.2.2.2.2.2.1 := by kernel_rfl
theorem date_read.contract : Contract Tryz.prog gl 119 date_read.spec :=
  contract_of (E := date_read.env) ⟨TIok_of tiOK, FnsOK_of ⟨⟨Tryz.func119, Tryz.call119⟩, trivial⟩, mixed⟩ (SpecsOK_of (E := date_read.env) ⟨date_read_c1.contract, date_number.contract, date_century.contract, date_named.contract, date_Days.contract, trivial⟩) Tryz.call119 rfl rfl fun K x r h => by
    rw [date_read.body_eq]; exact h

def decimal_Plain.spec : Dp.Spec := { args := (.scons (.int .i64) .snil), res := .str, own := false, F := fun K x => decimal_Plain K x.1 }
def decimal_Plain.hint : Dp.Hint := { n := 5 }
noncomputable def decimal_Plain.env : Dp.Env := { ti := ti, gl := gl, fns := [(65, Tryz.f65, decimal_Plain.hint)], specs := [(101, itoa.spec)], K := 0 }
theorem decimal_Plain.body_eq (K : Nat) (x : decimal_Plain.spec.args.den) : body (decimal_Plain.env.at K) 8 65 decimal_Plain.spec x = decimal_Plain K x.1 := by kernel_rfl
theorem decimal_Plain.contract : Contract Tryz.prog gl 65 decimal_Plain.spec :=
  contract_of (E := decimal_Plain.env) ⟨TIok_of tiOK, FnsOK_of ⟨⟨Tryz.func65, Tryz.call65⟩, trivial⟩, mixed⟩ (SpecsOK_of (E := decimal_Plain.env) ⟨itoa.contract, trivial⟩) Tryz.call65 rfl rfl fun K x r h => by
    rw [decimal_Plain.body_eq]; exact h

def decimal_Pad.spec : Dp.Spec := { args := (.scons (.int .i64) (.scons (.int .i64) .snil)), res := .str, own := false, F := fun K x => decimal_Pad K x.1 x.2.1 }
def decimal_Pad.hint : Dp.Hint := { n := 28, regions := [(2, [(.normal, { regs := [(1, (.int .i64)), (5, .str), (19, .bool)] })])] }
noncomputable def decimal_Pad.env : Dp.Env := { ti := ti, gl := gl, fns := [(178, Tryz.f178, decimal_Pad.hint)], specs := [(65, decimal_Plain.spec), (214, repeatS.spec)], K := 0 }
theorem decimal_Pad.body_eq (K : Nat) (x : decimal_Pad.spec.args.den) : body (decimal_Pad.env.at K) 8 178 decimal_Pad.spec x = decimal_Pad K x.1 x.2.1 := by kernel_rfl
theorem decimal_Pad.contract : Contract Tryz.prog gl 178 decimal_Pad.spec :=
  contract_of (E := decimal_Pad.env) ⟨TIok_of tiOK, FnsOK_of ⟨⟨Tryz.func178, Tryz.call178⟩, trivial⟩, mixed⟩ (SpecsOK_of (E := decimal_Pad.env) ⟨decimal_Plain.contract, repeatS.contract, trivial⟩) Tryz.call178 rfl rfl fun K x r h => by
    rw [decimal_Pad.body_eq]; exact h

def date_Weekday.spec : Dp.Spec := { args := (.scons (.int .i64) .snil), res := (.int .i64), own := false, F := fun K x => date_Weekday K x.1 }
def date_Weekday.hint : Dp.Hint := { n := 9 }
noncomputable def date_Weekday.env : Dp.Env := { ti := ti, gl := gl, fns := [(213, Tryz.f213, date_Weekday.hint)], specs := [], K := 0 }
theorem date_Weekday.body_eq (K : Nat) (x : date_Weekday.spec.args.den) : body (date_Weekday.env.at K) 8 213 date_Weekday.spec x = date_Weekday K x.1 := by kernel_rfl
theorem date_Weekday.contract : Contract Tryz.prog gl 213 date_Weekday.spec :=
  contract_of (E := date_Weekday.env) ⟨TIok_of tiOK, FnsOK_of ⟨⟨Tryz.func213, Tryz.call213⟩, trivial⟩, mixed⟩ (SpecsOK_of (E := date_Weekday.env) trivial) Tryz.call213 rfl rfl fun K x r h => by
    rw [date_Weekday.body_eq]; exact h

def date_of.spec : Dp.Spec := { args := (.scons (.int .i64) .snil), res := (.scons (.int .i64) (.scons (.int .i64) (.scons (.int .i64) (.scons (.int .i64) (.scons .str .snil))))), own := false, F := fun K x => date_of K x.1 }
def date_of.hint : Dp.Hint := { n := 39 }
noncomputable def date_of.env : Dp.Env := { ti := ti, gl := gl, fns := [(177, Tryz.f177, date_of.hint)], specs := [(212, date_Civil.spec), (178, decimal_Pad.spec), (213, date_Weekday.spec), (97, joinS.spec)], K := 0 }
theorem date_of.body_eq (K : Nat) (x : date_of.spec.args.den) : body (date_of.env.at K) 8 177 date_of.spec x = date_of K x.1 := by kernel_rfl
theorem date_of.contract : Contract Tryz.prog gl 177 date_of.spec :=
  contract_of (E := date_of.env) ⟨TIok_of tiOK, FnsOK_of ⟨⟨Tryz.func177, Tryz.call177⟩, trivial⟩, mixed⟩ (SpecsOK_of (E := date_of.env) ⟨date_Civil.contract, decimal_Pad.contract, date_Weekday.contract, joinS.contract, trivial⟩) Tryz.call177 rfl rfl fun K x r h => by
    rw [date_of.body_eq]; exact h

def date_Format.spec : Dp.Spec := { args := (.scons (.int .i64) .snil), res := .str, own := false, F := fun K x => date_Format K x.1 }
def date_Format.hint : Dp.Hint := { n := 33, regions := [(1, [(.normal, { regs := [(0, (.int .i64)), (9, .bool)] })])] }
noncomputable def date_Format.env : Dp.Env := { ti := ti, gl := gl, fns := [(120, Tryz.f120, date_Format.hint)], specs := [(65, decimal_Plain.spec), (178, decimal_Pad.spec), (177, date_of.spec), (97, joinS.spec)], K := 0 }
theorem date_Format.body_eq (K : Nat) (x : date_Format.spec.args.den) : body (date_Format.env.at K) 8 120 date_Format.spec x = date_Format K x.1 := by kernel_rfl
theorem date_Format.contract : Contract Tryz.prog gl 120 date_Format.spec :=
  contract_of (E := date_Format.env) ⟨TIok_of tiOK, FnsOK_of ⟨⟨Tryz.func120, Tryz.call120⟩, trivial⟩, mixed⟩ (SpecsOK_of (E := date_Format.env) ⟨decimal_Plain.contract, decimal_Pad.contract, date_of.contract, joinS.contract, trivial⟩) Tryz.call120 rfl rfl fun K x r h => by
    rw [date_Format.body_eq]; exact h

def date_Old.spec : Dp.Spec := { args := (.scons (.int .i64) .snil), res := .str, own := false, F := fun K x => date_Old K x.1 }
def date_Old.hint : Dp.Hint := { n := 37, regions := [(1, [(.normal, { regs := [(0, (.int .i64)), (10, .bool)] })])] }
noncomputable def date_Old.env : Dp.Env := { ti := ti, gl := gl, fns := [(121, Tryz.f121, date_Old.hint)], specs := [(178, decimal_Pad.spec), (177, date_of.spec), (97, joinS.spec)], K := 0 }
theorem date_Old.body_eq (K : Nat) (x : date_Old.spec.args.den) : body (date_Old.env.at K) 8 121 date_Old.spec x = date_Old K x.1 := by kernel_rfl
theorem date_Old.contract : Contract Tryz.prog gl 121 date_Old.spec :=
  contract_of (E := date_Old.env) ⟨TIok_of tiOK, FnsOK_of ⟨⟨Tryz.func121, Tryz.call121⟩, trivial⟩, mixed⟩ (SpecsOK_of (E := date_Old.env) ⟨decimal_Pad.contract, date_of.contract, joinS.contract, trivial⟩) Tryz.call121 rfl rfl fun K x r h => by
    rw [date_Old.body_eq]; exact h

def date_Plain.spec : Dp.Spec := { args := (.scons (.int .i64) .snil), res := .str, own := false, F := fun K x => date_Plain K x.1 }
def date_Plain.hint : Dp.Hint := { n := 39, conds := [(18, [(.normal, { regs := [(3, (.loc 0 false [])), (4, .str)], heap := [(.scons (.int .i64) (.scons (.int .i64) (.scons (.int .i64) (.scons (.int .i64) (.scons .str .snil)))))] })])], regions := [(1, [(.normal, { regs := [(0, (.int .i64)), (10, .bool)] })])] }
noncomputable def date_Plain.env : Dp.Env := { ti := ti, gl := gl, fns := [(122, Tryz.f122, date_Plain.hint)], specs := [(65, decimal_Plain.spec), (177, date_of.spec), (97, joinS.spec)], K := 0 }
theorem date_Plain.body_eq (K : Nat) (x : date_Plain.spec.args.den) : body (date_Plain.env.at K) 8 122 date_Plain.spec x = date_Plain K x.1 := by kernel_rfl
theorem date_Plain.contract : Contract Tryz.prog gl 122 date_Plain.spec :=
  contract_of (E := date_Plain.env) ⟨TIok_of tiOK, FnsOK_of ⟨⟨Tryz.func122, Tryz.call122⟩, trivial⟩, mixed⟩ (SpecsOK_of (E := date_Plain.env) ⟨decimal_Plain.contract, date_of.contract, joinS.contract, trivial⟩) Tryz.call122 rfl rfl fun K x r h => by
    rw [date_Plain.body_eq]; exact h

def date_Parse.spec : Dp.Spec := { args := (.scons .str .snil), res := (.tup (.scons (.int .i64) (.scons (.int .i64) .snil))), own := false, F := fun K x => date_Parse K x.1 }
def date_Parse.hint : Dp.Hint := { n := 52, regions := [(3, [(.normal, { regs := [(0, .str), (4, (.int .i64)), (5, (.int .i64)), (20, .bool)] })]), (6, [(.normal, { regs := [(0, .str), (6, (.int .i64)), (39, .bool)] })]), (9, [(.normal, { regs := [(7, (.int .i64)), (50, .bool)] })])] }
noncomputable def date_Parse.env : Dp.Env := { ti := ti, gl := gl, fns := [(88, Tryz.f88, date_Parse.hint)], specs := [(118, strings_IndexByte.spec), (119, date_read.spec), (120, date_Format.spec), (121, date_Old.spec), (122, date_Plain.spec)], K := 0 }
theorem date_Parse.body_eq (K : Nat) (x : date_Parse.spec.args.den) : body (date_Parse.env.at K) 8 88 date_Parse.spec x = date_Parse K x.1 := by kernel_rfl
theorem date_Parse.contract : Contract Tryz.prog gl 88 date_Parse.spec :=
  contract_of (E := date_Parse.env) ⟨TIok_of tiOK, FnsOK_of ⟨⟨Tryz.func88, Tryz.call88⟩, trivial⟩, mixed⟩ (SpecsOK_of (E := date_Parse.env) ⟨strings_IndexByte.contract, date_read.contract, date_Format.contract, date_Old.contract, date_Plain.contract, trivial⟩) Tryz.call88 rfl rfl fun K x r h => by
    rw [date_Parse.body_eq]; exact h

def life_When.spec : Dp.Spec := { args := (.scons (.list (.scons .str (.scons .str .snil))) (.scons .str .snil)), res := (.tup (.scons (.int .i64) (.scons .bool .snil))), own := false, F := fun K x => life_When K x.1 x.2.1 }
def life_When.hint : Dp.Hint := { n := 25 }
noncomputable def life_When.env : Dp.Env := { ti := ti, gl := gl, fns := [(43, Tryz.f43, life_When.hint)], specs := [(53, fields_All.spec), (88, date_Parse.spec)], K := 0 }
theorem life_When.body_eq (K : Nat) (x : life_When.spec.args.den) : body (life_When.env.at K) 8 43 life_When.spec x = life_When K x.1 x.2.1 := by kernel_rfl
theorem life_When.contract : Contract Tryz.prog gl 43 life_When.spec :=
  contract_of (E := life_When.env) ⟨TIok_of tiOK, FnsOK_of ⟨⟨Tryz.func43, Tryz.call43⟩, trivial⟩, mixed⟩ (SpecsOK_of (E := life_When.env) ⟨fields_All.contract, date_Parse.contract, trivial⟩) Tryz.call43 rfl rfl fun K x r h => by
    rw [life_When.body_eq]; exact h

def strings_trimRightByte.spec : Dp.Spec := { args := (.scons .str (.scons (.int .u8) .snil)), res := .str, own := false, F := fun K x => strings_trimRightByte K x.1 x.2.1 }
def strings_trimRightByte.hint : Dp.Hint := { n := 23, regions := [(1, [(.normal, { regs := [(0, .str), (1, (.int .u8)), (16, .bool)] })])], loops := [(1, { regs := [(0, .str), (1, (.int .u8))] }, [(.exit 0, { regs := [(0, .str)] })])] }
noncomputable def strings_trimRightByte.env : Dp.Env := { ti := ti, gl := gl, fns := [(193, Tryz.f193, strings_trimRightByte.hint)], specs := [], K := 0 }
noncomputable def strings_trimRightByte.r0 (K : Nat) : Nat → (((List UInt8) × ((Int) × (Unit))) × (Unit)) → Option ((((List UInt8) × (Unit)) × (Unit))) :=
  loopV [(.exit 0, { regs := [(0, .str)] })] { regs := [(0, .str), (1, (.int .u8))] } (interp (strings_trimRightByte.env.at K) strings_trimRightByte.hint (callF (strings_trimRightByte.env.at K) 7) (Code.sub [1, 0, 0, 0] (Tryz.f193.body.getD .skip)) _)
theorem strings_trimRightByte.s0 (K n : Nat) (x : (((List UInt8) × ((Int) × (Unit))) × (Unit))) : strings_trimRightByte.r0 K (n + 1) x = strings_trimRightByte.t0 K (strings_trimRightByte.r0 K n) x := by kernel_rfl
theorem strings_trimRightByte.e0 (K n : Nat) : strings_trimRightByte.r0 K n = strings_trimRightByte.l0 K n := by
  induction n with
  | zero => funext x; rfl
  | succ n ih => funext x; rw [strings_trimRightByte.s0, ih]; rfl
theorem strings_trimRightByte.body_eq (K : Nat) (x : strings_trimRightByte.spec.args.den) : body (strings_trimRightByte.env.at K) 8 193 strings_trimRightByte.spec x = strings_trimRightByte.tr (strings_trimRightByte.r0 K) K x.1 x.2.1 := by kernel_rfl
theorem strings_trimRightByte.contract : Contract Tryz.prog gl 193 strings_trimRightByte.spec :=
  contract_of (E := strings_trimRightByte.env) ⟨TIok_of tiOK, FnsOK_of ⟨⟨Tryz.func193, Tryz.call193⟩, trivial⟩, mixed⟩ (SpecsOK_of (E := strings_trimRightByte.env) trivial) Tryz.call193 rfl rfl fun K x r h => by
    rw [strings_trimRightByte.body_eq, show strings_trimRightByte.r0 K = strings_trimRightByte.l0 K from funext (strings_trimRightByte.e0 K)]; exact h

def strings_trimRightASCII.spec : Dp.Spec := { args := (.scons .str (.scons (.ref (.arr 256 .bool)) .snil)), res := .str, own := false, F := fun K x => strings_trimRightASCII K x.1 x.2.1 }
def strings_trimRightASCII.hint : Dp.Hint := { n := 22, loops := [(1, { regs := [(0, .str), (1, (.ref (.arr 256 .bool)))] }, [(.exit 0, { regs := [(0, .str)] })])] }
noncomputable def strings_trimRightASCII.env : Dp.Env := { ti := ti, gl := gl, fns := [(196, Tryz.f196, strings_trimRightASCII.hint)], specs := [(224, strings_asciiSet_contains.spec)], K := 0 }
noncomputable def strings_trimRightASCII.r0 (K : Nat) : Nat → (((List UInt8) × ((List (Bool)) × (Unit))) × (Unit)) → Option ((((List UInt8) × (Unit)) × (Unit))) :=
  loopV [(.exit 0, { regs := [(0, .str)] })] { regs := [(0, .str), (1, (.ref (.arr 256 .bool)))] } (interp (strings_trimRightASCII.env.at K) strings_trimRightASCII.hint (callF (strings_trimRightASCII.env.at K) 7) (Code.sub [1, 0, 0, 0] (Tryz.f196.body.getD .skip)) _)
theorem strings_trimRightASCII.s0 (K n : Nat) (x : (((List UInt8) × ((List (Bool)) × (Unit))) × (Unit))) : strings_trimRightASCII.r0 K (n + 1) x = strings_trimRightASCII.t0 K (strings_trimRightASCII.r0 K n) x := by kernel_rfl
theorem strings_trimRightASCII.e0 (K n : Nat) : strings_trimRightASCII.r0 K n = strings_trimRightASCII.l0 K n := by
  induction n with
  | zero => funext x; rfl
  | succ n ih => funext x; rw [strings_trimRightASCII.s0, ih]; rfl
theorem strings_trimRightASCII.body_eq (K : Nat) (x : strings_trimRightASCII.spec.args.den) : body (strings_trimRightASCII.env.at K) 8 196 strings_trimRightASCII.spec x = strings_trimRightASCII.tr (strings_trimRightASCII.r0 K) K x.1 x.2.1 := by kernel_rfl
theorem strings_trimRightASCII.contract : Contract Tryz.prog gl 196 strings_trimRightASCII.spec :=
  contract_of (E := strings_trimRightASCII.env) ⟨TIok_of tiOK, FnsOK_of ⟨⟨Tryz.func196, Tryz.call196⟩, trivial⟩, mixed⟩ (SpecsOK_of (E := strings_trimRightASCII.env) ⟨strings_asciiSet_contains.contract, trivial⟩) Tryz.call196 rfl rfl fun K x r h => by
    rw [strings_trimRightASCII.body_eq, show strings_trimRightASCII.r0 K = strings_trimRightASCII.l0 K from funext (strings_trimRightASCII.e0 K)]; exact h

def strings_Trim.spec : Dp.Spec := { args := (.scons .str (.scons .str .snil)), res := .str, own := false, F := fun K x => strings_Trim K x.1 x.2.1 }
def strings_Trim.hint : Dp.Hint := { n := 43, regions := [(1, [(.normal, { regs := [(0, .str), (1, .str), (12, .bool)] })]), (3, [(.normal, { regs := [(0, .str), (1, .str), (21, .bool)] })])] }
noncomputable def strings_Trim.env : Dp.Env := { ti := ti, gl := gl, fns := [(152, Tryz.f152, strings_Trim.hint)], specs := [(192, strings_trimLeftByte.spec), (195, strings_trimLeftASCII.spec), (193, strings_trimRightByte.spec), (196, strings_trimRightASCII.spec), (194, asciiSet.spec)], K := 0 }
theorem strings_Trim.body_eq (K : Nat) (x : strings_Trim.spec.args.den) : body (strings_Trim.env.at K) 8 152 strings_Trim.spec x = strings_Trim K x.1 x.2.1 := by kernel_rfl
theorem strings_Trim.contract : Contract Tryz.prog gl 152 strings_Trim.spec :=
  contract_of (E := strings_Trim.env) ⟨TIok_of tiOK, FnsOK_of ⟨⟨Tryz.func152, Tryz.call152⟩, trivial⟩, mixed⟩ (SpecsOK_of (E := strings_Trim.env) ⟨strings_trimLeftByte.contract, strings_trimLeftASCII.contract, strings_trimRightByte.contract, strings_trimRightASCII.contract, asciiSet.contract, trivial⟩) Tryz.call152 rfl rfl fun K x r h => by
    rw [strings_Trim.body_eq]; exact h

def octet_Trim.spec : Dp.Spec := { args := (.scons .str .snil), res := .str, own := false, F := fun K x => octet_Trim K x.1 }
def octet_Trim.hint : Dp.Hint := { n := 5 }
noncomputable def octet_Trim.env : Dp.Env := { ti := ti, gl := gl, fns := [(104, Tryz.f104, octet_Trim.hint)], specs := [(152, strings_Trim.spec)], K := 0 }
theorem octet_Trim.body_eq (K : Nat) (x : octet_Trim.spec.args.den) : body (octet_Trim.env.at K) 8 104 octet_Trim.spec x = octet_Trim K x.1 := by kernel_rfl
theorem octet_Trim.contract : Contract Tryz.prog gl 104 octet_Trim.spec :=
  contract_of (E := octet_Trim.env) ⟨TIok_of tiOK, FnsOK_of ⟨⟨Tryz.func104, Tryz.call104⟩, trivial⟩, mixed⟩ (SpecsOK_of (E := octet_Trim.env) ⟨strings_Trim.contract, trivial⟩) Tryz.call104 rfl rfl fun K x r h => by
    rw [octet_Trim.body_eq]; exact h

def items_Split.spec : Dp.Spec := { args := (.scons .str .snil), res := (.tup (.scons (.list .str) (.scons (.int .i64) .snil))), own := false, F := fun K x => items_Split K x.1 }
def items_Split.hint : Dp.Hint := { n := 49, conds := [(20, [(.exit 1, { regs := [(1, (.ref .str)), (4, (.loc 1 false [])), (6, (.fn 103 (.scons (.ref .str) (.scons (.loc 2 false []) (.scons (.loc 1 false []) .snil))))), (7, .bool), (8, (.int .i64))], heap := [(.row .str), (.slw 0), (.int .i64)], app := [0] }), (.normal, { regs := [(1, (.ref .str)), (4, (.loc 1 false [])), (6, (.fn 103 (.scons (.ref .str) (.scons (.loc 2 false []) (.scons (.loc 1 false []) .snil))))), (7, .bool), (8, (.int .i64))], heap := [(.row .str), (.slw 0), (.int .i64)], app := [0] })]), (33, [(.normal, { regs := [(1, (.ref .str)), (4, (.loc 1 false [])), (6, (.fn 103 (.scons (.ref .str) (.scons (.loc 2 false []) (.scons (.loc 1 false []) .snil))))), (7, .bool), (8, (.int .i64))], heap := [(.row .str), (.slw 0), (.int .i64)], app := [0] })])], blocks := [(1, [(.normal, { regs := [(1, (.ref .str)), (4, (.loc 1 false [])), (6, (.fn 103 (.scons (.ref .str) (.scons (.loc 2 false []) (.scons (.loc 1 false []) .snil))))), (7, .bool), (8, (.int .i64))], heap := [(.row .str), (.slw 0), (.int .i64)], app := [0] })])], regions := [(11, [(.normal, { regs := [(1, (.ref .str)), (4, (.loc 1 false [])), (6, (.fn 103 (.scons (.ref .str) (.scons (.loc 2 false []) (.scons (.loc 1 false []) .snil))))), (7, .bool), (8, (.int .i64)), (9, (.int .u8)), (25, .bool)], heap := [(.row .str), (.slw 0), (.int .i64)], app := [0] })]), (13, [(.normal, { regs := [(1, (.ref .str)), (4, (.loc 1 false [])), (6, (.fn 103 (.scons (.ref .str) (.scons (.loc 2 false []) (.scons (.loc 1 false []) .snil))))), (7, .bool), (8, (.int .i64)), (33, .bool)], heap := [(.row .str), (.slw 0), (.int .i64)], app := [0] })]), (14, [(.normal, { regs := [(1, (.ref .str)), (4, (.loc 1 false [])), (6, (.fn 103 (.scons (.ref .str) (.scons (.loc 2 false []) (.scons (.loc 1 false []) .snil))))), (7, .bool), (8, (.int .i64))], heap := [(.row .str), (.slw 0), (.int .i64)], app := [0] })])], loops := [(6, { regs := [(1, (.ref .str)), (4, (.loc 1 false [])), (6, (.fn 103 (.scons (.ref .str) (.scons (.loc 2 false []) (.scons (.loc 1 false []) .snil))))), (7, .bool), (8, (.int .i64))], heap := [(.row .str), (.slw 0), (.int .i64)], app := [0] }, [(.exit 0, { regs := [(1, (.ref .str)), (4, (.loc 1 false [])), (6, (.fn 103 (.scons (.ref .str) (.scons (.loc 2 false []) (.scons (.loc 1 false []) .snil))))), (7, .bool)], heap := [(.row .str), (.slw 0), (.int .i64)], app := [0] })])], own := [4], imm := [1] }
def items_Split.hint103 : Dp.Hint := { n := 19 }
noncomputable def items_Split.env : Dp.Env := { ti := ti, gl := gl, fns := [(69, Tryz.f69, items_Split.hint), (103, Tryz.f103, items_Split.hint103)], specs := [(104, octet_Trim.spec)], K := 0 }
noncomputable def items_Split.r0 (K : Nat) : Nat → (((List UInt8) × ((Nat) × (((List UInt8) × ((Nat) × ((Nat) × (Unit)))) × ((Bool) × ((Int) × (Unit)))))) × ((List (List UInt8)) × ((Unit) × ((Int) × (Unit))))) → Option ((((List UInt8) × ((Nat) × (((List UInt8) × ((Nat) × ((Nat) × (Unit)))) × ((Bool) × (Unit))))) × ((List (List UInt8)) × ((Unit) × ((Int) × (Unit)))))) :=
  loopV [(.exit 0, { regs := [(1, (.ref .str)), (4, (.loc 1 false [])), (6, (.fn 103 (.scons (.ref .str) (.scons (.loc 2 false []) (.scons (.loc 1 false []) .snil))))), (7, .bool)], heap := [(.row .str), (.slw 0), (.int .i64)], app := [0] })] { regs := [(1, (.ref .str)), (4, (.loc 1 false [])), (6, (.fn 103 (.scons (.ref .str) (.scons (.loc 2 false []) (.scons (.loc 1 false []) .snil))))), (7, .bool), (8, (.int .i64))], heap := [(.row .str), (.slw 0), (.int .i64)], app := [0] } (interp (items_Split.env.at K) items_Split.hint (callF (items_Split.env.at K) 7) (Code.sub [1, 0, 1, 1, 1, 1, 1, 0, 1, 0, 0] (Tryz.f69.body.getD .skip)) _)
theorem items_Split.s0 (K n : Nat) (x : (((List UInt8) × ((Nat) × (((List UInt8) × ((Nat) × ((Nat) × (Unit)))) × ((Bool) × ((Int) × (Unit)))))) × ((List (List UInt8)) × ((Unit) × ((Int) × (Unit)))))) : items_Split.r0 K (n + 1) x = items_Split.t0 K (items_Split.r0 K n) x := by kernel_rfl
theorem items_Split.e0 (K n : Nat) : items_Split.r0 K n = items_Split.l0 K n := by
  induction n with
  | zero => funext x; rfl
  | succ n ih => funext x; rw [items_Split.s0, ih]; rfl
theorem items_Split.body_eq (K : Nat) (x : items_Split.spec.args.den) : body (items_Split.env.at K) 8 69 items_Split.spec x = items_Split.tr (items_Split.r0 K) K x.1 := by kernel_rfl
theorem items_Split.contract : Contract Tryz.prog gl 69 items_Split.spec :=
  contract_of (E := items_Split.env) ⟨TIok_of tiOK, FnsOK_of ⟨⟨Tryz.func69, Tryz.call69⟩, ⟨Tryz.func103, Tryz.call103⟩, trivial⟩, mixed⟩ (SpecsOK_of (E := items_Split.env) ⟨octet_Trim.contract, trivial⟩) Tryz.call69 rfl rfl fun K x r h => by
    rw [items_Split.body_eq, show items_Split.r0 K = items_Split.l0 K from funext (items_Split.e0 K)]; exact h

def decimal_least.spec : Dp.Spec := { args := (.scons (.int .i64) (.scons (.list (.int .i64)) .snil)), res := (.int .i64), own := false, F := fun K x => decimal_least K x.1 x.2.1 }
def decimal_least.hint : Dp.Hint := { n := 19, conds := [(15, [(.normal, { regs := [(0, (.int .i64)), (7, (.list (.int .i64))), (8, (.int .i64)), (9, (.int .i64))] })])], loops := [(2, { regs := [(0, (.int .i64)), (7, (.list (.int .i64))), (8, (.int .i64)), (9, (.int .i64))] }, [(.exit 0, { regs := [(0, (.int .i64))] })])] }
noncomputable def decimal_least.env : Dp.Env := { ti := ti, gl := gl, fns := [(129, Tryz.f129, decimal_least.hint)], specs := [], K := 0 }
noncomputable def decimal_least.r0 (K : Nat) : Nat → (((Int) × ((List (Int)) × ((Int) × ((Int) × (Unit))))) × (Unit)) → Option ((((Int) × (Unit)) × (Unit))) :=
  loopV [(.exit 0, { regs := [(0, (.int .i64))] })] { regs := [(0, (.int .i64)), (7, (.list (.int .i64))), (8, (.int .i64)), (9, (.int .i64))] } (interp (decimal_least.env.at K) decimal_least.hint (callF (decimal_least.env.at K) 7) (Code.sub [1, 0, 1, 0, 0] (Tryz.f129.body.getD .skip)) _)
theorem decimal_least.s0 (K n : Nat) (x : (((Int) × ((List (Int)) × ((Int) × ((Int) × (Unit))))) × (Unit))) : decimal_least.r0 K (n + 1) x = decimal_least.t0 K (decimal_least.r0 K n) x := by kernel_rfl
theorem decimal_least.e0 (K n : Nat) : decimal_least.r0 K n = decimal_least.l0 K n := by
  induction n with
  | zero => funext x; rfl
  | succ n ih => funext x; rw [decimal_least.s0, ih]; rfl
theorem decimal_least.body_eq (K : Nat) (x : decimal_least.spec.args.den) : body (decimal_least.env.at K) 8 129 decimal_least.spec x = decimal_least.tr (decimal_least.r0 K) K x.1 x.2.1 := by kernel_rfl
theorem decimal_least.contract : Contract Tryz.prog gl 129 decimal_least.spec :=
  contract_of (E := decimal_least.env) ⟨TIok_of tiOK, FnsOK_of ⟨⟨Tryz.func129, Tryz.call129⟩, trivial⟩, mixed⟩ (SpecsOK_of (E := decimal_least.env) trivial) Tryz.call129 rfl rfl fun K x r h => by
    rw [decimal_least.body_eq, show decimal_least.r0 K = decimal_least.l0 K from funext (decimal_least.e0 K)]; exact h

def decimal_Seconds.spec : Dp.Spec := { args := (.scons .str .snil), res := (.tup (.scons (.int .i64) (.scons .bool .snil))), own := false, F := fun K x => decimal_Seconds K x.1 }
def decimal_Seconds.hint : Dp.Hint := { n := 26, loops := [(3, { regs := [(0, .str), (4, (.int .i64)), (9, (.loc 0 false []))], heap := [.iter] }, [(.exit 0, { regs := [(0, .str), (4, (.int .i64))], heap := [.iter] }), (.ret, { regs := [(2, (.int .i64)), (3, .bool)], heap := [.iter] })])] }
noncomputable def decimal_Seconds.env : Dp.Env := { ti := ti, gl := gl, fns := [(90, Tryz.f90, decimal_Seconds.hint)], specs := [(128, decimal_digit.spec), (129, decimal_least.spec)], K := 0 }
noncomputable def decimal_Seconds.r0 (K : Nat) : Nat → (((List UInt8) × ((Int) × ((Nat) × (Unit)))) × ((List UInt8 × Nat) × (Unit))) → Option ((((List UInt8) × ((Int) × (Unit))) × ((List UInt8 × Nat) × (Unit))) ⊕ (((Int) × ((Bool) × (Unit))) × ((List UInt8 × Nat) × (Unit)))) :=
  loopV [(.exit 0, { regs := [(0, .str), (4, (.int .i64))], heap := [.iter] }), (.ret, { regs := [(2, (.int .i64)), (3, .bool)], heap := [.iter] })] { regs := [(0, .str), (4, (.int .i64)), (9, (.loc 0 false []))], heap := [.iter] } (interp (decimal_Seconds.env.at K) decimal_Seconds.hint (callF (decimal_Seconds.env.at K) 7) (Code.sub [1, 1, 0, 1, 0, 0] (Tryz.f90.body.getD .skip)) _)
theorem decimal_Seconds.s0 (K n : Nat) (x : (((List UInt8) × ((Int) × ((Nat) × (Unit)))) × ((List UInt8 × Nat) × (Unit)))) : decimal_Seconds.r0 K (n + 1) x = decimal_Seconds.t0 K (decimal_Seconds.r0 K n) x := by kernel_rfl
theorem decimal_Seconds.e0 (K n : Nat) : decimal_Seconds.r0 K n = decimal_Seconds.l0 K n := by
  induction n with
  | zero => funext x; rfl
  | succ n ih => funext x; rw [decimal_Seconds.s0, ih]; rfl
theorem decimal_Seconds.body_eq (K : Nat) (x : decimal_Seconds.spec.args.den) : body (decimal_Seconds.env.at K) 8 90 decimal_Seconds.spec x = decimal_Seconds.tr (decimal_Seconds.r0 K) K x.1 := by kernel_rfl
theorem decimal_Seconds.contract : Contract Tryz.prog gl 90 decimal_Seconds.spec :=
  contract_of (E := decimal_Seconds.env) ⟨TIok_of tiOK, FnsOK_of ⟨⟨Tryz.func90, Tryz.call90⟩, trivial⟩, mixed⟩ (SpecsOK_of (E := decimal_Seconds.env) ⟨decimal_digit.contract, decimal_least.contract, trivial⟩) Tryz.call90 rfl rfl fun K x r h => by
    rw [decimal_Seconds.body_eq, show decimal_Seconds.r0 K = decimal_Seconds.l0 K from funext (decimal_Seconds.e0 K)]; exact h

def life_greatest.spec : Dp.Spec := { args := (.scons (.list (.int .i64)) .snil), res := (.int .i64), own := false, F := fun K x => life_greatest K x.1 }
def life_greatest.hint : Dp.Hint := { n := 17, loops := [(3, { regs := [(3, (.int .i64)), (6, (.list (.int .i64))), (7, (.int .i64)), (8, (.int .i64))] }, [(.exit 0, { regs := [(3, (.int .i64))] })])] }
noncomputable def life_greatest.env : Dp.Env := { ti := ti, gl := gl, fns := [(81, Tryz.f81, life_greatest.hint)], specs := [], K := 0 }
noncomputable def life_greatest.r0 (K : Nat) : Nat → (((Int) × ((List (Int)) × ((Int) × ((Int) × (Unit))))) × (Unit)) → Option ((((Int) × (Unit)) × (Unit))) :=
  loopV [(.exit 0, { regs := [(3, (.int .i64))] })] { regs := [(3, (.int .i64)), (6, (.list (.int .i64))), (7, (.int .i64)), (8, (.int .i64))] } (interp (life_greatest.env.at K) life_greatest.hint (callF (life_greatest.env.at K) 7) (Code.sub [1, 1, 0, 1, 0, 0] (Tryz.f81.body.getD .skip)) _)
theorem life_greatest.s0 (K n : Nat) (x : (((Int) × ((List (Int)) × ((Int) × ((Int) × (Unit))))) × (Unit))) : life_greatest.r0 K (n + 1) x = life_greatest.t0 K (life_greatest.r0 K n) x := by kernel_rfl
theorem life_greatest.e0 (K n : Nat) : life_greatest.r0 K n = life_greatest.l0 K n := by
  induction n with
  | zero => funext x; rfl
  | succ n ih => funext x; rw [life_greatest.s0, ih]; rfl
theorem life_greatest.body_eq (K : Nat) (x : life_greatest.spec.args.den) : body (life_greatest.env.at K) 8 81 life_greatest.spec x = life_greatest.tr (life_greatest.r0 K) K x.1 := by kernel_rfl
theorem life_greatest.contract : Contract Tryz.prog gl 81 life_greatest.spec :=
  contract_of (E := life_greatest.env) ⟨TIok_of tiOK, FnsOK_of ⟨⟨Tryz.func81, Tryz.call81⟩, trivial⟩, mixed⟩ (SpecsOK_of (E := life_greatest.env) trivial) Tryz.call81 rfl rfl fun K x r h => by
    rw [life_greatest.body_eq, show life_greatest.r0 K = life_greatest.l0 K from funext (life_greatest.e0 K)]; exact h

def life_Told.spec : Dp.Spec := { args := (.scons (.scons (.int .i64) (.scons .str (.scons (.int .i64) (.scons (.list (.scons .str (.scons .str .snil))) (.scons .str .snil))))) .snil), res := (.int .i64), own := false, F := fun K x => life_Told K x.1 }
def life_Told.hint : Dp.Hint := { n := 44, conds := [(36, [(.normal, { regs := [(3, (.int .i64)), (14, (.list .str)), (15, (.int .i64)), (16, (.int .i64)), (25, (.list .str)), (26, (.int .i64)), (27, (.int .i64))] })])], loops := [(3, { regs := [(3, (.int .i64)), (14, (.list .str)), (15, (.int .i64)), (16, (.int .i64))] }, [(.exit 0, { regs := [(3, (.int .i64))] })]), (7, { regs := [(3, (.int .i64)), (14, (.list .str)), (15, (.int .i64)), (16, (.int .i64)), (25, (.list .str)), (26, (.int .i64)), (27, (.int .i64))] }, [(.exit 2, { regs := [(3, (.int .i64)), (14, (.list .str)), (15, (.int .i64)), (16, (.int .i64))] })])], imm := [1] }
noncomputable def life_Told.env : Dp.Env := { ti := ti, gl := gl, fns := [(47, Tryz.f47, life_Told.hint)], specs := [(53, fields_All.spec), (69, items_Split.spec), (90, decimal_Seconds.spec), (81, life_greatest.spec)], K := 0 }
noncomputable def life_Told.r0 (K : Nat) : Nat → (((Int) × ((List (List UInt8)) × ((Int) × ((Int) × ((List (List UInt8)) × ((Int) × ((Int) × (Unit)))))))) × (Unit)) → Option ((((Int) × ((List (List UInt8)) × ((Int) × ((Int) × (Unit))))) × (Unit))) :=
  loopV [(.exit 2, { regs := [(3, (.int .i64)), (14, (.list .str)), (15, (.int .i64)), (16, (.int .i64))] })] { regs := [(3, (.int .i64)), (14, (.list .str)), (15, (.int .i64)), (16, (.int .i64)), (25, (.list .str)), (26, (.int .i64)), (27, (.int .i64))] } (interp (life_Told.env.at K) life_Told.hint (callF (life_Told.env.at K) 7) (Code.sub [1, 1, 0, 1, 0, 0, 1, 1, 0, 0, 1, 1, 1, 0, 0] (Tryz.f47.body.getD .skip)) _)
theorem life_Told.s0 (K n : Nat) (x : (((Int) × ((List (List UInt8)) × ((Int) × ((Int) × ((List (List UInt8)) × ((Int) × ((Int) × (Unit)))))))) × (Unit))) : life_Told.r0 K (n + 1) x = life_Told.t0 K (life_Told.r0 K n) x := by kernel_rfl
theorem life_Told.e0 (K n : Nat) : life_Told.r0 K n = life_Told.l0 K n := by
  induction n with
  | zero => funext x; rfl
  | succ n ih => funext x; rw [life_Told.s0, ih]; rfl
noncomputable def life_Told.r1 (K : Nat) : Nat → (((Int) × ((List (List UInt8)) × ((Int) × ((Int) × (Unit))))) × (Unit)) → Option ((((Int) × (Unit)) × (Unit))) :=
  loopV [(.exit 0, { regs := [(3, (.int .i64))] })] { regs := [(3, (.int .i64)), (14, (.list .str)), (15, (.int .i64)), (16, (.int .i64))] } (interp (life_Told.env.at K) life_Told.hint (callF (life_Told.env.at K) 7) (Code.sub [1, 1, 0, 1, 0, 0] (Tryz.f47.body.getD .skip)) _)
theorem life_Told.s1 (K n : Nat) (x : (((Int) × ((List (List UInt8)) × ((Int) × ((Int) × (Unit))))) × (Unit))) : life_Told.r1 K (n + 1) x = life_Told.t1 (life_Told.r0 K) K (life_Told.r1 K n) x := by kernel_rfl
theorem life_Told.e1 (K n : Nat) : life_Told.r1 K n = life_Told.l1 K n := by
  induction n with
  | zero => funext x; rfl
  | succ n ih => funext x; rw [life_Told.s1, ih, show life_Told.r0 K = life_Told.l0 K from funext (life_Told.e0 K)]; rfl
theorem life_Told.body_eq (K : Nat) (x : life_Told.spec.args.den) : body (life_Told.env.at K) 8 47 life_Told.spec x = life_Told.tr (life_Told.r1 K) K x.1 := by kernel_rfl
theorem life_Told.contract : Contract Tryz.prog gl 47 life_Told.spec :=
  contract_of (E := life_Told.env) ⟨TIok_of tiOK, FnsOK_of ⟨⟨Tryz.func47, Tryz.call47⟩, trivial⟩, mixed⟩ (SpecsOK_of (E := life_Told.env) ⟨fields_All.contract, items_Split.contract, decimal_Seconds.contract, life_greatest.contract, trivial⟩) Tryz.call47 rfl rfl fun K x r h => by
    rw [life_Told.body_eq, show life_Told.r1 K = life_Told.l1 K from funext (life_Told.e1 K)]; exact h

def life_Date.spec : Dp.Spec := { args := (.scons (.scons (.scons (.int .i64) (.scons .str (.scons (.int .i64) (.scons (.list (.scons .str (.scons .str .snil))) (.scons .str .snil))))) (.scons (.int .i64) (.scons (.list (.scons .str (.scons .bool (.scons .str .snil)))) .snil))) .snil), res := (.int .i64), own := false, F := fun K x => life_Date K x.1 }
def life_Date.hint : Dp.Hint := { n := 16, imm := [1] }
noncomputable def life_Date.env : Dp.Env := { ti := ti, gl := gl, fns := [(45, Tryz.f45, life_Date.hint)], specs := [(43, life_When.spec)], K := 0 }
theorem life_Date.body_eq (K : Nat) (x : life_Date.spec.args.den) : body (life_Date.env.at K) 8 45 life_Date.spec x = life_Date K x.1 := by kernel_rfl
theorem life_Date.contract : Contract Tryz.prog gl 45 life_Date.spec :=
  contract_of (E := life_Date.env) ⟨TIok_of tiOK, FnsOK_of ⟨⟨Tryz.func45, Tryz.call45⟩, trivial⟩, mixed⟩ (SpecsOK_of (E := life_Date.env) ⟨life_When.contract, trivial⟩) Tryz.call45 rfl rfl fun K x r h => by
    rw [life_Date.body_eq]; exact h

def life_clock.spec : Dp.Spec := { args := (.scons (.int .i64) .snil), res := (.int .i64), own := false, F := fun K x => life_clock K x.1 }
def life_clock.hint : Dp.Hint := { n := 7 }
noncomputable def life_clock.env : Dp.Env := { ti := ti, gl := gl, fns := [(115, Tryz.f115, life_clock.hint)], specs := [(81, life_greatest.spec)], K := 0 }
theorem life_clock.body_eq (K : Nat) (x : life_clock.spec.args.den) : body (life_clock.env.at K) 8 115 life_clock.spec x = life_clock K x.1 := by kernel_rfl
theorem life_clock.contract : Contract Tryz.prog gl 115 life_clock.spec :=
  contract_of (E := life_clock.env) ⟨TIok_of tiOK, FnsOK_of ⟨⟨Tryz.func115, Tryz.call115⟩, trivial⟩, mixed⟩ (SpecsOK_of (E := life_clock.env) ⟨life_greatest.contract, trivial⟩) Tryz.call115 rfl rfl fun K x r h => by
    rw [life_clock.body_eq]; exact h

def life_apart.spec : Dp.Spec := { args := (.scons (.int .i64) (.scons (.int .i64) .snil)), res := (.int .i64), own := false, F := fun K x => life_apart K x.1 x.2.1 }
def life_apart.hint : Dp.Hint := { n := 13 }
noncomputable def life_apart.env : Dp.Env := { ti := ti, gl := gl, fns := [(82, Tryz.f82, life_apart.hint)], specs := [(81, life_greatest.spec), (115, life_clock.spec)], K := 0 }
theorem life_apart.body_eq (K : Nat) (x : life_apart.spec.args.den) : body (life_apart.env.at K) 8 82 life_apart.spec x = life_apart K x.1 x.2.1 := by kernel_rfl
theorem life_apart.contract : Contract Tryz.prog gl 82 life_apart.spec :=
  contract_of (E := life_apart.env) ⟨TIok_of tiOK, FnsOK_of ⟨⟨Tryz.func82, Tryz.call82⟩, trivial⟩, mixed⟩ (SpecsOK_of (E := life_apart.env) ⟨life_greatest.contract, life_clock.contract, trivial⟩) Tryz.call82 rfl rfl fun K x r h => by
    rw [life_apart.body_eq]; exact h

def decimal_held.spec : Dp.Spec := { args := (.scons (.int .i64) .snil), res := (.int .i64), own := false, F := fun K x => decimal_held K x.1 }
def decimal_held.hint : Dp.Hint := { n := 7 }
noncomputable def decimal_held.env : Dp.Env := { ti := ti, gl := gl, fns := [(114, Tryz.f114, decimal_held.hint)], specs := [(129, decimal_least.spec)], K := 0 }
theorem decimal_held.body_eq (K : Nat) (x : decimal_held.spec.args.den) : body (decimal_held.env.at K) 8 114 decimal_held.spec x = decimal_held K x.1 := by kernel_rfl
theorem decimal_held.contract : Contract Tryz.prog gl 114 decimal_held.spec :=
  contract_of (E := decimal_held.env) ⟨TIok_of tiOK, FnsOK_of ⟨⟨Tryz.func114, Tryz.call114⟩, trivial⟩, mixed⟩ (SpecsOK_of (E := decimal_held.env) ⟨decimal_least.contract, trivial⟩) Tryz.call114 rfl rfl fun K x r h => by
    rw [decimal_held.body_eq]; exact h

def decimal_Add.spec : Dp.Spec := { args := (.scons (.int .i64) (.scons (.int .i64) .snil)), res := (.int .i64), own := false, F := fun K x => decimal_Add K x.1 x.2.1 }
def decimal_Add.hint : Dp.Hint := { n := 11 }
noncomputable def decimal_Add.env : Dp.Env := { ti := ti, gl := gl, fns := [(80, Tryz.f80, decimal_Add.hint)], specs := [(114, decimal_held.spec)], K := 0 }
theorem decimal_Add.body_eq (K : Nat) (x : decimal_Add.spec.args.den) : body (decimal_Add.env.at K) 8 80 decimal_Add.spec x = decimal_Add K x.1 x.2.1 := by kernel_rfl
theorem decimal_Add.contract : Contract Tryz.prog gl 80 decimal_Add.spec :=
  contract_of (E := decimal_Add.env) ⟨TIok_of tiOK, FnsOK_of ⟨⟨Tryz.func80, Tryz.call80⟩, trivial⟩, mixed⟩ (SpecsOK_of (E := decimal_Add.env) ⟨decimal_held.contract, trivial⟩) Tryz.call80 rfl rfl fun K x r h => by
    rw [decimal_Add.body_eq]; exact h

def life_Age.spec : Dp.Spec := { args := (.scons (.scons (.scons (.int .i64) (.scons .str (.scons (.int .i64) (.scons (.list (.scons .str (.scons .str .snil))) (.scons .str .snil))))) (.scons (.int .i64) (.scons (.list (.scons .str (.scons .bool (.scons .str .snil)))) .snil))) (.scons (.int .i64) .snil)), res := (.int .i64), own := false, F := fun K x => life_Age K x.1 x.2.1 }
def life_Age.hint : Dp.Hint := { n := 20, imm := [2] }
noncomputable def life_Age.env : Dp.Env := { ti := ti, gl := gl, fns := [(35, Tryz.f35, life_Age.hint)], specs := [(81, life_greatest.spec), (47, life_Told.spec), (45, life_Date.spec), (82, life_apart.spec), (80, decimal_Add.spec)], K := 0 }
theorem life_Age.body_eq (K : Nat) (x : life_Age.spec.args.den) : body (life_Age.env.at K) 8 35 life_Age.spec x = life_Age K x.1 x.2.1 := by kernel_rfl
theorem life_Age.contract : Contract Tryz.prog gl 35 life_Age.spec :=
  contract_of (E := life_Age.env) ⟨TIok_of tiOK, FnsOK_of ⟨⟨Tryz.func35, Tryz.call35⟩, trivial⟩, mixed⟩ (SpecsOK_of (E := life_Age.env) ⟨life_greatest.contract, life_Told.contract, life_Date.contract, life_apart.contract, decimal_Add.contract, trivial⟩) Tryz.call35 rfl rfl fun K x r h => by
    rw [life_Age.body_eq]; exact h

def octet_Cut.spec : Dp.Spec := { args := (.scons .str (.scons (.int .u8) .snil)), res := (.tup (.scons .str (.scons .str (.scons .bool .snil)))), own := false, F := fun K x => octet_Cut K x.1 x.2.1 }
def octet_Cut.hint : Dp.Hint := { n := 21 }
noncomputable def octet_Cut.env : Dp.Env := { ti := ti, gl := gl, fns := [(133, Tryz.f133, octet_Cut.hint)], specs := [(118, strings_IndexByte.spec)], K := 0 }
theorem octet_Cut.body_eq (K : Nat) (x : octet_Cut.spec.args.den) : body (octet_Cut.env.at K) 8 133 octet_Cut.spec x = octet_Cut K x.1 x.2.1 := by kernel_rfl
theorem octet_Cut.contract : Contract Tryz.prog gl 133 octet_Cut.spec :=
  contract_of (E := octet_Cut.env) ⟨TIok_of tiOK, FnsOK_of ⟨⟨Tryz.func133, Tryz.call133⟩, trivial⟩, mixed⟩ (SpecsOK_of (E := octet_Cut.env) ⟨strings_IndexByte.contract, trivial⟩) Tryz.call133 rfl rfl fun K x r h => by
    rw [octet_Cut.body_eq]; exact h

def octet_oneOf.spec : Dp.Spec := { args := (.scons .str .snil), res := (.fn 199 (.scons (.ref .str) .snil)), own := false, F := fun K x => octet_oneOf K x.1 }
def octet_oneOf.hint : Dp.Hint := { n := 4, imm := [1] }
noncomputable def octet_oneOf.env : Dp.Env := { ti := ti, gl := gl, fns := [(155, Tryz.f155, octet_oneOf.hint)], specs := [], K := 0 }
theorem octet_oneOf.body_eq (K : Nat) (x : octet_oneOf.spec.args.den) : body (octet_oneOf.env.at K) 8 155 octet_oneOf.spec x = octet_oneOf K x.1 := by kernel_rfl
theorem octet_oneOf.contract : Contract Tryz.prog gl 155 octet_oneOf.spec :=
  contract_of (E := octet_oneOf.env) ⟨TIok_of tiOK, FnsOK_of ⟨⟨Tryz.func155, Tryz.call155⟩, trivial⟩, mixed⟩ (SpecsOK_of (E := octet_oneOf.env) trivial) Tryz.call155 rfl rfl fun K x r h => by
    rw [octet_oneOf.body_eq]; exact h

def octet_is__from_c1.spec : Dp.Spec := { args := (.scons (.int .u8) (.scons (.hl (.scons (.fn 156 (.scons (.ref (.int .u8)) (.scons (.ref (.int .u8)) .snil))) .snil)) .snil)), res := .bool, own := false, F := fun K x => octet_is__from_c1 K x.1 x.2.1 }
def octet_is__from_c1.hint : Dp.Hint := { n := 17 }
noncomputable def octet_is__from_c1.env : Dp.Env := { ti := ti, gl := gl, fns := [(153, Tryz.f153, octet_is__from_c1.hint)], specs := [(156, octet_from_c1.spec)], K := 0 }
theorem octet_is__from_c1.body_eq (K : Nat) (x : octet_is__from_c1.spec.args.den) : body (octet_is__from_c1.env.at K) 8 153 octet_is__from_c1.spec x = octet_is__from_c1 K x.1 x.2.1 := by kernel_rfl
theorem octet_is__from_c1.contract : Contract Tryz.prog gl 153 octet_is__from_c1.spec :=
  contract_of (E := octet_is__from_c1.env) ⟨TIok_of tiOK, FnsOK_of ⟨⟨Tryz.func153, Tryz.call153⟩, trivial⟩, mixed⟩ (SpecsOK_of (E := octet_is__from_c1.env) ⟨octet_from_c1.contract, trivial⟩) Tryz.call153 rfl rfl fun K x r h => by
    rw [octet_is__from_c1.body_eq]; exact h

def octet_Digit.spec : Dp.Spec := { args := (.scons (.int .u8) .snil), res := .bool, own := false, F := fun K x => octet_Digit K x.1 }
def octet_Digit.hint : Dp.Hint := { n := 7 }
noncomputable def octet_Digit.env : Dp.Env := { ti := ti, gl := gl, fns := [(154, Tryz.f154, octet_Digit.hint)], specs := [(107, octet_from.spec), (153, octet_is__from_c1.spec)], K := 0 }
theorem octet_Digit.body_eq (K : Nat) (x : octet_Digit.spec.args.den) : body (octet_Digit.env.at K) 8 154 octet_Digit.spec x = octet_Digit K x.1 := by kernel_rfl
theorem octet_Digit.contract : Contract Tryz.prog gl 154 octet_Digit.spec :=
  contract_of (E := octet_Digit.env) ⟨TIok_of tiOK, FnsOK_of ⟨⟨Tryz.func154, Tryz.call154⟩, trivial⟩, mixed⟩ (SpecsOK_of (E := octet_Digit.env) ⟨octet_from.contract, octet_is__from_c1.contract, trivial⟩) Tryz.call154 rfl rfl fun K x r h => by
    rw [octet_Digit.body_eq]; exact h

def octet_oneOf_c1.spec : Dp.Spec := { args := (.scons (.int .u8) (.scons (.ref .str) .snil)), res := .bool, own := false, F := fun K x => octet_oneOf_c1 K x.1 x.2.1 }
def octet_oneOf_c1.hint : Dp.Hint := { n := 8 }
noncomputable def octet_oneOf_c1.env : Dp.Env := { ti := ti, gl := gl, fns := [(199, Tryz.f199, octet_oneOf_c1.hint)], specs := [(118, strings_IndexByte.spec)], K := 0 }
theorem octet_oneOf_c1.body_eq (K : Nat) (x : octet_oneOf_c1.spec.args.den) : body (octet_oneOf_c1.env.at K) 8 199 octet_oneOf_c1.spec x = octet_oneOf_c1 K x.1 x.2.1 := by kernel_rfl
theorem octet_oneOf_c1.contract : Contract Tryz.prog gl 199 octet_oneOf_c1.spec :=
  contract_of (E := octet_oneOf_c1.env) ⟨TIok_of tiOK, FnsOK_of ⟨⟨Tryz.func199, Tryz.call199⟩, trivial⟩, mixed⟩ (SpecsOK_of (E := octet_oneOf_c1.env) ⟨strings_IndexByte.contract, trivial⟩) Tryz.call199 rfl rfl fun K x r h => by
    rw [octet_oneOf_c1.body_eq]; exact h

def octet_is__Digit_from_c1_from_c1_oneOf_c1.spec : Dp.Spec := { args := (.scons (.int .u8) (.scons (.hl (.scons (.fn 154 .snil) (.scons (.fn 156 (.scons (.ref (.int .u8)) (.scons (.ref (.int .u8)) .snil))) (.scons (.fn 156 (.scons (.ref (.int .u8)) (.scons (.ref (.int .u8)) .snil))) (.scons (.fn 199 (.scons (.ref .str) .snil)) .snil))))) .snil)), res := .bool, own := false, F := fun K x => octet_is__Digit_from_c1_from_c1_oneOf_c1 K x.1 x.2.1 }
def octet_is__Digit_from_c1_from_c1_oneOf_c1.hint : Dp.Hint := { n := 17 }
noncomputable def octet_is__Digit_from_c1_from_c1_oneOf_c1.env : Dp.Env := { ti := ti, gl := gl, fns := [(153, Tryz.f153, octet_is__Digit_from_c1_from_c1_oneOf_c1.hint)], specs := [(156, octet_from_c1.spec), (154, octet_Digit.spec), (199, octet_oneOf_c1.spec)], K := 0 }
theorem octet_is__Digit_from_c1_from_c1_oneOf_c1.body_eq (K : Nat) (x : octet_is__Digit_from_c1_from_c1_oneOf_c1.spec.args.den) : body (octet_is__Digit_from_c1_from_c1_oneOf_c1.env.at K) 8 153 octet_is__Digit_from_c1_from_c1_oneOf_c1.spec x = octet_is__Digit_from_c1_from_c1_oneOf_c1 K x.1 x.2.1 := by kernel_rfl
theorem octet_is__Digit_from_c1_from_c1_oneOf_c1.contract : Contract Tryz.prog gl 153 octet_is__Digit_from_c1_from_c1_oneOf_c1.spec :=
  contract_of (E := octet_is__Digit_from_c1_from_c1_oneOf_c1.env) ⟨TIok_of tiOK, FnsOK_of ⟨⟨Tryz.func153, Tryz.call153⟩, trivial⟩, mixed⟩ (SpecsOK_of (E := octet_is__Digit_from_c1_from_c1_oneOf_c1.env) ⟨octet_from_c1.contract, octet_Digit.contract, octet_oneOf_c1.contract, trivial⟩) Tryz.call153 rfl rfl fun K x r h => by
    rw [octet_is__Digit_from_c1_from_c1_oneOf_c1.body_eq]; exact h

def octet_Token.spec : Dp.Spec := { args := (.scons (.int .u8) .snil), res := .bool, own := false, F := fun K x => octet_Token K x.1 }
def octet_Token.hint : Dp.Hint := { n := 9 }
noncomputable def octet_Token.env : Dp.Env := { ti := ti, gl := gl, fns := [(106, Tryz.f106, octet_Token.hint)], specs := [(107, octet_from.spec), (155, octet_oneOf.spec), (153, octet_is__Digit_from_c1_from_c1_oneOf_c1.spec)], K := 0 }
theorem octet_Token.body_eq (K : Nat) (x : octet_Token.spec.args.den) : body (octet_Token.env.at K) 8 106 octet_Token.spec x = octet_Token K x.1 := by kernel_rfl
theorem octet_Token.contract : Contract Tryz.prog gl 106 octet_Token.spec :=
  contract_of (E := octet_Token.env) ⟨TIok_of tiOK, FnsOK_of ⟨⟨Tryz.func106, Tryz.call106⟩, trivial⟩, mixed⟩ (SpecsOK_of (E := octet_Token.env) ⟨octet_from.contract, octet_oneOf.contract, octet_is__Digit_from_c1_from_c1_oneOf_c1.contract, trivial⟩) Tryz.call106 rfl rfl fun K x r h => by
    rw [octet_Token.body_eq]; exact h

def octet_all__Token.spec : Dp.Spec := { args := (.scons .str (.scons (.fn 106 .snil) .snil)), res := .bool, own := false, F := fun K x => octet_all__Token K x.1 }
def octet_all__Token.hint : Dp.Hint := { n := 19, loops := [(2, { regs := [(1, (.fn 106 .snil)), (8, (.list (.int .u8))), (9, (.int .i64)), (10, (.int .i64))] }, [(.exit 0, { regs := [] }), (.ret, { regs := [(4, .bool)] })])] }
noncomputable def octet_all__Token.env : Dp.Env := { ti := ti, gl := gl, fns := [(105, Tryz.f105, octet_all__Token.hint)], specs := [(106, octet_Token.spec)], K := 0 }
noncomputable def octet_all__Token.r0 (K : Nat) : Nat → (((Unit) × ((List (Int)) × ((Int) × ((Int) × (Unit))))) × (Unit)) → Option (((Unit) × (Unit)) ⊕ (((Bool) × (Unit)) × (Unit))) :=
  loopV [(.exit 0, { regs := [] }), (.ret, { regs := [(4, .bool)] })] { regs := [(1, (.fn 106 .snil)), (8, (.list (.int .u8))), (9, (.int .i64)), (10, (.int .i64))] } (interp (octet_all__Token.env.at K) octet_all__Token.hint (callF (octet_all__Token.env.at K) 7) (Code.sub [1, 0, 1, 0, 0] (Tryz.f105.body.getD .skip)) _)
theorem octet_all__Token.s0 (K n : Nat) (x : (((Unit) × ((List (Int)) × ((Int) × ((Int) × (Unit))))) × (Unit))) : octet_all__Token.r0 K (n + 1) x = octet_all__Token.t0 K (octet_all__Token.r0 K n) x := by kernel_rfl
theorem octet_all__Token.e0 (K n : Nat) : octet_all__Token.r0 K n = octet_all__Token.l0 K n := by
  induction n with
  | zero => funext x; rfl
  | succ n ih => funext x; rw [octet_all__Token.s0, ih]; rfl
theorem octet_all__Token.body_eq (K : Nat) (x : octet_all__Token.spec.args.den) : body (octet_all__Token.env.at K) 8 105 octet_all__Token.spec x = octet_all__Token.tr (octet_all__Token.r0 K) K x.1 := by kernel_rfl
theorem octet_all__Token.contract : Contract Tryz.prog gl 105 octet_all__Token.spec :=
  contract_of (E := octet_all__Token.env) ⟨TIok_of tiOK, FnsOK_of ⟨⟨Tryz.func105, Tryz.call105⟩, trivial⟩, mixed⟩ (SpecsOK_of (E := octet_all__Token.env) ⟨octet_Token.contract, trivial⟩) Tryz.call105 rfl rfl fun K x r h => by
    rw [octet_all__Token.body_eq, show octet_all__Token.r0 K = octet_all__Token.l0 K from funext (octet_all__Token.e0 K)]; exact h

def octet_IsToken.spec : Dp.Spec := { args := (.scons .str .snil), res := .bool, own := false, F := fun K x => octet_IsToken K x.1 }
def octet_IsToken.hint : Dp.Hint := { n := 9 }
noncomputable def octet_IsToken.env : Dp.Env := { ti := ti, gl := gl, fns := [(70, Tryz.f70, octet_IsToken.hint)], specs := [(105, octet_all__Token.spec)], K := 0 }
theorem octet_IsToken.body_eq (K : Nat) (x : octet_IsToken.spec.args.den) : body (octet_IsToken.env.at K) 8 70 octet_IsToken.spec x = octet_IsToken K x.1 := by kernel_rfl
theorem octet_IsToken.contract : Contract Tryz.prog gl 70 octet_IsToken.spec :=
  contract_of (E := octet_IsToken.env) ⟨TIok_of tiOK, FnsOK_of ⟨⟨Tryz.func70, Tryz.call70⟩, trivial⟩, mixed⟩ (SpecsOK_of (E := octet_IsToken.env) ⟨octet_all__Token.contract, trivial⟩) Tryz.call70 rfl rfl fun K x r h => by
    rw [octet_IsToken.body_eq]; exact h

def items_Param.spec : Dp.Spec := { args := (.scons .str .snil), res := (.tup (.scons .str (.scons .str (.scons .bool (.scons (.int .i64) .snil))))), own := false, F := fun K x => items_Param K x.1 }
def items_Param.hint : Dp.Hint := { n := 39, conds := [(25, [(.normal, { regs := [(6, .str), (7, .str), (8, .bool)] }), (.ret, { regs := [(2, .str), (3, .str), (4, .bool), (5, (.int .i64))] })])], regions := [(4, [(.normal, { regs := [(6, .str), (7, .str), (8, .bool), (25, .bool)] })])] }
noncomputable def items_Param.env : Dp.Env := { ti := ti, gl := gl, fns := [(94, Tryz.f94, items_Param.hint)], specs := [(71, octet_Lower.spec), (133, octet_Cut.spec), (70, octet_IsToken.spec), (134, items_Unquote.spec)], K := 0 }
theorem items_Param.body_eq (K : Nat) (x : items_Param.spec.args.den) : body (items_Param.env.at K) 8 94 items_Param.spec x = items_Param K x.1 := by kernel_rfl
theorem items_Param.contract : Contract Tryz.prog gl 94 items_Param.spec :=
  contract_of (E := items_Param.env) ⟨TIok_of tiOK, FnsOK_of ⟨⟨Tryz.func94, Tryz.call94⟩, trivial⟩, mixed⟩ (SpecsOK_of (E := items_Param.env) ⟨octet_Lower.contract, octet_Cut.contract, octet_IsToken.contract, items_Unquote.contract, trivial⟩) Tryz.call94 rfl rfl fun K x r h => by
    rw [items_Param.body_eq]; exact h

def control_directives.spec : Dp.Spec := { args := .snil, res := (.list (.scons .str (.scons (.fnu [135, 136, 137, 138, 139, 140, 141, 142, 144, 145]) .snil))), own := false, F := fun K x => control_directives K }
def control_directives.hint : Dp.Hint := { n := 12 }
noncomputable def control_directives.env : Dp.Env := { ti := ti, gl := gl, fns := [(95, Tryz.f95, control_directives.hint)], specs := [], K := 0 }
theorem control_directives.body_eq (K : Nat) (x : control_directives.spec.args.den) : body (control_directives.env.at K) 8 95 control_directives.spec x = control_directives K := by kernel_rfl
theorem control_directives.contract : Contract Tryz.prog gl 95 control_directives.spec :=
  contract_of (E := control_directives.env) ⟨TIok_of tiOK, FnsOK_of ⟨⟨Tryz.func95, Tryz.call95⟩, trivial⟩, mixed⟩ (SpecsOK_of (E := control_directives.env) trivial) Tryz.call95 rfl rfl fun K x r h => by
    rw [control_directives.body_eq]; exact h

def control_seconds.spec : Dp.Spec := { args := (.scons .str (.scons (.int .i64) .snil)), res := (.int .i64), own := false, F := fun K x => control_seconds K x.1 x.2.1 }
def control_seconds.hint : Dp.Hint := { n := 16 }
noncomputable def control_seconds.env : Dp.Env := { ti := ti, gl := gl, fns := [(143, Tryz.f143, control_seconds.hint)], specs := [(90, decimal_Seconds.spec)], K := 0 }
theorem control_seconds.body_eq (K : Nat) (x : control_seconds.spec.args.den) : body (control_seconds.env.at K) 8 143 control_seconds.spec x = control_seconds K x.1 x.2.1 := by kernel_rfl
theorem control_seconds.contract : Contract Tryz.prog gl 143 control_seconds.spec :=
  contract_of (E := control_seconds.env) ⟨TIok_of tiOK, FnsOK_of ⟨⟨Tryz.func143, Tryz.call143⟩, trivial⟩, mixed⟩ (SpecsOK_of (E := control_seconds.env) ⟨decimal_Seconds.contract, trivial⟩) Tryz.call143 rfl rfl fun K x r h => by
    rw [control_seconds.body_eq]; exact h

def control_Least.spec : Dp.Spec := { args := (.scons (.int .i64) (.scons (.int .i64) .snil)), res := (.int .i64), own := false, F := fun K x => control_Least K x.1 x.2.1 }
def control_Least.hint : Dp.Hint := { n := 23, regions := [(1, [(.normal, { regs := [(0, (.int .i64)), (1, (.int .i64)), (5, .bool)] })])] }
noncomputable def control_Least.env : Dp.Env := { ti := ti, gl := gl, fns := [(19, Tryz.f19, control_Least.hint)], specs := [], K := 0 }
theorem control_Least.body_eq (K : Nat) (x : control_Least.spec.args.den) : body (control_Least.env.at K) 8 19 control_Least.spec x = control_Least K x.1 x.2.1 := by kernel_rfl
theorem control_Least.contract : Contract Tryz.prog gl 19 control_Least.spec :=
  contract_of (E := control_Least.env) ⟨TIok_of tiOK, FnsOK_of ⟨⟨Tryz.func19, Tryz.call19⟩, trivial⟩, mixed⟩ (SpecsOK_of (E := control_Least.env) trivial) Tryz.call19 rfl rfl fun K x r h => by
    rw [control_Least.body_eq]; exact h

def control_Parse.spec : Dp.Spec := { args := (.scons (.list (.scons .str (.scons .str .snil))) .snil), res := (.scons .bool (.scons .bool (.scons .bool (.scons .bool (.scons .bool (.scons .bool (.scons (.int .i64) (.scons (.int .i64) (.scons (.int .i64) .snil))))))))), own := false, F := fun K x => control_Parse K x.1 }
def control_Parse.hint : Dp.Hint := { n := 25, conds := [(12, [(.normal, { regs := [(2, (.loc 0 false [])), (3, (.loc 1 false []))], heap := [(.scons .bool (.scons .bool (.scons .bool (.scons .bool (.scons .bool (.scons .bool (.scons (.int .i64) (.scons (.int .i64) (.scons (.int .i64) .snil))))))))), (.scons (.scons .bool (.scons .bool (.scons .bool (.scons .bool (.scons .bool (.scons .bool (.scons (.int .i64) (.scons (.int .i64) (.scons (.int .i64) .snil))))))))) .snil)] })])] }
def control_Parse.hint52 : Dp.Hint := { n := 40, regions := [(6, [(.normal, { regs := [(1, (.bm 54 (.scons (.loc 1 false []) .snil))), (5, .bool), (8, (.list .str)), (12, (.list .str)), (13, (.int .i64)), (14, (.int .i64))], heap := [(.scons .bool (.scons .bool (.scons .bool (.scons .bool (.scons .bool (.scons .bool (.scons (.int .i64) (.scons (.int .i64) (.scons (.int .i64) .snil))))))))), (.scons (.scons .bool (.scons .bool (.scons .bool (.scons .bool (.scons .bool (.scons .bool (.scons (.int .i64) (.scons (.int .i64) (.scons (.int .i64) .snil))))))))) .snil)] })]), (10, [(.normal, { regs := [(1, (.bm 54 (.scons (.loc 1 false []) .snil))), (5, .bool), (12, (.list .str)), (13, (.int .i64)), (14, (.int .i64)), (28, (.list .str)), (29, (.int .i64)), (30, (.int .i64))], heap := [(.scons .bool (.scons .bool (.scons .bool (.scons .bool (.scons .bool (.scons .bool (.scons (.int .i64) (.scons (.int .i64) (.scons (.int .i64) .snil))))))))), (.scons (.scons .bool (.scons .bool (.scons .bool (.scons .bool (.scons .bool (.scons .bool (.scons (.int .i64) (.scons (.int .i64) (.scons (.int .i64) .snil))))))))) .snil)] })])], loops := [(3, { regs := [(1, (.bm 54 (.scons (.loc 1 false []) .snil))), (5, .bool), (12, (.list .str)), (13, (.int .i64)), (14, (.int .i64))], heap := [(.scons .bool (.scons .bool (.scons .bool (.scons .bool (.scons .bool (.scons .bool (.scons (.int .i64) (.scons (.int .i64) (.scons (.int .i64) .snil))))))))), (.scons (.scons .bool (.scons .bool (.scons .bool (.scons .bool (.scons .bool (.scons .bool (.scons (.int .i64) (.scons (.int .i64) (.scons (.int .i64) .snil))))))))) .snil)] }, [(.exit 0, { regs := [(5, .bool)], heap := [(.scons .bool (.scons .bool (.scons .bool (.scons .bool (.scons .bool (.scons .bool (.scons (.int .i64) (.scons (.int .i64) (.scons (.int .i64) .snil))))))))), (.scons (.scons .bool (.scons .bool (.scons .bool (.scons .bool (.scons .bool (.scons .bool (.scons (.int .i64) (.scons (.int .i64) (.scons (.int .i64) .snil))))))))) .snil)] })]), (8, { regs := [(1, (.bm 54 (.scons (.loc 1 false []) .snil))), (5, .bool), (12, (.list .str)), (13, (.int .i64)), (14, (.int .i64)), (28, (.list .str)), (29, (.int .i64)), (30, (.int .i64))], heap := [(.scons .bool (.scons .bool (.scons .bool (.scons .bool (.scons .bool (.scons .bool (.scons (.int .i64) (.scons (.int .i64) (.scons (.int .i64) .snil))))))))), (.scons (.scons .bool (.scons .bool (.scons .bool (.scons .bool (.scons .bool (.scons .bool (.scons (.int .i64) (.scons (.int .i64) (.scons (.int .i64) .snil))))))))) .snil)] }, [(.exit 2, { regs := [(1, (.bm 54 (.scons (.loc 1 false []) .snil))), (5, .bool), (12, (.list .str)), (13, (.int .i64)), (14, (.int .i64))], heap := [(.scons .bool (.scons .bool (.scons .bool (.scons .bool (.scons .bool (.scons .bool (.scons (.int .i64) (.scons (.int .i64) (.scons (.int .i64) .snil))))))))), (.scons (.scons .bool (.scons .bool (.scons .bool (.scons .bool (.scons .bool (.scons .bool (.scons (.int .i64) (.scons (.int .i64) (.scons (.int .i64) .snil))))))))) .snil)] })])] }
def control_Parse.hint54 : Dp.Hint := { n := 35, conds := [(28, [(.normal, { regs := [(0, (.loc 1 false [])), (4, .str), (5, .str), (19, (.list (.scons .str (.scons (.fnu [135, 136, 137, 138, 139, 140, 141, 142, 144, 145]) .snil)))), (20, (.int .i64)), (21, (.int .i64))], heap := [(.scons .bool (.scons .bool (.scons .bool (.scons .bool (.scons .bool (.scons .bool (.scons (.int .i64) (.scons (.int .i64) (.scons (.int .i64) .snil))))))))), (.scons (.scons .bool (.scons .bool (.scons .bool (.scons .bool (.scons .bool (.scons .bool (.scons (.int .i64) (.scons (.int .i64) (.scons (.int .i64) .snil))))))))) .snil), (.scons .str (.scons (.fnu [135, 136, 137, 138, 139, 140, 141, 142, 144, 145]) .snil))] })])], regions := [(6, [(.normal, { regs := [(0, (.loc 1 false [])), (4, .str), (5, .str), (19, (.list (.scons .str (.scons (.fnu [135, 136, 137, 138, 139, 140, 141, 142, 144, 145]) .snil)))), (20, (.int .i64)), (21, (.int .i64))], heap := [(.scons .bool (.scons .bool (.scons .bool (.scons .bool (.scons .bool (.scons .bool (.scons (.int .i64) (.scons (.int .i64) (.scons (.int .i64) .snil))))))))), (.scons (.scons .bool (.scons .bool (.scons .bool (.scons .bool (.scons .bool (.scons .bool (.scons (.int .i64) (.scons (.int .i64) (.scons (.int .i64) .snil))))))))) .snil), (.scons .str (.scons (.fnu [135, 136, 137, 138, 139, 140, 141, 142, 144, 145]) .snil))] })])], loops := [(3, { regs := [(0, (.loc 1 false [])), (4, .str), (5, .str), (19, (.list (.scons .str (.scons (.fnu [135, 136, 137, 138, 139, 140, 141, 142, 144, 145]) .snil)))), (20, (.int .i64)), (21, (.int .i64))], heap := [(.scons .bool (.scons .bool (.scons .bool (.scons .bool (.scons .bool (.scons .bool (.scons (.int .i64) (.scons (.int .i64) (.scons (.int .i64) .snil))))))))), (.scons (.scons .bool (.scons .bool (.scons .bool (.scons .bool (.scons .bool (.scons .bool (.scons (.int .i64) (.scons (.int .i64) (.scons (.int .i64) .snil))))))))) .snil)] }, [(.exit 0, { regs := [], heap := [(.scons .bool (.scons .bool (.scons .bool (.scons .bool (.scons .bool (.scons .bool (.scons (.int .i64) (.scons (.int .i64) (.scons (.int .i64) .snil))))))))), (.scons (.scons .bool (.scons .bool (.scons .bool (.scons .bool (.scons .bool (.scons .bool (.scons (.int .i64) (.scons (.int .i64) (.scons (.int .i64) .snil))))))))) .snil)] })])] }
def control_Parse.hint135 : Dp.Hint := { n := 8 }
def control_Parse.hint136 : Dp.Hint := { n := 8 }
def control_Parse.hint137 : Dp.Hint := { n := 8 }
def control_Parse.hint138 : Dp.Hint := { n := 8 }
def control_Parse.hint139 : Dp.Hint := { n := 8 }
def control_Parse.hint140 : Dp.Hint := { n := 8 }
def control_Parse.hint141 : Dp.Hint := { n := 8 }
def control_Parse.hint142 : Dp.Hint := { n := 16 }
def control_Parse.hint144 : Dp.Hint := { n := 16 }
def control_Parse.hint145 : Dp.Hint := { n := 16 }
noncomputable def control_Parse.env : Dp.Env := { ti := ti, gl := gl, fns := [(13, Tryz.f13, control_Parse.hint), (52, Tryz.f52, control_Parse.hint52), (54, Tryz.f54, control_Parse.hint54), (135, Tryz.f135, control_Parse.hint135), (136, Tryz.f136, control_Parse.hint136), (137, Tryz.f137, control_Parse.hint137), (138, Tryz.f138, control_Parse.hint138), (139, Tryz.f139, control_Parse.hint139), (140, Tryz.f140, control_Parse.hint140), (141, Tryz.f141, control_Parse.hint141), (142, Tryz.f142, control_Parse.hint142), (144, Tryz.f144, control_Parse.hint144), (145, Tryz.f145, control_Parse.hint145)], specs := [(53, fields_All.spec), (69, items_Split.spec), (94, items_Param.spec), (95, control_directives.spec), (143, control_seconds.spec), (19, control_Least.spec)], K := 0 }
noncomputable def control_Parse.r0 (K : Nat) : Nat → (((Nat) × ((List UInt8) × ((List UInt8) × ((List ((List UInt8) × ((Nat) × (Unit)))) × ((Int) × ((Int) × (Unit))))))) × (((Bool) × ((Bool) × ((Bool) × ((Bool) × ((Bool) × ((Bool) × ((Int) × ((Int) × ((Int) × (Unit)))))))))) × ((((Bool) × ((Bool) × ((Bool) × ((Bool) × ((Bool) × ((Bool) × ((Int) × ((Int) × ((Int) × (Unit)))))))))) × (Unit)) × (Unit)))) → Option (((Unit) × (((Bool) × ((Bool) × ((Bool) × ((Bool) × ((Bool) × ((Bool) × ((Int) × ((Int) × ((Int) × (Unit)))))))))) × ((((Bool) × ((Bool) × ((Bool) × ((Bool) × ((Bool) × ((Bool) × ((Int) × ((Int) × ((Int) × (Unit)))))))))) × (Unit)) × (Unit))))) :=
  loopV [(.exit 0, { regs := [], heap := [(.scons .bool (.scons .bool (.scons .bool (.scons .bool (.scons .bool (.scons .bool (.scons (.int .i64) (.scons (.int .i64) (.scons (.int .i64) .snil))))))))), (.scons (.scons .bool (.scons .bool (.scons .bool (.scons .bool (.scons .bool (.scons .bool (.scons (.int .i64) (.scons (.int .i64) (.scons (.int .i64) .snil))))))))) .snil)] })] { regs := [(0, (.loc 1 false [])), (4, .str), (5, .str), (19, (.list (.scons .str (.scons (.fnu [135, 136, 137, 138, 139, 140, 141, 142, 144, 145]) .snil)))), (20, (.int .i64)), (21, (.int .i64))], heap := [(.scons .bool (.scons .bool (.scons .bool (.scons .bool (.scons .bool (.scons .bool (.scons (.int .i64) (.scons (.int .i64) (.scons (.int .i64) .snil))))))))), (.scons (.scons .bool (.scons .bool (.scons .bool (.scons .bool (.scons .bool (.scons .bool (.scons (.int .i64) (.scons (.int .i64) (.scons (.int .i64) .snil))))))))) .snil)] } (interp (control_Parse.env.at K) control_Parse.hint54 (callF (control_Parse.env.at K) 5) (Code.sub [1, 1, 1, 0, 0] (Tryz.f54.body.getD .skip)) _)
theorem control_Parse.s0 (K n : Nat) (x : (((Nat) × ((List UInt8) × ((List UInt8) × ((List ((List UInt8) × ((Nat) × (Unit)))) × ((Int) × ((Int) × (Unit))))))) × (((Bool) × ((Bool) × ((Bool) × ((Bool) × ((Bool) × ((Bool) × ((Int) × ((Int) × ((Int) × (Unit)))))))))) × ((((Bool) × ((Bool) × ((Bool) × ((Bool) × ((Bool) × ((Bool) × ((Int) × ((Int) × ((Int) × (Unit)))))))))) × (Unit)) × (Unit))))) : control_Parse.r0 K (n + 1) x = control_Parse.t0 K (control_Parse.r0 K n) x := by kernel_rfl
theorem control_Parse.e0 (K n : Nat) : control_Parse.r0 K n = control_Parse.l0 K n := by
  induction n with
  | zero => funext x; rfl
  | succ n ih => funext x; rw [control_Parse.s0, ih]; rfl
noncomputable def control_Parse.r1 (K : Nat) : Nat → ((((Nat) × (Unit)) × ((Bool) × ((List (List UInt8)) × ((Int) × ((Int) × ((List (List UInt8)) × ((Int) × ((Int) × (Unit))))))))) × (((Bool) × ((Bool) × ((Bool) × ((Bool) × ((Bool) × ((Bool) × ((Int) × ((Int) × ((Int) × (Unit)))))))))) × ((((Bool) × ((Bool) × ((Bool) × ((Bool) × ((Bool) × ((Bool) × ((Int) × ((Int) × ((Int) × (Unit)))))))))) × (Unit)) × (Unit)))) → Option (((((Nat) × (Unit)) × ((Bool) × ((List (List UInt8)) × ((Int) × ((Int) × (Unit)))))) × (((Bool) × ((Bool) × ((Bool) × ((Bool) × ((Bool) × ((Bool) × ((Int) × ((Int) × ((Int) × (Unit)))))))))) × ((((Bool) × ((Bool) × ((Bool) × ((Bool) × ((Bool) × ((Bool) × ((Int) × ((Int) × ((Int) × (Unit)))))))))) × (Unit)) × (Unit))))) :=
  loopV [(.exit 2, { regs := [(1, (.bm 54 (.scons (.loc 1 false []) .snil))), (5, .bool), (12, (.list .str)), (13, (.int .i64)), (14, (.int .i64))], heap := [(.scons .bool (.scons .bool (.scons .bool (.scons .bool (.scons .bool (.scons .bool (.scons (.int .i64) (.scons (.int .i64) (.scons (.int .i64) .snil))))))))), (.scons (.scons .bool (.scons .bool (.scons .bool (.scons .bool (.scons .bool (.scons .bool (.scons (.int .i64) (.scons (.int .i64) (.scons (.int .i64) .snil))))))))) .snil)] })] { regs := [(1, (.bm 54 (.scons (.loc 1 false []) .snil))), (5, .bool), (12, (.list .str)), (13, (.int .i64)), (14, (.int .i64)), (28, (.list .str)), (29, (.int .i64)), (30, (.int .i64))], heap := [(.scons .bool (.scons .bool (.scons .bool (.scons .bool (.scons .bool (.scons .bool (.scons (.int .i64) (.scons (.int .i64) (.scons (.int .i64) .snil))))))))), (.scons (.scons .bool (.scons .bool (.scons .bool (.scons .bool (.scons .bool (.scons .bool (.scons (.int .i64) (.scons (.int .i64) (.scons (.int .i64) .snil))))))))) .snil)] } (interp (control_Parse.env.at K) control_Parse.hint52 (callF (control_Parse.env.at K) 6) (Code.sub [1, 1, 0, 1, 0, 0, 1, 1, 0, 0, 1, 1, 1, 1, 0, 0] (Tryz.f52.body.getD .skip)) _)
theorem control_Parse.s1 (K n : Nat) (x : ((((Nat) × (Unit)) × ((Bool) × ((List (List UInt8)) × ((Int) × ((Int) × ((List (List UInt8)) × ((Int) × ((Int) × (Unit))))))))) × (((Bool) × ((Bool) × ((Bool) × ((Bool) × ((Bool) × ((Bool) × ((Int) × ((Int) × ((Int) × (Unit)))))))))) × ((((Bool) × ((Bool) × ((Bool) × ((Bool) × ((Bool) × ((Bool) × ((Int) × ((Int) × ((Int) × (Unit)))))))))) × (Unit)) × (Unit))))) : control_Parse.r1 K (n + 1) x = control_Parse.t1 (control_Parse.r0 K) K (control_Parse.r1 K n) x := by kernel_rfl
theorem control_Parse.e1 (K n : Nat) : control_Parse.r1 K n = control_Parse.l1 K n := by
  induction n with
  | zero => funext x; rfl
  | succ n ih => funext x; rw [control_Parse.s1, ih, show control_Parse.r0 K = control_Parse.l0 K from funext (control_Parse.e0 K)]; rfl
noncomputable def control_Parse.r2 (K : Nat) : Nat → ((((Nat) × (Unit)) × ((Bool) × ((List (List UInt8)) × ((Int) × ((Int) × (Unit)))))) × (((Bool) × ((Bool) × ((Bool) × ((Bool) × ((Bool) × ((Bool) × ((Int) × ((Int) × ((Int) × (Unit)))))))))) × ((((Bool) × ((Bool) × ((Bool) × ((Bool) × ((Bool) × ((Bool) × ((Int) × ((Int) × ((Int) × (Unit)))))))))) × (Unit)) × (Unit)))) → Option ((((Bool) × (Unit)) × (((Bool) × ((Bool) × ((Bool) × ((Bool) × ((Bool) × ((Bool) × ((Int) × ((Int) × ((Int) × (Unit)))))))))) × ((((Bool) × ((Bool) × ((Bool) × ((Bool) × ((Bool) × ((Bool) × ((Int) × ((Int) × ((Int) × (Unit)))))))))) × (Unit)) × (Unit))))) :=
  loopV [(.exit 0, { regs := [(5, .bool)], heap := [(.scons .bool (.scons .bool (.scons .bool (.scons .bool (.scons .bool (.scons .bool (.scons (.int .i64) (.scons (.int .i64) (.scons (.int .i64) .snil))))))))), (.scons (.scons .bool (.scons .bool (.scons .bool (.scons .bool (.scons .bool (.scons .bool (.scons (.int .i64) (.scons (.int .i64) (.scons (.int .i64) .snil))))))))) .snil)] })] { regs := [(1, (.bm 54 (.scons (.loc 1 false []) .snil))), (5, .bool), (12, (.list .str)), (13, (.int .i64)), (14, (.int .i64))], heap := [(.scons .bool (.scons .bool (.scons .bool (.scons .bool (.scons .bool (.scons .bool (.scons (.int .i64) (.scons (.int .i64) (.scons (.int .i64) .snil))))))))), (.scons (.scons .bool (.scons .bool (.scons .bool (.scons .bool (.scons .bool (.scons .bool (.scons (.int .i64) (.scons (.int .i64) (.scons (.int .i64) .snil))))))))) .snil)] } (interp (control_Parse.env.at K) control_Parse.hint52 (callF (control_Parse.env.at K) 6) (Code.sub [1, 1, 0, 1, 0, 0] (Tryz.f52.body.getD .skip)) _)
theorem control_Parse.s2 (K n : Nat) (x : ((((Nat) × (Unit)) × ((Bool) × ((List (List UInt8)) × ((Int) × ((Int) × (Unit)))))) × (((Bool) × ((Bool) × ((Bool) × ((Bool) × ((Bool) × ((Bool) × ((Int) × ((Int) × ((Int) × (Unit)))))))))) × ((((Bool) × ((Bool) × ((Bool) × ((Bool) × ((Bool) × ((Bool) × ((Int) × ((Int) × ((Int) × (Unit)))))))))) × (Unit)) × (Unit))))) : control_Parse.r2 K (n + 1) x = control_Parse.t2 (control_Parse.r1 K) K (control_Parse.r2 K n) x := by kernel_rfl
theorem control_Parse.e2 (K n : Nat) : control_Parse.r2 K n = control_Parse.l2 K n := by
  induction n with
  | zero => funext x; rfl
  | succ n ih => funext x; rw [control_Parse.s2, ih, show control_Parse.r1 K = control_Parse.l1 K from funext (control_Parse.e1 K)]; rfl
theorem control_Parse.body_eq (K : Nat) (x : control_Parse.spec.args.den) : body (control_Parse.env.at K) 8 13 control_Parse.spec x = control_Parse.tr (control_Parse.r2 K) K x.1 := by kernel_rfl
theorem control_Parse.contract : Contract Tryz.prog gl 13 control_Parse.spec :=
  contract_of (E := control_Parse.env) ⟨TIok_of tiOK, FnsOK_of ⟨⟨Tryz.func13, Tryz.call13⟩, ⟨Tryz.func52, Tryz.call52⟩, ⟨Tryz.func54, Tryz.call54⟩, ⟨Tryz.func135, Tryz.call135⟩, ⟨Tryz.func136, Tryz.call136⟩, ⟨Tryz.func137, Tryz.call137⟩, ⟨Tryz.func138, Tryz.call138⟩, ⟨Tryz.func139, Tryz.call139⟩, ⟨Tryz.func140, Tryz.call140⟩, ⟨Tryz.func141, Tryz.call141⟩, ⟨Tryz.func142, Tryz.call142⟩, ⟨Tryz.func144, Tryz.call144⟩, ⟨Tryz.func145, Tryz.call145⟩, trivial⟩, mixed⟩ (SpecsOK_of (E := control_Parse.env) ⟨fields_All.contract, items_Split.contract, items_Param.contract, control_directives.contract, control_seconds.contract, control_Least.contract, trivial⟩) Tryz.call13 rfl rfl fun K x r h => by
    rw [control_Parse.body_eq, show control_Parse.r2 K = control_Parse.l2 K from funext (control_Parse.e2 K)]; exact h

def fields_Get.spec : Dp.Spec := { args := (.scons (.list (.scons .str (.scons .str .snil))) (.scons .str .snil)), res := (.tup (.scons .str (.scons .bool .snil))), own := false, F := fun K x => fields_Get K x.1 x.2.1 }
def fields_Get.hint : Dp.Hint := { n := 15 }
noncomputable def fields_Get.env : Dp.Env := { ti := ti, gl := gl, fns := [(59, Tryz.f59, fields_Get.hint)], specs := [(53, fields_All.spec), (97, joinS.spec)], K := 0 }
theorem fields_Get.body_eq (K : Nat) (x : fields_Get.spec.args.den) : body (fields_Get.env.at K) 8 59 fields_Get.spec x = fields_Get K x.1 x.2.1 := by kernel_rfl
theorem fields_Get.contract : Contract Tryz.prog gl 59 fields_Get.spec :=
  contract_of (E := fields_Get.env) ⟨TIok_of tiOK, FnsOK_of ⟨⟨Tryz.func59, Tryz.call59⟩, trivial⟩, mixed⟩ (SpecsOK_of (E := fields_Get.env) ⟨fields_All.contract, joinS.contract, trivial⟩) Tryz.call59 rfl rfl fun K x r h => by
    rw [fields_Get.body_eq]; exact h

def life_Lifetime_c1.spec : Dp.Spec := { args := (.scons .str (.scons (.ref (.scons (.scons (.int .i64) (.scons .str (.scons (.int .i64) (.scons (.list (.scons .str (.scons .str .snil))) (.scons .str .snil))))) (.scons (.int .i64) (.scons (.list (.scons .str (.scons .bool (.scons .str .snil)))) .snil)))) .snil)), res := (.tup (.scons (.int .i64) (.scons .bool .snil))), own := false, F := fun K x => life_Lifetime_c1 K x.1 x.2.1 }
def life_Lifetime_c1.hint : Dp.Hint := { n := 12 }
noncomputable def life_Lifetime_c1.env : Dp.Env := { ti := ti, gl := gl, fns := [(85, Tryz.f85, life_Lifetime_c1.hint)], specs := [(43, life_When.spec)], K := 0 }
theorem life_Lifetime_c1.body_eq (K : Nat) (x : life_Lifetime_c1.spec.args.den) : body (life_Lifetime_c1.env.at K) 8 85 life_Lifetime_c1.spec x = life_Lifetime_c1 K x.1 x.2.1 := by kernel_rfl
theorem life_Lifetime_c1.contract : Contract Tryz.prog gl 85 life_Lifetime_c1.spec :=
  contract_of (E := life_Lifetime_c1.env) ⟨TIok_of tiOK, FnsOK_of ⟨⟨Tryz.func85, Tryz.call85⟩, trivial⟩, mixed⟩ (SpecsOK_of (E := life_Lifetime_c1.env) ⟨life_When.contract, trivial⟩) Tryz.call85 rfl rfl fun K x r h => by
    rw [life_Lifetime_c1.body_eq]; exact h

def life_Usual.spec : Dp.Spec := { args := (.scons (.int .i64) .snil), res := .bool, own := false, F := fun K x => life_Usual K x.1 }
def life_Usual.hint : Dp.Hint := { n := 16 }
noncomputable def life_Usual.env : Dp.Env := { ti := ti, gl := gl, fns := [(49, Tryz.f49, life_Usual.hint)], specs := [], K := 0 }
theorem life_Usual.body_eq (K : Nat) (x : life_Usual.spec.args.den) : body (life_Usual.env.at K) 8 49 life_Usual.spec x = life_Usual K x.1 := by kernel_rfl
theorem life_Usual.contract : Contract Tryz.prog gl 49 life_Usual.spec :=
  contract_of (E := life_Usual.env) ⟨TIok_of tiOK, FnsOK_of ⟨⟨Tryz.func49, Tryz.call49⟩, trivial⟩, mixed⟩ (SpecsOK_of (E := life_Usual.env) trivial) Tryz.call49 rfl rfl fun K x r h => by
    rw [life_Usual.body_eq]; exact h

def life_Lifetime.spec : Dp.Spec := { args := (.scons (.scons (.scons (.int .i64) (.scons .str (.scons (.int .i64) (.scons (.list (.scons .str (.scons .str .snil))) (.scons .str .snil))))) (.scons (.int .i64) (.scons (.list (.scons .str (.scons .bool (.scons .str .snil)))) .snil))) .snil), res := (.int .i64), own := false, F := fun K x => life_Lifetime K x.1 }
def life_Lifetime.hint : Dp.Hint := { n := 67, regions := [(14, [(.normal, { regs := [(1, (.ref (.scons (.scons (.int .i64) (.scons .str (.scons (.int .i64) (.scons (.list (.scons .str (.scons .str .snil))) (.scons .str .snil))))) (.scons (.int .i64) (.scons (.list (.scons .str (.scons .bool (.scons .str .snil)))) .snil))))), (9, (.int .i64)), (60, .bool)], heap := [(.scons .bool (.scons .bool (.scons .bool (.scons .bool (.scons .bool (.scons .bool (.scons (.int .i64) (.scons (.int .i64) (.scons (.int .i64) .snil)))))))))] })])], imm := [1] }
noncomputable def life_Lifetime.env : Dp.Env := { ti := ti, gl := gl, fns := [(37, Tryz.f37, life_Lifetime.hint)], specs := [(45, life_Date.spec), (82, life_apart.spec), (13, control_Parse.spec), (59, fields_Get.spec), (85, life_Lifetime_c1.spec), (49, life_Usual.spec)], K := 0 }
theorem life_Lifetime.body_eq (K : Nat) (x : life_Lifetime.spec.args.den) : body (life_Lifetime.env.at K) 8 37 life_Lifetime.spec x = life_Lifetime K x.1 := by kernel_rfl
theorem life_Lifetime.contract : Contract Tryz.prog gl 37 life_Lifetime.spec :=
  contract_of (E := life_Lifetime.env) ⟨TIok_of tiOK, FnsOK_of ⟨⟨Tryz.func37, Tryz.call37⟩, trivial⟩, mixed⟩ (SpecsOK_of (E := life_Lifetime.env) ⟨life_Date.contract, life_apart.contract, control_Parse.contract, fields_Get.contract, life_Lifetime_c1.contract, life_Usual.contract, trivial⟩) Tryz.call37 rfl rfl fun K x r h => by
    rw [life_Lifetime.body_eq]; exact h

def life_Fresh.spec : Dp.Spec := { args := (.scons (.scons (.scons (.int .i64) (.scons .str (.scons (.int .i64) (.scons (.list (.scons .str (.scons .str .snil))) (.scons .str .snil))))) (.scons (.int .i64) (.scons (.list (.scons .str (.scons .bool (.scons .str .snil)))) .snil))) (.scons (.int .i64) .snil)), res := .bool, own := false, F := fun K x => life_Fresh K x.1 x.2.1 }
def life_Fresh.hint : Dp.Hint := { n := 11, imm := [2] }
noncomputable def life_Fresh.env : Dp.Env := { ti := ti, gl := gl, fns := [(39, Tryz.f39, life_Fresh.hint)], specs := [(35, life_Age.spec), (37, life_Lifetime.spec)], K := 0 }
theorem life_Fresh.body_eq (K : Nat) (x : life_Fresh.spec.args.den) : body (life_Fresh.env.at K) 8 39 life_Fresh.spec x = life_Fresh K x.1 x.2.1 := by kernel_rfl
theorem life_Fresh.contract : Contract Tryz.prog gl 39 life_Fresh.spec :=
  contract_of (E := life_Fresh.env) ⟨TIok_of tiOK, FnsOK_of ⟨⟨Tryz.func39, Tryz.call39⟩, trivial⟩, mixed⟩ (SpecsOK_of (E := life_Fresh.env) ⟨life_Age.contract, life_Lifetime.contract, trivial⟩) Tryz.call39 rfl rfl fun K x r h => by
    rw [life_Fresh.body_eq]; exact h

def decimal_Less.spec : Dp.Spec := { args := (.scons (.int .i64) (.scons (.int .i64) .snil)), res := (.int .i64), own := false, F := fun K x => decimal_Less K x.1 x.2.1 }
def decimal_Less.hint : Dp.Hint := { n := 11 }
noncomputable def decimal_Less.env : Dp.Env := { ti := ti, gl := gl, fns := [(86, Tryz.f86, decimal_Less.hint)], specs := [(114, decimal_held.spec)], K := 0 }
theorem decimal_Less.body_eq (K : Nat) (x : decimal_Less.spec.args.den) : body (decimal_Less.env.at K) 8 86 decimal_Less.spec x = decimal_Less K x.1 x.2.1 := by kernel_rfl
theorem decimal_Less.contract : Contract Tryz.prog gl 86 decimal_Less.spec :=
  contract_of (E := decimal_Less.env) ⟨TIok_of tiOK, FnsOK_of ⟨⟨Tryz.func86, Tryz.call86⟩, trivial⟩, mixed⟩ (SpecsOK_of (E := decimal_Less.env) ⟨decimal_held.contract, trivial⟩) Tryz.call86 rfl rfl fun K x r h => by
    rw [decimal_Less.body_eq]; exact h

def life_Left.spec : Dp.Spec := { args := (.scons (.scons (.scons (.int .i64) (.scons .str (.scons (.int .i64) (.scons (.list (.scons .str (.scons .str .snil))) (.scons .str .snil))))) (.scons (.int .i64) (.scons (.list (.scons .str (.scons .bool (.scons .str .snil)))) .snil))) (.scons (.int .i64) .snil)), res := (.int .i64), own := false, F := fun K x => life_Left K x.1 x.2.1 }
def life_Left.hint : Dp.Hint := { n := 11, imm := [2] }
noncomputable def life_Left.env : Dp.Env := { ti := ti, gl := gl, fns := [(41, Tryz.f41, life_Left.hint)], specs := [(35, life_Age.spec), (37, life_Lifetime.spec), (86, decimal_Less.spec)], K := 0 }
theorem life_Left.body_eq (K : Nat) (x : life_Left.spec.args.den) : body (life_Left.env.at K) 8 41 life_Left.spec x = life_Left K x.1 x.2.1 := by kernel_rfl
theorem life_Left.contract : Contract Tryz.prog gl 41 life_Left.spec :=
  contract_of (E := life_Left.env) ⟨TIok_of tiOK, FnsOK_of ⟨⟨Tryz.func41, Tryz.call41⟩, trivial⟩, mixed⟩ (SpecsOK_of (E := life_Left.env) ⟨life_Age.contract, life_Lifetime.contract, decimal_Less.contract, trivial⟩) Tryz.call41 rfl rfl fun K x r h => by
    rw [life_Left.body_eq]; exact h

def depotlaw17_lives.spec : Dp.Spec := { args := .snil, res := .bool, own := false, F := fun K x => depotlaw17_lives K }
def depotlaw17_lives.hint : Dp.Hint := { n := 72 }
noncomputable def depotlaw17_lives.env : Dp.Env := { ti := ti, gl := gl, fns := [(34, Tryz.f34, depotlaw17_lives.hint)], specs := [(43, life_When.spec), (47, life_Told.spec), (45, life_Date.spec), (35, life_Age.spec), (49, life_Usual.spec), (37, life_Lifetime.spec), (39, life_Fresh.spec), (41, life_Left.spec)], K := 0 }
theorem depotlaw17_lives.body_eq (K : Nat) (x : depotlaw17_lives.spec.args.den) : body (depotlaw17_lives.env.at K) 8 34 depotlaw17_lives.spec x = depotlaw17_lives K := by kernel_rfl
theorem depotlaw17_lives.contract : Contract Tryz.prog gl 34 depotlaw17_lives.spec :=
  contract_of (E := depotlaw17_lives.env) ⟨TIok_of tiOK, FnsOK_of ⟨⟨Tryz.func34, Tryz.call34⟩, trivial⟩, mixed⟩ (SpecsOK_of (E := depotlaw17_lives.env) ⟨life_When.contract, life_Told.contract, life_Date.contract, life_Age.contract, life_Usual.contract, life_Lifetime.contract, life_Fresh.contract, life_Left.contract, trivial⟩) Tryz.call34 rfl rfl fun K x r h => by
    rw [depotlaw17_lives.body_eq]; exact h

def depotref01_Lower.spec : Dp.Spec := { args := (.scons .str .snil), res := .str, own := false, F := fun K x => depotref01_Lower K x.1 }
def depotref01_Lower.hint : Dp.Hint := { n := 35, conds := [(24, [(.normal, { regs := [(3, (.slw 0)), (4, (.int .i64))], heap := [(.row (.int .u8))] })])], regions := [(5, [(.normal, { regs := [(3, (.slw 0)), (4, (.int .i64)), (24, .bool)], heap := [(.row (.int .u8))] })])], loops := [(3, { regs := [(3, (.slw 0)), (4, (.int .i64))], heap := [(.row (.int .u8))] }, [(.exit 0, { regs := [(3, (.slw 0))], heap := [(.row (.int .u8))] })])], own := [6] }
noncomputable def depotref01_Lower.env : Dp.Env := { ti := ti, gl := gl, fns := [(76, Tryz.f76, depotref01_Lower.hint)], specs := [], K := 0 }
noncomputable def depotref01_Lower.r0 (K : Nat) : Nat → (((Unit) × ((Int) × (Unit))) × ((List (Int)) × (Unit))) → Option ((((Unit) × (Unit)) × ((List (Int)) × (Unit)))) :=
  loopV [(.exit 0, { regs := [(3, (.slw 0))], heap := [(.row (.int .u8))] })] { regs := [(3, (.slw 0)), (4, (.int .i64))], heap := [(.row (.int .u8))] } (interp (depotref01_Lower.env.at K) depotref01_Lower.hint (callF (depotref01_Lower.env.at K) 7) (Code.sub [1, 1, 0, 1, 0, 0] (Tryz.f76.body.getD .skip)) _)
theorem depotref01_Lower.s0 (K n : Nat) (x : (((Unit) × ((Int) × (Unit))) × ((List (Int)) × (Unit)))) : depotref01_Lower.r0 K (n + 1) x = depotref01_Lower.t0 K (depotref01_Lower.r0 K n) x := by kernel_rfl
theorem depotref01_Lower.e0 (K n : Nat) : depotref01_Lower.r0 K n = depotref01_Lower.l0 K n := by
  induction n with
  | zero => funext x; rfl
  | succ n ih => funext x; rw [depotref01_Lower.s0, ih]; rfl
theorem depotref01_Lower.body_eq (K : Nat) (x : depotref01_Lower.spec.args.den) : body (depotref01_Lower.env.at K) 8 76 depotref01_Lower.spec x = depotref01_Lower.tr (depotref01_Lower.r0 K) K x.1 := by kernel_rfl
theorem depotref01_Lower.contract : Contract Tryz.prog gl 76 depotref01_Lower.spec :=
  contract_of (E := depotref01_Lower.env) ⟨TIok_of tiOK, FnsOK_of ⟨⟨Tryz.func76, Tryz.call76⟩, trivial⟩, mixed⟩ (SpecsOK_of (E := depotref01_Lower.env) trivial) Tryz.call76 rfl rfl fun K x r h => by
    rw [depotref01_Lower.body_eq, show depotref01_Lower.r0 K = depotref01_Lower.l0 K from funext (depotref01_Lower.e0 K)]; exact h

def depotref01_Same.spec : Dp.Spec := { args := (.scons .str (.scons .str .snil)), res := .bool, own := false, F := fun K x => depotref01_Same K x.1 x.2.1 }
def depotref01_Same.hint : Dp.Hint := { n := 10 }
noncomputable def depotref01_Same.env : Dp.Env := { ti := ti, gl := gl, fns := [(99, Tryz.f99, depotref01_Same.hint)], specs := [(76, depotref01_Lower.spec)], K := 0 }
theorem depotref01_Same.body_eq (K : Nat) (x : depotref01_Same.spec.args.den) : body (depotref01_Same.env.at K) 8 99 depotref01_Same.spec x = depotref01_Same K x.1 x.2.1 := by kernel_rfl
theorem depotref01_Same.contract : Contract Tryz.prog gl 99 depotref01_Same.spec :=
  contract_of (E := depotref01_Same.env) ⟨TIok_of tiOK, FnsOK_of ⟨⟨Tryz.func99, Tryz.call99⟩, trivial⟩, mixed⟩ (SpecsOK_of (E := depotref01_Same.env) ⟨depotref01_Lower.contract, trivial⟩) Tryz.call99 rfl rfl fun K x r h => by
    rw [depotref01_Same.body_eq]; exact h

def depotref09_All.spec : Dp.Spec := { args := (.scons (.list (.scons .str (.scons .str .snil))) (.scons .str .snil)), res := (.list .str), own := false, F := fun K x => depotref09_All K x.1 x.2.1 }
def depotref09_All.hint : Dp.Hint := { n := 29, conds := [(19, [(.normal, { regs := [(0, (.list (.scons .str (.scons .str .snil)))), (1, .str), (5, (.slw 1)), (6, (.int .i64))], heap := [(.row .str), (.row .str)], app := [1] })])], loops := [(3, { regs := [(0, (.list (.scons .str (.scons .str .snil)))), (1, .str), (5, (.slw 1)), (6, (.int .i64))], heap := [(.row .str), (.row .str)], app := [1] }, [(.exit 0, { regs := [(5, (.slw 1))], heap := [(.row .str), (.row .str)], app := [1] })])], own := [4, 5] }
noncomputable def depotref09_All.env : Dp.Env := { ti := ti, gl := gl, fns := [(61, Tryz.f61, depotref09_All.hint)], specs := [(99, depotref01_Same.spec)], K := 0 }
noncomputable def depotref09_All.r0 (K : Nat) : Nat → (((List ((List UInt8) × ((List UInt8) × (Unit)))) × ((List UInt8) × ((Unit) × ((Int) × (Unit))))) × ((List (List UInt8)) × ((List (List UInt8)) × (Unit)))) → Option ((((Unit) × (Unit)) × ((List (List UInt8)) × ((List (List UInt8)) × (Unit))))) :=
  loopV [(.exit 0, { regs := [(5, (.slw 1))], heap := [(.row .str), (.row .str)], app := [1] })] { regs := [(0, (.list (.scons .str (.scons .str .snil)))), (1, .str), (5, (.slw 1)), (6, (.int .i64))], heap := [(.row .str), (.row .str)], app := [1] } (interp (depotref09_All.env.at K) depotref09_All.hint (callF (depotref09_All.env.at K) 7) (Code.sub [1, 1, 0, 1, 0, 0] (Tryz.f61.body.getD .skip)) _)
theorem depotref09_All.s0 (K n : Nat) (x : (((List ((List UInt8) × ((List UInt8) × (Unit)))) × ((List UInt8) × ((Unit) × ((Int) × (Unit))))) × ((List (List UInt8)) × ((List (List UInt8)) × (Unit))))) : depotref09_All.r0 K (n + 1) x = depotref09_All.t0 K (depotref09_All.r0 K n) x := by kernel_rfl
theorem depotref09_All.e0 (K n : Nat) : depotref09_All.r0 K n = depotref09_All.l0 K n := by
  induction n with
  | zero => funext x; rfl
  | succ n ih => funext x; rw [depotref09_All.s0, ih]; rfl
theorem depotref09_All.body_eq (K : Nat) (x : depotref09_All.spec.args.den) : body (depotref09_All.env.at K) 8 61 depotref09_All.spec x = depotref09_All.tr (depotref09_All.r0 K) K x.1 x.2.1 := by kernel_rfl
theorem depotref09_All.contract : Contract Tryz.prog gl 61 depotref09_All.spec :=
  contract_of (E := depotref09_All.env) ⟨TIok_of tiOK, FnsOK_of ⟨⟨Tryz.func61, Tryz.call61⟩, trivial⟩, mixed⟩ (SpecsOK_of (E := depotref09_All.env) ⟨depotref01_Same.contract, trivial⟩) Tryz.call61 rfl rfl fun K x r h => by
    rw [depotref09_All.body_eq, show depotref09_All.r0 K = depotref09_All.l0 K from funext (depotref09_All.e0 K)]; exact h

def depotref01_blank.spec : Dp.Spec := { args := (.scons (.int .u8) .snil), res := .bool, own := false, F := fun K x => depotref01_blank K x.1 }
def depotref01_blank.hint : Dp.Hint := { n := 9 }
noncomputable def depotref01_blank.env : Dp.Env := { ti := ti, gl := gl, fns := [(168, Tryz.f168, depotref01_blank.hint)], specs := [], K := 0 }
theorem depotref01_blank.body_eq (K : Nat) (x : depotref01_blank.spec.args.den) : body (depotref01_blank.env.at K) 8 168 depotref01_blank.spec x = depotref01_blank K x.1 := by kernel_rfl
theorem depotref01_blank.contract : Contract Tryz.prog gl 168 depotref01_blank.spec :=
  contract_of (E := depotref01_blank.env) ⟨TIok_of tiOK, FnsOK_of ⟨⟨Tryz.func168, Tryz.call168⟩, trivial⟩, mixed⟩ (SpecsOK_of (E := depotref01_blank.env) trivial) Tryz.call168 rfl rfl fun K x r h => by
    rw [depotref01_blank.body_eq]; exact h

def depotref01_Trim.spec : Dp.Spec := { args := (.scons .str .snil), res := .str, own := false, F := fun K x => depotref01_Trim K x.1 }
def depotref01_Trim.hint : Dp.Hint := { n := 30, regions := [(1, [(.normal, { regs := [(0, .str), (10, .bool)] })]), (3, [(.normal, { regs := [(0, .str), (23, .bool)] })])], loops := [(1, { regs := [(0, .str)] }, [(.exit 0, { regs := [(0, .str)] })]), (3, { regs := [(0, .str)] }, [(.exit 2, { regs := [(0, .str)] })])] }
noncomputable def depotref01_Trim.env : Dp.Env := { ti := ti, gl := gl, fns := [(110, Tryz.f110, depotref01_Trim.hint)], specs := [(168, depotref01_blank.spec)], K := 0 }
noncomputable def depotref01_Trim.r1 (K : Nat) : Nat → (((List UInt8) × (Unit)) × (Unit)) → Option ((((List UInt8) × (Unit)) × (Unit))) :=
  loopV [(.exit 2, { regs := [(0, .str)] })] { regs := [(0, .str)] } (interp (depotref01_Trim.env.at K) depotref01_Trim.hint (callF (depotref01_Trim.env.at K) 7) (Code.sub [1, 1, 0, 0, 0] (Tryz.f110.body.getD .skip)) _)
theorem depotref01_Trim.s1 (K n : Nat) (x : (((List UInt8) × (Unit)) × (Unit))) : depotref01_Trim.r1 K (n + 1) x = depotref01_Trim.t1 K (depotref01_Trim.r1 K n) x := by kernel_rfl
theorem depotref01_Trim.e1 (K n : Nat) : depotref01_Trim.r1 K n = depotref01_Trim.l1 K n := by
  induction n with
  | zero => funext x; rfl
  | succ n ih => funext x; rw [depotref01_Trim.s1, ih]; rfl
noncomputable def depotref01_Trim.r0 (K : Nat) : Nat → (((List UInt8) × (Unit)) × (Unit)) → Option ((((List UInt8) × (Unit)) × (Unit))) :=
  loopV [(.exit 0, { regs := [(0, .str)] })] { regs := [(0, .str)] } (interp (depotref01_Trim.env.at K) depotref01_Trim.hint (callF (depotref01_Trim.env.at K) 7) (Code.sub [1, 0, 0, 0] (Tryz.f110.body.getD .skip)) _)
theorem depotref01_Trim.s0 (K n : Nat) (x : (((List UInt8) × (Unit)) × (Unit))) : depotref01_Trim.r0 K (n + 1) x = depotref01_Trim.t0 K (depotref01_Trim.r0 K n) x := by kernel_rfl
theorem depotref01_Trim.e0 (K n : Nat) : depotref01_Trim.r0 K n = depotref01_Trim.l0 K n := by
  induction n with
  | zero => funext x; rfl
  | succ n ih => funext x; rw [depotref01_Trim.s0, ih]; rfl
theorem depotref01_Trim.body_eq (K : Nat) (x : depotref01_Trim.spec.args.den) : body (depotref01_Trim.env.at K) 8 110 depotref01_Trim.spec x = depotref01_Trim.tr (depotref01_Trim.r0 K) (depotref01_Trim.r1 K) K x.1 := by kernel_rfl
theorem depotref01_Trim.contract : Contract Tryz.prog gl 110 depotref01_Trim.spec :=
  contract_of (E := depotref01_Trim.env) ⟨TIok_of tiOK, FnsOK_of ⟨⟨Tryz.func110, Tryz.call110⟩, trivial⟩, mixed⟩ (SpecsOK_of (E := depotref01_Trim.env) ⟨depotref01_blank.contract, trivial⟩) Tryz.call110 rfl rfl fun K x r h => by
    rw [depotref01_Trim.body_eq, show depotref01_Trim.r0 K = depotref01_Trim.l0 K from funext (depotref01_Trim.e0 K), show depotref01_Trim.r1 K = depotref01_Trim.l1 K from funext (depotref01_Trim.e1 K)]; exact h

def depotref06_Split.spec : Dp.Spec := { args := (.scons .str .snil), res := (.tup (.scons (.list .str) (.scons (.int .i64) .snil))), own := false, F := fun K x => depotref06_Split K x.1 }
def depotref06_Split.hint : Dp.Hint := { n := 76, conds := [(40, [(.normal, { regs := [(0, .str), (4, (.slw 1)), (5, .str), (6, .bool), (7, (.int .i64))], heap := [(.row .str), (.row .str)], app := [1] })]), (53, [(.normal, { regs := [(0, .str), (4, (.slw 1)), (6, .bool), (7, (.int .i64))], heap := [(.row .str), (.row .str)], app := [1] })])], blocks := [(1, [(.normal, { regs := [(0, .str), (4, (.slw 1)), (5, .str), (6, .bool), (7, (.int .i64))], heap := [(.row .str), (.row .str)], app := [1] })])], regions := [(7, [(.normal, { regs := [(0, .str), (4, (.slw 1)), (5, .str), (6, .bool), (7, (.int .i64)), (27, .bool)], heap := [(.row .str), (.row .str)], app := [1] })]), (12, [(.normal, { regs := [(0, .str), (4, (.slw 1)), (5, .str), (6, .bool), (7, (.int .i64)), (50, .bool)], heap := [(.row .str), (.row .str)], app := [1] })])], loops := [(5, { regs := [(0, .str), (4, (.slw 1)), (5, .str), (6, .bool), (7, (.int .i64))], heap := [(.row .str), (.row .str)], app := [1] }, [(.exit 0, { regs := [(4, (.slw 1)), (5, .str), (6, .bool)], heap := [(.row .str), (.row .str)], app := [1] })])], own := [2, 2, 4] }
noncomputable def depotref06_Split.env : Dp.Env := { ti := ti, gl := gl, fns := [(73, Tryz.f73, depotref06_Split.hint)], specs := [(110, depotref01_Trim.spec)], K := 0 }
noncomputable def depotref06_Split.r0 (K : Nat) : Nat → (((List UInt8) × ((Unit) × ((List UInt8) × ((Bool) × ((Int) × (Unit)))))) × ((List (List UInt8)) × ((List (List UInt8)) × (Unit)))) → Option ((((Unit) × ((List UInt8) × ((Bool) × (Unit)))) × ((List (List UInt8)) × ((List (List UInt8)) × (Unit))))) :=
  loopV [(.exit 0, { regs := [(4, (.slw 1)), (5, .str), (6, .bool)], heap := [(.row .str), (.row .str)], app := [1] })] { regs := [(0, .str), (4, (.slw 1)), (5, .str), (6, .bool), (7, (.int .i64))], heap := [(.row .str), (.row .str)], app := [1] } (interp (depotref06_Split.env.at K) depotref06_Split.hint (callF (depotref06_Split.env.at K) 7) (Code.sub [1, 1, 1, 1, 0, 1, 0, 0] (Tryz.f73.body.getD .skip)) _)
theorem depotref06_Split.s0 (K n : Nat) (x : (((List UInt8) × ((Unit) × ((List UInt8) × ((Bool) × ((Int) × (Unit)))))) × ((List (List UInt8)) × ((List (List UInt8)) × (Unit))))) : depotref06_Split.r0 K (n + 1) x = depotref06_Split.t0 K (depotref06_Split.r0 K n) x := by kernel_rfl
theorem depotref06_Split.e0 (K n : Nat) : depotref06_Split.r0 K n = depotref06_Split.l0 K n := by
  induction n with
  | zero => funext x; rfl
  | succ n ih => funext x; rw [depotref06_Split.s0, ih]; rfl
theorem depotref06_Split.body_eq (K : Nat) (x : depotref06_Split.spec.args.den) : body (depotref06_Split.env.at K) 8 73 depotref06_Split.spec x = depotref06_Split.tr (depotref06_Split.r0 K) K x.1 := by kernel_rfl
theorem depotref06_Split.contract : Contract Tryz.prog gl 73 depotref06_Split.spec :=
  contract_of (E := depotref06_Split.env) ⟨TIok_of tiOK, FnsOK_of ⟨⟨Tryz.func73, Tryz.call73⟩, trivial⟩, mixed⟩ (SpecsOK_of (E := depotref06_Split.env) ⟨depotref01_Trim.contract, trivial⟩) Tryz.call73 rfl rfl fun K x r h => by
    rw [depotref06_Split.body_eq, show depotref06_Split.r0 K = depotref06_Split.l0 K from funext (depotref06_Split.e0 K)]; exact h

def depotref01_Hex.spec : Dp.Spec := { args := (.scons (.int .u8) .snil), res := (.tup (.scons (.int .i64) (.scons .bool .snil))), own := false, F := fun K x => depotref01_Hex K x.1 }
def depotref01_Hex.hint : Dp.Hint := { n := 24, regions := [(5, [(.normal, { regs := [(0, (.int .u8)), (4, .str), (5, .str), (6, (.int .i64)), (22, .bool)] })])], loops := [(3, { regs := [(0, (.int .u8)), (4, .str), (5, .str), (6, (.int .i64))] }, [(.exit 0, { regs := [] }), (.ret, { regs := [(2, (.int .i64)), (3, .bool)] })])] }
noncomputable def depotref01_Hex.env : Dp.Env := { ti := ti, gl := gl, fns := [(187, Tryz.f187, depotref01_Hex.hint)], specs := [], K := 0 }
noncomputable def depotref01_Hex.r0 (K : Nat) : Nat → (((Int) × ((List UInt8) × ((List UInt8) × ((Int) × (Unit))))) × (Unit)) → Option (((Unit) × (Unit)) ⊕ (((Int) × ((Bool) × (Unit))) × (Unit))) :=
  loopV [(.exit 0, { regs := [] }), (.ret, { regs := [(2, (.int .i64)), (3, .bool)] })] { regs := [(0, (.int .u8)), (4, .str), (5, .str), (6, (.int .i64))] } (interp (depotref01_Hex.env.at K) depotref01_Hex.hint (callF (depotref01_Hex.env.at K) 7) (Code.sub [1, 1, 0, 1, 0, 0] (Tryz.f187.body.getD .skip)) _)
theorem depotref01_Hex.s0 (K n : Nat) (x : (((Int) × ((List UInt8) × ((List UInt8) × ((Int) × (Unit))))) × (Unit))) : depotref01_Hex.r0 K (n + 1) x = depotref01_Hex.t0 K (depotref01_Hex.r0 K n) x := by kernel_rfl
theorem depotref01_Hex.e0 (K n : Nat) : depotref01_Hex.r0 K n = depotref01_Hex.l0 K n := by
  induction n with
  | zero => funext x; rfl
  | succ n ih => funext x; rw [depotref01_Hex.s0, ih]; rfl
theorem depotref01_Hex.body_eq (K : Nat) (x : depotref01_Hex.spec.args.den) : body (depotref01_Hex.env.at K) 8 187 depotref01_Hex.spec x = depotref01_Hex.tr (depotref01_Hex.r0 K) K x.1 := by kernel_rfl
theorem depotref01_Hex.contract : Contract Tryz.prog gl 187 depotref01_Hex.spec :=
  contract_of (E := depotref01_Hex.env) ⟨TIok_of tiOK, FnsOK_of ⟨⟨Tryz.func187, Tryz.call187⟩, trivial⟩, mixed⟩ (SpecsOK_of (E := depotref01_Hex.env) trivial) Tryz.call187 rfl rfl fun K x r h => by
    rw [depotref01_Hex.body_eq, show depotref01_Hex.r0 K = depotref01_Hex.l0 K from funext (depotref01_Hex.e0 K)]; exact h

def depotref01_Digit.spec : Dp.Spec := { args := (.scons (.int .u8) .snil), res := .bool, own := false, F := fun K x => depotref01_Digit K x.1 }
def depotref01_Digit.hint : Dp.Hint := { n := 15 }
noncomputable def depotref01_Digit.env : Dp.Env := { ti := ti, gl := gl, fns := [(130, Tryz.f130, depotref01_Digit.hint)], specs := [(187, depotref01_Hex.spec)], K := 0 }
theorem depotref01_Digit.body_eq (K : Nat) (x : depotref01_Digit.spec.args.den) : body (depotref01_Digit.env.at K) 8 130 depotref01_Digit.spec x = depotref01_Digit K x.1 := by kernel_rfl
theorem depotref01_Digit.contract : Contract Tryz.prog gl 130 depotref01_Digit.spec :=
  contract_of (E := depotref01_Digit.env) ⟨TIok_of tiOK, FnsOK_of ⟨⟨Tryz.func130, Tryz.call130⟩, trivial⟩, mixed⟩ (SpecsOK_of (E := depotref01_Digit.env) ⟨depotref01_Hex.contract, trivial⟩) Tryz.call130 rfl rfl fun K x r h => by
    rw [depotref01_Digit.body_eq]; exact h

def depotref02_Seconds.spec : Dp.Spec := { args := (.scons .str .snil), res := (.tup (.scons (.int .i64) (.scons .bool .snil))), own := false, F := fun K x => depotref02_Seconds K x.1 }
def depotref02_Seconds.hint : Dp.Hint := { n := 30, loops := [(3, { regs := [(0, .str), (4, (.int .i64)), (5, (.int .i64))] }, [(.exit 0, { regs := [(0, .str), (4, (.int .i64))] }), (.ret, { regs := [(2, (.int .i64)), (3, .bool)] })])] }
noncomputable def depotref02_Seconds.env : Dp.Env := { ti := ti, gl := gl, fns := [(91, Tryz.f91, depotref02_Seconds.hint)], specs := [(130, depotref01_Digit.spec)], K := 0 }
noncomputable def depotref02_Seconds.r0 (K : Nat) : Nat → (((List UInt8) × ((Int) × ((Int) × (Unit)))) × (Unit)) → Option ((((List UInt8) × ((Int) × (Unit))) × (Unit)) ⊕ (((Int) × ((Bool) × (Unit))) × (Unit))) :=
  loopV [(.exit 0, { regs := [(0, .str), (4, (.int .i64))] }), (.ret, { regs := [(2, (.int .i64)), (3, .bool)] })] { regs := [(0, .str), (4, (.int .i64)), (5, (.int .i64))] } (interp (depotref02_Seconds.env.at K) depotref02_Seconds.hint (callF (depotref02_Seconds.env.at K) 7) (Code.sub [1, 1, 0, 1, 0, 0] (Tryz.f91.body.getD .skip)) _)
theorem depotref02_Seconds.s0 (K n : Nat) (x : (((List UInt8) × ((Int) × ((Int) × (Unit)))) × (Unit))) : depotref02_Seconds.r0 K (n + 1) x = depotref02_Seconds.t0 K (depotref02_Seconds.r0 K n) x := by kernel_rfl
theorem depotref02_Seconds.e0 (K n : Nat) : depotref02_Seconds.r0 K n = depotref02_Seconds.l0 K n := by
  induction n with
  | zero => funext x; rfl
  | succ n ih => funext x; rw [depotref02_Seconds.s0, ih]; rfl
theorem depotref02_Seconds.body_eq (K : Nat) (x : depotref02_Seconds.spec.args.den) : body (depotref02_Seconds.env.at K) 8 91 depotref02_Seconds.spec x = depotref02_Seconds.tr (depotref02_Seconds.r0 K) K x.1 := by kernel_rfl
theorem depotref02_Seconds.contract : Contract Tryz.prog gl 91 depotref02_Seconds.spec :=
  contract_of (E := depotref02_Seconds.env) ⟨TIok_of tiOK, FnsOK_of ⟨⟨Tryz.func91, Tryz.call91⟩, trivial⟩, mixed⟩ (SpecsOK_of (E := depotref02_Seconds.env) ⟨depotref01_Digit.contract, trivial⟩) Tryz.call91 rfl rfl fun K x r h => by
    rw [depotref02_Seconds.body_eq, show depotref02_Seconds.r0 K = depotref02_Seconds.l0 K from funext (depotref02_Seconds.e0 K)]; exact h

def depotref17_Told.spec : Dp.Spec := { args := (.scons (.scons (.int .i64) (.scons .str (.scons (.int .i64) (.scons (.list (.scons .str (.scons .str .snil))) (.scons .str .snil))))) .snil), res := (.int .i64), own := false, F := fun K x => depotref17_Told K x.1 }
def depotref17_Told.hint : Dp.Hint := { n := 46, loops := [(4, { regs := [(3, (.int .i64)), (4, (.list .str)), (5, (.int .i64))] }, [(.exit 0, { regs := [(3, (.int .i64))] })]), (8, { regs := [(3, (.int .i64)), (4, (.list .str)), (5, (.int .i64)), (6, (.list .str)), (8, (.int .i64))] }, [(.exit 2, { regs := [(3, (.int .i64)), (4, (.list .str)), (5, (.int .i64))] })])], imm := [1] }
noncomputable def depotref17_Told.env : Dp.Env := { ti := ti, gl := gl, fns := [(48, Tryz.f48, depotref17_Told.hint)], specs := [(61, depotref09_All.spec), (73, depotref06_Split.spec), (91, depotref02_Seconds.spec)], K := 0 }
noncomputable def depotref17_Told.r0 (K : Nat) : Nat → (((Int) × ((List (List UInt8)) × ((Int) × ((List (List UInt8)) × ((Int) × (Unit)))))) × (Unit)) → Option ((((Int) × ((List (List UInt8)) × ((Int) × (Unit)))) × (Unit))) :=
  loopV [(.exit 2, { regs := [(3, (.int .i64)), (4, (.list .str)), (5, (.int .i64))] })] { regs := [(3, (.int .i64)), (4, (.list .str)), (5, (.int .i64)), (6, (.list .str)), (8, (.int .i64))] } (interp (depotref17_Told.env.at K) depotref17_Told.hint (callF (depotref17_Told.env.at K) 7) (Code.sub [1, 1, 1, 0, 1, 0, 0, 1, 0, 0, 1, 1, 0, 0] (Tryz.f48.body.getD .skip)) _)
theorem depotref17_Told.s0 (K n : Nat) (x : (((Int) × ((List (List UInt8)) × ((Int) × ((List (List UInt8)) × ((Int) × (Unit)))))) × (Unit))) : depotref17_Told.r0 K (n + 1) x = depotref17_Told.t0 K (depotref17_Told.r0 K n) x := by kernel_rfl
theorem depotref17_Told.e0 (K n : Nat) : depotref17_Told.r0 K n = depotref17_Told.l0 K n := by
  induction n with
  | zero => funext x; rfl
  | succ n ih => funext x; rw [depotref17_Told.s0, ih]; rfl
noncomputable def depotref17_Told.r1 (K : Nat) : Nat → (((Int) × ((List (List UInt8)) × ((Int) × (Unit)))) × (Unit)) → Option ((((Int) × (Unit)) × (Unit))) :=
  loopV [(.exit 0, { regs := [(3, (.int .i64))] })] { regs := [(3, (.int .i64)), (4, (.list .str)), (5, (.int .i64))] } (interp (depotref17_Told.env.at K) depotref17_Told.hint (callF (depotref17_Told.env.at K) 7) (Code.sub [1, 1, 1, 0, 1, 0, 0] (Tryz.f48.body.getD .skip)) _)
theorem depotref17_Told.s1 (K n : Nat) (x : (((Int) × ((List (List UInt8)) × ((Int) × (Unit)))) × (Unit))) : depotref17_Told.r1 K (n + 1) x = depotref17_Told.t1 (depotref17_Told.r0 K) K (depotref17_Told.r1 K n) x := by kernel_rfl
theorem depotref17_Told.e1 (K n : Nat) : depotref17_Told.r1 K n = depotref17_Told.l1 K n := by
  induction n with
  | zero => funext x; rfl
  | succ n ih => funext x; rw [depotref17_Told.s1, ih, show depotref17_Told.r0 K = depotref17_Told.l0 K from funext (depotref17_Told.e0 K)]; rfl
theorem depotref17_Told.body_eq (K : Nat) (x : depotref17_Told.spec.args.den) : body (depotref17_Told.env.at K) 8 48 depotref17_Told.spec x = depotref17_Told.tr (depotref17_Told.r1 K) K x.1 := by kernel_rfl
theorem depotref17_Told.contract : Contract Tryz.prog gl 48 depotref17_Told.spec :=
  contract_of (E := depotref17_Told.env) ⟨TIok_of tiOK, FnsOK_of ⟨⟨Tryz.func48, Tryz.call48⟩, trivial⟩, mixed⟩ (SpecsOK_of (E := depotref17_Told.env) ⟨depotref09_All.contract, depotref06_Split.contract, depotref02_Seconds.contract, trivial⟩) Tryz.call48 rfl rfl fun K x r h => by
    rw [depotref17_Told.body_eq, show depotref17_Told.r1 K = depotref17_Told.l1 K from funext (depotref17_Told.e1 K)]; exact h

def depotref02_read.spec : Dp.Spec := { args := (.scons .str (.scons (.int .i64) (.scons (.int .i64) (.scons (.int .i64) .snil)))), res := (.tup (.scons (.int .i64) (.scons (.int .i64) .snil))), own := false, F := fun K x => depotref02_read K x.1 x.2.1 x.2.2.1 x.2.2.2.1 }
def depotref02_read.hint : Dp.Hint := { n := 52, regions := [(1, [(.normal, { regs := [(0, .str), (1, (.int .i64)), (3, (.int .i64)), (22, .bool)] })]), (8, [(.normal, { regs := [(0, .str), (1, (.int .i64)), (3, (.int .i64)), (10, (.int .i64)), (11, (.int .i64)), (12, (.int .i64)), (42, .bool)] })])], loops := [(5, { regs := [(0, .str), (1, (.int .i64)), (3, (.int .i64)), (10, (.int .i64)), (11, (.int .i64))] }, [(.exit 0, { regs := [(3, (.int .i64)), (10, (.int .i64))] }), (.ret, { regs := [(8, (.int .i64)), (9, (.int .i64))] })])] }
noncomputable def depotref02_read.env : Dp.Env := { ti := ti, gl := gl, fns := [(217, Tryz.f217, depotref02_read.hint)], specs := [(187, depotref01_Hex.spec)], K := 0 }
noncomputable def depotref02_read.r0 (K : Nat) : Nat → (((List UInt8) × ((Int) × ((Int) × ((Int) × ((Int) × (Unit)))))) × (Unit)) → Option ((((Int) × ((Int) × (Unit))) × (Unit)) ⊕ (((Int) × ((Int) × (Unit))) × (Unit))) :=
  loopV [(.exit 0, { regs := [(3, (.int .i64)), (10, (.int .i64))] }), (.ret, { regs := [(8, (.int .i64)), (9, (.int .i64))] })] { regs := [(0, .str), (1, (.int .i64)), (3, (.int .i64)), (10, (.int .i64)), (11, (.int .i64))] } (interp (depotref02_read.env.at K) depotref02_read.hint (callF (depotref02_read.env.at K) 7) (Code.sub [1, 1, 1, 0, 1, 0, 0] (Tryz.f217.body.getD .skip)) _)
theorem depotref02_read.s0 (K n : Nat) (x : (((List UInt8) × ((Int) × ((Int) × ((Int) × ((Int) × (Unit)))))) × (Unit))) : depotref02_read.r0 K (n + 1) x = depotref02_read.t0 K (depotref02_read.r0 K n) x := by kernel_rfl
theorem depotref02_read.e0 (K n : Nat) : depotref02_read.r0 K n = depotref02_read.l0 K n := by
  induction n with
  | zero => funext x; rfl
  | succ n ih => funext x; rw [depotref02_read.s0, ih]; rfl
theorem depotref02_read.body_eq (K : Nat) (x : depotref02_read.spec.args.den) : body (depotref02_read.env.at K) 8 217 depotref02_read.spec x = depotref02_read.tr (depotref02_read.r0 K) K x.1 x.2.1 x.2.2.1 x.2.2.2.1 := by kernel_rfl
theorem depotref02_read.contract : Contract Tryz.prog gl 217 depotref02_read.spec :=
  contract_of (E := depotref02_read.env) ⟨TIok_of tiOK, FnsOK_of ⟨⟨Tryz.func217, Tryz.call217⟩, trivial⟩, mixed⟩ (SpecsOK_of (E := depotref02_read.env) ⟨depotref01_Hex.contract, trivial⟩) Tryz.call217 rfl rfl fun K x r h => by
    rw [depotref02_read.body_eq, show depotref02_read.r0 K = depotref02_read.l0 K from funext (depotref02_read.e0 K)]; exact h

def depotref02_Number.spec : Dp.Spec := { args := (.scons .str (.scons (.int .i64) .snil)), res := (.tup (.scons (.int .i64) (.scons (.int .i64) .snil))), own := false, F := fun K x => depotref02_Number K x.1 x.2.1 }
def depotref02_Number.hint : Dp.Hint := { n := 11 }
noncomputable def depotref02_Number.env : Dp.Env := { ti := ti, gl := gl, fns := [(181, Tryz.f181, depotref02_Number.hint)], specs := [(217, depotref02_read.spec)], K := 0 }
theorem depotref02_Number.body_eq (K : Nat) (x : depotref02_Number.spec.args.den) : body (depotref02_Number.env.at K) 8 181 depotref02_Number.spec x = depotref02_Number K x.1 x.2.1 := by kernel_rfl
theorem depotref02_Number.contract : Contract Tryz.prog gl 181 depotref02_Number.spec :=
  contract_of (E := depotref02_Number.env) ⟨TIok_of tiOK, FnsOK_of ⟨⟨Tryz.func181, Tryz.call181⟩, trivial⟩, mixed⟩ (SpecsOK_of (E := depotref02_Number.env) ⟨depotref02_read.contract, trivial⟩) Tryz.call181 rfl rfl fun K x r h => by
    rw [depotref02_Number.body_eq]; exact h

def depotref07_digits.spec : Dp.Spec := { args := (.scons .str (.scons (.int .i64) (.scons (.int .i64) .snil))), res := (.int .i64), own := false, F := fun K x => depotref07_digits K x.1 x.2.1 x.2.2.1 }
def depotref07_digits.hint : Dp.Hint := { n := 32, regions := [(1, [(.normal, { regs := [(0, .str), (1, (.int .i64)), (2, (.int .i64)), (18, .bool)] })])] }
noncomputable def depotref07_digits.env : Dp.Env := { ti := ti, gl := gl, fns := [(124, Tryz.f124, depotref07_digits.hint)], specs := [(181, depotref02_Number.spec)], K := 0 }
theorem depotref07_digits.body_eq (K : Nat) (x : depotref07_digits.spec.args.den) : body (depotref07_digits.env.at K) 8 124 depotref07_digits.spec x = depotref07_digits K x.1 x.2.1 x.2.2.1 := by kernel_rfl
theorem depotref07_digits.contract : Contract Tryz.prog gl 124 depotref07_digits.spec :=
  contract_of (E := depotref07_digits.env) ⟨TIok_of tiOK, FnsOK_of ⟨⟨Tryz.func124, Tryz.call124⟩, trivial⟩, mixed⟩ (SpecsOK_of (E := depotref07_digits.env) ⟨depotref02_Number.contract, trivial⟩) Tryz.call124 rfl rfl fun K x r h => by
    rw [depotref07_digits.body_eq]; exact h

def depotref07_month.spec : Dp.Spec := { args := (.scons (.int .i64) .snil), res := .str, own := false, F := fun K x => depotref07_month K x.1 }
def depotref07_month.hint : Dp.Hint := { n := 9 }
noncomputable def depotref07_month.env : Dp.Env := { ti := ti, gl := gl, fns := [(179, Tryz.f179, depotref07_month.hint)], specs := [], K := 0 }
theorem depotref07_month.body_eq (K : Nat) (x : depotref07_month.spec.args.den) : body (depotref07_month.env.at K) 8 179 depotref07_month.spec x = depotref07_month K x.1 := by kernel_rfl
theorem depotref07_month.contract : Contract Tryz.prog gl 179 depotref07_month.spec :=
  contract_of (E := depotref07_month.env) ⟨TIok_of tiOK, FnsOK_of ⟨⟨Tryz.func179, Tryz.call179⟩, trivial⟩, mixed⟩ (SpecsOK_of (E := depotref07_month.env) trivial) Tryz.call179 rfl rfl fun K x r h => by
    rw [depotref07_month.body_eq]; exact h

def depotref07_leap.spec : Dp.Spec := { args := (.scons (.int .i64) .snil), res := .bool, own := false, F := fun K x => depotref07_leap K x.1 }
def depotref07_leap.hint : Dp.Hint := { n := 16 }
noncomputable def depotref07_leap.env : Dp.Env := { ti := ti, gl := gl, fns := [(235, Tryz.f235, depotref07_leap.hint)], specs := [], K := 0 }
theorem depotref07_leap.body_eq (K : Nat) (x : depotref07_leap.spec.args.den) : body (depotref07_leap.env.at K) 8 235 depotref07_leap.spec x = depotref07_leap K x.1 := by kernel_rfl
theorem depotref07_leap.contract : Contract Tryz.prog gl 235 depotref07_leap.spec :=
  contract_of (E := depotref07_leap.env) ⟨TIok_of tiOK, FnsOK_of ⟨⟨Tryz.func235, Tryz.call235⟩, trivial⟩, mixed⟩ (SpecsOK_of (E := depotref07_leap.env) trivial) Tryz.call235 rfl rfl fun K x r h => by
    rw [depotref07_leap.body_eq]; exact h

def depotref07_long.spec : Dp.Spec := { args := (.scons (.int .i64) (.scons (.int .i64) .snil)), res := (.int .i64), own := false, F := fun K x => depotref07_long K x.1 x.2.1 }
def depotref07_long.hint : Dp.Hint := { n := 16, regions := [(1, [(.normal, { regs := [(1, (.int .i64)), (10, .bool)] })])] }
noncomputable def depotref07_long.env : Dp.Env := { ti := ti, gl := gl, fns := [(215, Tryz.f215, depotref07_long.hint)], specs := [(235, depotref07_leap.spec)], K := 0 }
theorem depotref07_long.body_eq (K : Nat) (x : depotref07_long.spec.args.den) : body (depotref07_long.env.at K) 8 215 depotref07_long.spec x = depotref07_long K x.1 x.2.1 := by kernel_rfl
theorem depotref07_long.contract : Contract Tryz.prog gl 215 depotref07_long.spec :=
  contract_of (E := depotref07_long.env) ⟨TIok_of tiOK, FnsOK_of ⟨⟨Tryz.func215, Tryz.call215⟩, trivial⟩, mixed⟩ (SpecsOK_of (E := depotref07_long.env) ⟨depotref07_leap.contract, trivial⟩) Tryz.call215 rfl rfl fun K x r h => by
    rw [depotref07_long.body_eq]; exact h

def depotref07_year.spec : Dp.Spec := { args := (.scons (.int .i64) .snil), res := (.int .i64), own := false, F := fun K x => depotref07_year K x.1 }
def depotref07_year.hint : Dp.Hint := { n := 5 }
noncomputable def depotref07_year.env : Dp.Env := { ti := ti, gl := gl, fns := [(216, Tryz.f216, depotref07_year.hint)], specs := [(235, depotref07_leap.spec)], K := 0 }
theorem depotref07_year.body_eq (K : Nat) (x : depotref07_year.spec.args.den) : body (depotref07_year.env.at K) 8 216 depotref07_year.spec x = depotref07_year K x.1 := by kernel_rfl
theorem depotref07_year.contract : Contract Tryz.prog gl 216 depotref07_year.spec :=
  contract_of (E := depotref07_year.env) ⟨TIok_of tiOK, FnsOK_of ⟨⟨Tryz.func216, Tryz.call216⟩, trivial⟩, mixed⟩ (SpecsOK_of (E := depotref07_year.env) ⟨depotref07_leap.contract, trivial⟩) Tryz.call216 rfl rfl fun K x r h => by
    rw [depotref07_year.body_eq]; exact h

def depotref07_Days.spec : Dp.Spec := { args := (.scons (.int .i64) (.scons (.int .i64) (.scons (.int .i64) .snil))), res := (.tup (.scons (.int .i64) (.scons .bool .snil))), own := false, F := fun K x => depotref07_Days K x.1 x.2.1 x.2.2.1 }
def depotref07_Days.hint : Dp.Hint := { n := 58, regions := [(1, [(.normal, { regs := [(0, (.int .i64)), (1, (.int .i64)), (2, (.int .i64)), (35, .bool)] })])], loops := [(5, { regs := [(0, (.int .i64)), (1, (.int .i64)), (8, (.int .i64)), (9, (.int .i64))] }, [(.exit 0, { regs := [(0, (.int .i64)), (1, (.int .i64)), (8, (.int .i64))] })]), (9, { regs := [(0, (.int .i64)), (1, (.int .i64)), (8, (.int .i64)), (10, (.int .i64))] }, [(.exit 2, { regs := [(8, (.int .i64))] })])] }
noncomputable def depotref07_Days.env : Dp.Env := { ti := ti, gl := gl, fns := [(180, Tryz.f180, depotref07_Days.hint)], specs := [(215, depotref07_long.spec), (216, depotref07_year.spec)], K := 0 }
noncomputable def depotref07_Days.r1 (K : Nat) : Nat → (((Int) × ((Int) × ((Int) × ((Int) × (Unit))))) × (Unit)) → Option ((((Int) × (Unit)) × (Unit))) :=
  loopV [(.exit 2, { regs := [(8, (.int .i64))] })] { regs := [(0, (.int .i64)), (1, (.int .i64)), (8, (.int .i64)), (10, (.int .i64))] } (interp (depotref07_Days.env.at K) depotref07_Days.hint (callF (depotref07_Days.env.at K) 7) (Code.sub [1, 1, 1, 1, 0, 1, 0, 0] (Tryz.f180.body.getD .skip)) _)
theorem depotref07_Days.s1 (K n : Nat) (x : (((Int) × ((Int) × ((Int) × ((Int) × (Unit))))) × (Unit))) : depotref07_Days.r1 K (n + 1) x = depotref07_Days.t1 K (depotref07_Days.r1 K n) x := by kernel_rfl
theorem depotref07_Days.e1 (K n : Nat) : depotref07_Days.r1 K n = depotref07_Days.l1 K n := by
  induction n with
  | zero => funext x; rfl
  | succ n ih => funext x; rw [depotref07_Days.s1, ih]; rfl
noncomputable def depotref07_Days.r0 (K : Nat) : Nat → (((Int) × ((Int) × ((Int) × ((Int) × (Unit))))) × (Unit)) → Option ((((Int) × ((Int) × ((Int) × (Unit)))) × (Unit))) :=
  loopV [(.exit 0, { regs := [(0, (.int .i64)), (1, (.int .i64)), (8, (.int .i64))] })] { regs := [(0, (.int .i64)), (1, (.int .i64)), (8, (.int .i64)), (9, (.int .i64))] } (interp (depotref07_Days.env.at K) depotref07_Days.hint (callF (depotref07_Days.env.at K) 7) (Code.sub [1, 1, 1, 0, 1, 0, 0] (Tryz.f180.body.getD .skip)) _)
theorem depotref07_Days.s0 (K n : Nat) (x : (((Int) × ((Int) × ((Int) × ((Int) × (Unit))))) × (Unit))) : depotref07_Days.r0 K (n + 1) x = depotref07_Days.t0 K (depotref07_Days.r0 K n) x := by kernel_rfl
theorem depotref07_Days.e0 (K n : Nat) : depotref07_Days.r0 K n = depotref07_Days.l0 K n := by
  induction n with
  | zero => funext x; rfl
  | succ n ih => funext x; rw [depotref07_Days.s0, ih]; rfl
theorem depotref07_Days.body_eq (K : Nat) (x : depotref07_Days.spec.args.den) : body (depotref07_Days.env.at K) 8 180 depotref07_Days.spec x = depotref07_Days.tr (depotref07_Days.r0 K) (depotref07_Days.r1 K) K x.1 x.2.1 x.2.2.1 := by kernel_rfl
theorem depotref07_Days.contract : Contract Tryz.prog gl 180 depotref07_Days.spec :=
  contract_of (E := depotref07_Days.env) ⟨TIok_of tiOK, FnsOK_of ⟨⟨Tryz.func180, Tryz.call180⟩, trivial⟩, mixed⟩ (SpecsOK_of (E := depotref07_Days.env) ⟨depotref07_long.contract, depotref07_year.contract, trivial⟩) Tryz.call180 rfl rfl fun K x r h => by
    rw [depotref07_Days.body_eq, show depotref07_Days.r0 K = depotref07_Days.l0 K from funext (depotref07_Days.e0 K), show depotref07_Days.r1 K = depotref07_Days.l1 K from funext (depotref07_Days.e1 K)]; exact h

def depotref07_time.spec : Dp.Spec := { args := (.scons .str (.scons (.int .i64) (.scons (.int .i64) (.scons (.int .i64) (.scons (.int .i64) .snil))))), res := (.int .i64), own := false, F := fun K x => depotref07_time K x.1 x.2.1 x.2.2.1 x.2.2.2.1 x.2.2.2.2.1 }
def depotref07_time.hint : Dp.Hint := { n := 92, regions := [(1, [(.normal, { regs := [(0, .str), (1, (.int .i64)), (2, (.int .i64)), (3, (.int .i64)), (4, (.int .i64)), (25, .bool)] })]), (9, [(.normal, { regs := [(12, (.int .i64)), (14, (.int .i64)), (15, (.int .i64)), (16, (.int .i64)), (81, .bool)] })])], loops := [(4, { regs := [(0, .str), (1, (.int .i64)), (2, (.int .i64)), (3, (.int .i64)), (4, (.int .i64)), (11, (.int .i64))] }, [(.exit 0, { regs := [] }), (.ret, { regs := [(10, (.int .i64))] })])] }
noncomputable def depotref07_time.env : Dp.Env := { ti := ti, gl := gl, fns := [(123, Tryz.f123, depotref07_time.hint)], specs := [(124, depotref07_digits.spec), (179, depotref07_month.spec), (180, depotref07_Days.spec)], K := 0 }
noncomputable def depotref07_time.r0 (K : Nat) : Nat → (((List UInt8) × ((Int) × ((Int) × ((Int) × ((Int) × ((Int) × (Unit))))))) × (Unit)) → Option (((Unit) × (Unit)) ⊕ (((Int) × (Unit)) × (Unit))) :=
  loopV [(.exit 0, { regs := [] }), (.ret, { regs := [(10, (.int .i64))] })] { regs := [(0, .str), (1, (.int .i64)), (2, (.int .i64)), (3, (.int .i64)), (4, (.int .i64)), (11, (.int .i64))] } (interp (depotref07_time.env.at K) depotref07_time.hint (callF (depotref07_time.env.at K) 7) (Code.sub [1, 1, 0, 1, 0, 0] (Tryz.f123.body.getD .skip)) _)
theorem depotref07_time.s0 (K n : Nat) (x : (((List UInt8) × ((Int) × ((Int) × ((Int) × ((Int) × ((Int) × (Unit))))))) × (Unit))) : depotref07_time.r0 K (n + 1) x = depotref07_time.t0 K (depotref07_time.r0 K n) x := by kernel_rfl
theorem depotref07_time.e0 (K n : Nat) : depotref07_time.r0 K n = depotref07_time.l0 K n := by
  induction n with
  | zero => funext x; rfl
  | succ n ih => funext x; rw [depotref07_time.s0, ih]; rfl
theorem depotref07_time.body_eq (K : Nat) (x : depotref07_time.spec.args.den) : body (depotref07_time.env.at K) 8 123 depotref07_time.spec x = depotref07_time.tr (depotref07_time.r0 K) K x.1 x.2.1 x.2.2.1 x.2.2.2.1 x.2.2.2.2.1 := by kernel_rfl
theorem depotref07_time.contract : Contract Tryz.prog gl 123 depotref07_time.spec :=
  contract_of (E := depotref07_time.env) ⟨TIok_of tiOK, FnsOK_of ⟨⟨Tryz.func123, Tryz.call123⟩, trivial⟩, mixed⟩ (SpecsOK_of (E := depotref07_time.env) ⟨depotref07_digits.contract, depotref07_month.contract, depotref07_Days.contract, trivial⟩) Tryz.call123 rfl rfl fun K x r h => by
    rw [depotref07_time.body_eq, show depotref07_time.r0 K = depotref07_time.l0 K from funext (depotref07_time.e0 K)]; exact h

def depotref07_Civil.spec : Dp.Spec := { args := (.scons (.int .i64) .snil), res := (.tup (.scons (.int .i64) (.scons (.int .i64) (.scons (.int .i64) (.scons .bool .snil))))), own := false, F := fun K x => depotref07_Civil K x.1 }
def depotref07_Civil.hint : Dp.Hint := { n := 40, regions := [(1, [(.normal, { regs := [(0, (.int .i64)), (13, .bool)] })])], loops := [(4, { regs := [(0, (.int .i64)), (6, (.int .i64)), (7, (.int .i64))] }, [(.exit 0, { regs := [(0, (.int .i64)), (6, (.int .i64)), (7, (.int .i64))] })]), (7, { regs := [(0, (.int .i64)), (6, (.int .i64)), (7, (.int .i64))] }, [(.exit 2, { regs := [(0, (.int .i64)), (6, (.int .i64)), (7, (.int .i64))] })])] }
noncomputable def depotref07_Civil.env : Dp.Env := { ti := ti, gl := gl, fns := [(182, Tryz.f182, depotref07_Civil.hint)], specs := [(215, depotref07_long.spec), (216, depotref07_year.spec)], K := 0 }
noncomputable def depotref07_Civil.r1 (K : Nat) : Nat → (((Int) × ((Int) × ((Int) × (Unit)))) × (Unit)) → Option ((((Int) × ((Int) × ((Int) × (Unit)))) × (Unit))) :=
  loopV [(.exit 2, { regs := [(0, (.int .i64)), (6, (.int .i64)), (7, (.int .i64))] })] { regs := [(0, (.int .i64)), (6, (.int .i64)), (7, (.int .i64))] } (interp (depotref07_Civil.env.at K) depotref07_Civil.hint (callF (depotref07_Civil.env.at K) 7) (Code.sub [1, 1, 1, 1, 0, 0, 0] (Tryz.f182.body.getD .skip)) _)
theorem depotref07_Civil.s1 (K n : Nat) (x : (((Int) × ((Int) × ((Int) × (Unit)))) × (Unit))) : depotref07_Civil.r1 K (n + 1) x = depotref07_Civil.t1 K (depotref07_Civil.r1 K n) x := by kernel_rfl
theorem depotref07_Civil.e1 (K n : Nat) : depotref07_Civil.r1 K n = depotref07_Civil.l1 K n := by
  induction n with
  | zero => funext x; rfl
  | succ n ih => funext x; rw [depotref07_Civil.s1, ih]; rfl
noncomputable def depotref07_Civil.r0 (K : Nat) : Nat → (((Int) × ((Int) × ((Int) × (Unit)))) × (Unit)) → Option ((((Int) × ((Int) × ((Int) × (Unit)))) × (Unit))) :=
  loopV [(.exit 0, { regs := [(0, (.int .i64)), (6, (.int .i64)), (7, (.int .i64))] })] { regs := [(0, (.int .i64)), (6, (.int .i64)), (7, (.int .i64))] } (interp (depotref07_Civil.env.at K) depotref07_Civil.hint (callF (depotref07_Civil.env.at K) 7) (Code.sub [1, 1, 1, 0, 0, 0] (Tryz.f182.body.getD .skip)) _)
theorem depotref07_Civil.s0 (K n : Nat) (x : (((Int) × ((Int) × ((Int) × (Unit)))) × (Unit))) : depotref07_Civil.r0 K (n + 1) x = depotref07_Civil.t0 K (depotref07_Civil.r0 K n) x := by kernel_rfl
theorem depotref07_Civil.e0 (K n : Nat) : depotref07_Civil.r0 K n = depotref07_Civil.l0 K n := by
  induction n with
  | zero => funext x; rfl
  | succ n ih => funext x; rw [depotref07_Civil.s0, ih]; rfl
theorem depotref07_Civil.body_eq (K : Nat) (x : depotref07_Civil.spec.args.den) : body (depotref07_Civil.env.at K) 8 182 depotref07_Civil.spec x = depotref07_Civil.tr (depotref07_Civil.r0 K) (depotref07_Civil.r1 K) K x.1 := by kernel_rfl
theorem depotref07_Civil.contract : Contract Tryz.prog gl 182 depotref07_Civil.spec :=
  contract_of (E := depotref07_Civil.env) ⟨TIok_of tiOK, FnsOK_of ⟨⟨Tryz.func182, Tryz.call182⟩, trivial⟩, mixed⟩ (SpecsOK_of (E := depotref07_Civil.env) ⟨depotref07_long.contract, depotref07_year.contract, trivial⟩) Tryz.call182 rfl rfl fun K x r h => by
    rw [depotref07_Civil.body_eq, show depotref07_Civil.r0 K = depotref07_Civil.l0 K from funext (depotref07_Civil.e0 K), show depotref07_Civil.r1 K = depotref07_Civil.l1 K from funext (depotref07_Civil.e1 K)]; exact h

def depotref07_Weekday.spec : Dp.Spec := { args := (.scons (.int .i64) .snil), res := (.int .i64), own := false, F := fun K x => depotref07_Weekday K x.1 }
def depotref07_Weekday.hint : Dp.Hint := { n := 9 }
noncomputable def depotref07_Weekday.env : Dp.Env := { ti := ti, gl := gl, fns := [(184, Tryz.f184, depotref07_Weekday.hint)], specs := [], K := 0 }
theorem depotref07_Weekday.body_eq (K : Nat) (x : depotref07_Weekday.spec.args.den) : body (depotref07_Weekday.env.at K) 8 184 depotref07_Weekday.spec x = depotref07_Weekday K x.1 := by kernel_rfl
theorem depotref07_Weekday.contract : Contract Tryz.prog gl 184 depotref07_Weekday.spec :=
  contract_of (E := depotref07_Weekday.env) ⟨TIok_of tiOK, FnsOK_of ⟨⟨Tryz.func184, Tryz.call184⟩, trivial⟩, mixed⟩ (SpecsOK_of (E := depotref07_Weekday.env) trivial) Tryz.call184 rfl rfl fun K x r h => by
    rw [depotref07_Weekday.body_eq]; exact h

def depotref07_day.spec : Dp.Spec := { args := (.scons (.int .i64) .snil), res := .str, own := false, F := fun K x => depotref07_day K x.1 }
def depotref07_day.hint : Dp.Hint := { n := 7 }
noncomputable def depotref07_day.env : Dp.Env := { ti := ti, gl := gl, fns := [(183, Tryz.f183, depotref07_day.hint)], specs := [], K := 0 }
theorem depotref07_day.body_eq (K : Nat) (x : depotref07_day.spec.args.den) : body (depotref07_day.env.at K) 8 183 depotref07_day.spec x = depotref07_day K x.1 := by kernel_rfl
theorem depotref07_day.contract : Contract Tryz.prog gl 183 depotref07_day.spec :=
  contract_of (E := depotref07_day.env) ⟨TIok_of tiOK, FnsOK_of ⟨⟨Tryz.func183, Tryz.call183⟩, trivial⟩, mixed⟩ (SpecsOK_of (E := depotref07_day.env) trivial) Tryz.call183 rfl rfl fun K x r h => by
    rw [depotref07_day.body_eq]; exact h

def depotref02_digits.spec : Dp.Spec := { args := (.scons (.int .u64) (.scons (.int .u64) .snil)), res := .str, own := false, F := fun K x => depotref02_digits K x.1 x.2.1 }
def depotref02_digits.hint : Dp.Hint := { n := 31, loops := [(3, { regs := [(0, (.int .u64)), (1, (.int .u64)), (5, .str), (6, .str)] }, [(.exit 0, { regs := [(0, (.int .u64)), (5, .str), (6, .str)] })])] }
noncomputable def depotref02_digits.env : Dp.Env := { ti := ti, gl := gl, fns := [(102, Tryz.f102, depotref02_digits.hint)], specs := [], K := 0 }
noncomputable def depotref02_digits.r0 (K : Nat) : Nat → (((Int) × ((Int) × ((List UInt8) × ((List UInt8) × (Unit))))) × (Unit)) → Option ((((Int) × ((List UInt8) × ((List UInt8) × (Unit)))) × (Unit))) :=
  loopV [(.exit 0, { regs := [(0, (.int .u64)), (5, .str), (6, .str)] })] { regs := [(0, (.int .u64)), (1, (.int .u64)), (5, .str), (6, .str)] } (interp (depotref02_digits.env.at K) depotref02_digits.hint (callF (depotref02_digits.env.at K) 7) (Code.sub [1, 1, 1, 0, 0, 0] (Tryz.f102.body.getD .skip)) _)
theorem depotref02_digits.s0 (K n : Nat) (x : (((Int) × ((Int) × ((List UInt8) × ((List UInt8) × (Unit))))) × (Unit))) : depotref02_digits.r0 K (n + 1) x = depotref02_digits.t0 K (depotref02_digits.r0 K n) x := by kernel_rfl
theorem depotref02_digits.e0 (K n : Nat) : depotref02_digits.r0 K n = depotref02_digits.l0 K n := by
  induction n with
  | zero => funext x; rfl
  | succ n ih => funext x; rw [depotref02_digits.s0, ih]; rfl
theorem depotref02_digits.body_eq (K : Nat) (x : depotref02_digits.spec.args.den) : body (depotref02_digits.env.at K) 8 102 depotref02_digits.spec x = depotref02_digits.tr (depotref02_digits.r0 K) K x.1 x.2.1 := by kernel_rfl
theorem depotref02_digits.contract : Contract Tryz.prog gl 102 depotref02_digits.spec :=
  contract_of (E := depotref02_digits.env) ⟨TIok_of tiOK, FnsOK_of ⟨⟨Tryz.func102, Tryz.call102⟩, trivial⟩, mixed⟩ (SpecsOK_of (E := depotref02_digits.env) trivial) Tryz.call102 rfl rfl fun K x r h => by
    rw [depotref02_digits.body_eq, show depotref02_digits.r0 K = depotref02_digits.l0 K from funext (depotref02_digits.e0 K)]; exact h

def depotref02_Plain.spec : Dp.Spec := { args := (.scons (.int .i64) .snil), res := .str, own := false, F := fun K x => depotref02_Plain K x.1 }
def depotref02_Plain.hint : Dp.Hint := { n := 13 }
noncomputable def depotref02_Plain.env : Dp.Env := { ti := ti, gl := gl, fns := [(67, Tryz.f67, depotref02_Plain.hint)], specs := [(102, depotref02_digits.spec)], K := 0 }
theorem depotref02_Plain.body_eq (K : Nat) (x : depotref02_Plain.spec.args.den) : body (depotref02_Plain.env.at K) 8 67 depotref02_Plain.spec x = depotref02_Plain K x.1 := by kernel_rfl
theorem depotref02_Plain.contract : Contract Tryz.prog gl 67 depotref02_Plain.spec :=
  contract_of (E := depotref02_Plain.env) ⟨TIok_of tiOK, FnsOK_of ⟨⟨Tryz.func67, Tryz.call67⟩, trivial⟩, mixed⟩ (SpecsOK_of (E := depotref02_Plain.env) ⟨depotref02_digits.contract, trivial⟩) Tryz.call67 rfl rfl fun K x r h => by
    rw [depotref02_Plain.body_eq]; exact h

def depotref02_Pad.spec : Dp.Spec := { args := (.scons (.int .i64) (.scons (.int .i64) .snil)), res := .str, own := false, F := fun K x => depotref02_Pad K x.1 x.2.1 }
def depotref02_Pad.hint : Dp.Hint := { n := 22, regions := [(2, [(.normal, { regs := [(1, (.int .i64)), (5, .str), (13, .bool)] })])], loops := [(4, { regs := [(1, (.int .i64)), (5, .str)] }, [(.exit 0, { regs := [(5, .str)] })])] }
noncomputable def depotref02_Pad.env : Dp.Env := { ti := ti, gl := gl, fns := [(185, Tryz.f185, depotref02_Pad.hint)], specs := [(67, depotref02_Plain.spec)], K := 0 }
noncomputable def depotref02_Pad.r0 (K : Nat) : Nat → (((Int) × ((List UInt8) × (Unit))) × (Unit)) → Option ((((List UInt8) × (Unit)) × (Unit))) :=
  loopV [(.exit 0, { regs := [(5, .str)] })] { regs := [(1, (.int .i64)), (5, .str)] } (interp (depotref02_Pad.env.at K) depotref02_Pad.hint (callF (depotref02_Pad.env.at K) 7) (Code.sub [1, 1, 1, 0, 0, 0] (Tryz.f185.body.getD .skip)) _)
theorem depotref02_Pad.s0 (K n : Nat) (x : (((Int) × ((List UInt8) × (Unit))) × (Unit))) : depotref02_Pad.r0 K (n + 1) x = depotref02_Pad.t0 K (depotref02_Pad.r0 K n) x := by kernel_rfl
theorem depotref02_Pad.e0 (K n : Nat) : depotref02_Pad.r0 K n = depotref02_Pad.l0 K n := by
  induction n with
  | zero => funext x; rfl
  | succ n ih => funext x; rw [depotref02_Pad.s0, ih]; rfl
theorem depotref02_Pad.body_eq (K : Nat) (x : depotref02_Pad.spec.args.den) : body (depotref02_Pad.env.at K) 8 185 depotref02_Pad.spec x = depotref02_Pad.tr (depotref02_Pad.r0 K) K x.1 x.2.1 := by kernel_rfl
theorem depotref02_Pad.contract : Contract Tryz.prog gl 185 depotref02_Pad.spec :=
  contract_of (E := depotref02_Pad.env) ⟨TIok_of tiOK, FnsOK_of ⟨⟨Tryz.func185, Tryz.call185⟩, trivial⟩, mixed⟩ (SpecsOK_of (E := depotref02_Pad.env) ⟨depotref02_Plain.contract, trivial⟩) Tryz.call185 rfl rfl fun K x r h => by
    rw [depotref02_Pad.body_eq, show depotref02_Pad.r0 K = depotref02_Pad.l0 K from funext (depotref02_Pad.e0 K)]; exact h

def depotref07_clock.spec : Dp.Spec := { args := (.scons (.int .i64) .snil), res := .str, own := false, F := fun K x => depotref07_clock K x.1 }
def depotref07_clock.hint : Dp.Hint := { n := 20 }
noncomputable def depotref07_clock.env : Dp.Env := { ti := ti, gl := gl, fns := [(186, Tryz.f186, depotref07_clock.hint)], specs := [(185, depotref02_Pad.spec)], K := 0 }
theorem depotref07_clock.body_eq (K : Nat) (x : depotref07_clock.spec.args.den) : body (depotref07_clock.env.at K) 8 186 depotref07_clock.spec x = depotref07_clock K x.1 := by kernel_rfl
theorem depotref07_clock.contract : Contract Tryz.prog gl 186 depotref07_clock.spec :=
  contract_of (E := depotref07_clock.env) ⟨TIok_of tiOK, FnsOK_of ⟨⟨Tryz.func186, Tryz.call186⟩, trivial⟩, mixed⟩ (SpecsOK_of (E := depotref07_clock.env) ⟨depotref02_Pad.contract, trivial⟩) Tryz.call186 rfl rfl fun K x r h => by
    rw [depotref07_clock.body_eq]; exact h

def depotref07_Format.spec : Dp.Spec := { args := (.scons (.int .i64) .snil), res := .str, own := false, F := fun K x => depotref07_Format K x.1 }
def depotref07_Format.hint : Dp.Hint := { n := 43, regions := [(1, [(.normal, { regs := [(0, (.int .i64)), (12, .bool)] })])] }
noncomputable def depotref07_Format.env : Dp.Env := { ti := ti, gl := gl, fns := [(125, Tryz.f125, depotref07_Format.hint)], specs := [(179, depotref07_month.spec), (182, depotref07_Civil.spec), (184, depotref07_Weekday.spec), (183, depotref07_day.spec), (185, depotref02_Pad.spec), (186, depotref07_clock.spec)], K := 0 }
theorem depotref07_Format.body_eq (K : Nat) (x : depotref07_Format.spec.args.den) : body (depotref07_Format.env.at K) 8 125 depotref07_Format.spec x = depotref07_Format K x.1 := by kernel_rfl
theorem depotref07_Format.contract : Contract Tryz.prog gl 125 depotref07_Format.spec :=
  contract_of (E := depotref07_Format.env) ⟨TIok_of tiOK, FnsOK_of ⟨⟨Tryz.func125, Tryz.call125⟩, trivial⟩, mixed⟩ (SpecsOK_of (E := depotref07_Format.env) ⟨depotref07_month.contract, depotref07_Civil.contract, depotref07_Weekday.contract, depotref07_day.contract, depotref02_Pad.contract, depotref07_clock.contract, trivial⟩) Tryz.call125 rfl rfl fun K x r h => by
    rw [depotref07_Format.body_eq]; exact h

def depotref07_Old.spec : Dp.Spec := { args := (.scons (.int .i64) .snil), res := .str, own := false, F := fun K x => depotref07_Old K x.1 }
def depotref07_Old.hint : Dp.Hint := { n := 43, regions := [(1, [(.normal, { regs := [(0, (.int .i64)), (12, .bool)] })])] }
noncomputable def depotref07_Old.env : Dp.Env := { ti := ti, gl := gl, fns := [(126, Tryz.f126, depotref07_Old.hint)], specs := [(179, depotref07_month.spec), (182, depotref07_Civil.spec), (184, depotref07_Weekday.spec), (183, depotref07_day.spec), (185, depotref02_Pad.spec), (186, depotref07_clock.spec)], K := 0 }
theorem depotref07_Old.body_eq (K : Nat) (x : depotref07_Old.spec.args.den) : body (depotref07_Old.env.at K) 8 126 depotref07_Old.spec x = depotref07_Old K x.1 := by kernel_rfl
theorem depotref07_Old.contract : Contract Tryz.prog gl 126 depotref07_Old.spec :=
  contract_of (E := depotref07_Old.env) ⟨TIok_of tiOK, FnsOK_of ⟨⟨Tryz.func126, Tryz.call126⟩, trivial⟩, mixed⟩ (SpecsOK_of (E := depotref07_Old.env) ⟨depotref07_month.contract, depotref07_Civil.contract, depotref07_Weekday.contract, depotref07_day.contract, depotref02_Pad.contract, depotref07_clock.contract, trivial⟩) Tryz.call126 rfl rfl fun K x r h => by
    rw [depotref07_Old.body_eq]; exact h

def depotref07_Plain.spec : Dp.Spec := { args := (.scons (.int .i64) .snil), res := .str, own := false, F := fun K x => depotref07_Plain K x.1 }
def depotref07_Plain.hint : Dp.Hint := { n := 48, conds := [(25, [(.normal, { regs := [(0, (.int .i64)), (3, (.int .i64)), (4, (.int .i64)), (7, .str)] })])], regions := [(1, [(.normal, { regs := [(0, (.int .i64)), (13, .bool)] })])] }
noncomputable def depotref07_Plain.env : Dp.Env := { ti := ti, gl := gl, fns := [(127, Tryz.f127, depotref07_Plain.hint)], specs := [(179, depotref07_month.spec), (182, depotref07_Civil.spec), (184, depotref07_Weekday.spec), (183, depotref07_day.spec), (67, depotref02_Plain.spec), (185, depotref02_Pad.spec), (186, depotref07_clock.spec)], K := 0 }
theorem depotref07_Plain.body_eq (K : Nat) (x : depotref07_Plain.spec.args.den) : body (depotref07_Plain.env.at K) 8 127 depotref07_Plain.spec x = depotref07_Plain K x.1 := by kernel_rfl
theorem depotref07_Plain.contract : Contract Tryz.prog gl 127 depotref07_Plain.spec :=
  contract_of (E := depotref07_Plain.env) ⟨TIok_of tiOK, FnsOK_of ⟨⟨Tryz.func127, Tryz.call127⟩, trivial⟩, mixed⟩ (SpecsOK_of (E := depotref07_Plain.env) ⟨depotref07_month.contract, depotref07_Civil.contract, depotref07_Weekday.contract, depotref07_day.contract, depotref02_Plain.contract, depotref02_Pad.contract, depotref07_clock.contract, trivial⟩) Tryz.call127 rfl rfl fun K x r h => by
    rw [depotref07_Plain.body_eq]; exact h

def depotref07_Parse.spec : Dp.Spec := { args := (.scons .str .snil), res := (.tup (.scons (.int .i64) (.scons (.int .i64) .snil))), own := false, F := fun K x => depotref07_Parse K x.1 }
def depotref07_Parse.hint : Dp.Hint := { n := 87, conds := [(42, [(.normal, { regs := [(0, .str), (5, (.int .i64)), (6, (.int .i64))] })]), (70, [(.normal, { regs := [(0, .str), (8, (.int .i64))] })])], regions := [(2, [(.normal, { regs := [(0, .str), (4, (.int .i64)), (23, .bool)] })]), (5, [(.normal, { regs := [(0, .str), (5, (.int .i64)), (34, .bool)] })]), (12, [(.normal, { regs := [(0, .str), (7, (.int .i64)), (65, .bool)] })]), (18, [(.normal, { regs := [(9, (.int .i64)), (85, .bool)] })])], loops := [(5, { regs := [(0, .str), (5, (.int .i64))] }, [(.exit 0, { regs := [(0, .str), (5, (.int .i64))] })])] }
noncomputable def depotref07_Parse.env : Dp.Env := { ti := ti, gl := gl, fns := [(89, Tryz.f89, depotref07_Parse.hint)], specs := [(124, depotref07_digits.spec), (123, depotref07_time.spec), (125, depotref07_Format.spec), (126, depotref07_Old.spec), (127, depotref07_Plain.spec)], K := 0 }
noncomputable def depotref07_Parse.r0 (K : Nat) : Nat → (((List UInt8) × ((Int) × (Unit))) × (Unit)) → Option ((((List UInt8) × ((Int) × (Unit))) × (Unit))) :=
  loopV [(.exit 0, { regs := [(0, .str), (5, (.int .i64))] })] { regs := [(0, .str), (5, (.int .i64))] } (interp (depotref07_Parse.env.at K) depotref07_Parse.hint (callF (depotref07_Parse.env.at K) 7) (Code.sub [1, 1, 1, 0, 0, 0] (Tryz.f89.body.getD .skip)) _)
theorem depotref07_Parse.s0 (K n : Nat) (x : (((List UInt8) × ((Int) × (Unit))) × (Unit))) : depotref07_Parse.r0 K (n + 1) x = depotref07_Parse.t0 K (depotref07_Parse.r0 K n) x := by kernel_rfl
theorem depotref07_Parse.e0 (K n : Nat) : depotref07_Parse.r0 K n = depotref07_Parse.l0 K n := by
  induction n with
  | zero => funext x; rfl
  | succ n ih => funext x; rw [depotref07_Parse.s0, ih]; rfl
theorem depotref07_Parse.body_eq (K : Nat) (x : depotref07_Parse.spec.args.den) : body (depotref07_Parse.env.at K) 8 89 depotref07_Parse.spec x = depotref07_Parse.tr (depotref07_Parse.r0 K) K x.1 := by kernel_rfl
theorem depotref07_Parse.contract : Contract Tryz.prog gl 89 depotref07_Parse.spec :=
  contract_of (E := depotref07_Parse.env) ⟨TIok_of tiOK, FnsOK_of ⟨⟨Tryz.func89, Tryz.call89⟩, trivial⟩, mixed⟩ (SpecsOK_of (E := depotref07_Parse.env) ⟨depotref07_digits.contract, depotref07_time.contract, depotref07_Format.contract, depotref07_Old.contract, depotref07_Plain.contract, trivial⟩) Tryz.call89 rfl rfl fun K x r h => by
    rw [depotref07_Parse.body_eq, show depotref07_Parse.r0 K = depotref07_Parse.l0 K from funext (depotref07_Parse.e0 K)]; exact h

def depotref17_When.spec : Dp.Spec := { args := (.scons (.list (.scons .str (.scons .str .snil))) (.scons .str .snil)), res := (.tup (.scons (.int .i64) (.scons .bool .snil))), own := false, F := fun K x => depotref17_When K x.1 x.2.1 }
def depotref17_When.hint : Dp.Hint := { n := 25 }
noncomputable def depotref17_When.env : Dp.Env := { ti := ti, gl := gl, fns := [(44, Tryz.f44, depotref17_When.hint)], specs := [(61, depotref09_All.spec), (89, depotref07_Parse.spec)], K := 0 }
theorem depotref17_When.body_eq (K : Nat) (x : depotref17_When.spec.args.den) : body (depotref17_When.env.at K) 8 44 depotref17_When.spec x = depotref17_When K x.1 x.2.1 := by kernel_rfl
theorem depotref17_When.contract : Contract Tryz.prog gl 44 depotref17_When.spec :=
  contract_of (E := depotref17_When.env) ⟨TIok_of tiOK, FnsOK_of ⟨⟨Tryz.func44, Tryz.call44⟩, trivial⟩, mixed⟩ (SpecsOK_of (E := depotref17_When.env) ⟨depotref09_All.contract, depotref07_Parse.contract, trivial⟩) Tryz.call44 rfl rfl fun K x r h => by
    rw [depotref17_When.body_eq]; exact h

def depotref17_Date.spec : Dp.Spec := { args := (.scons (.scons (.scons (.int .i64) (.scons .str (.scons (.int .i64) (.scons (.list (.scons .str (.scons .str .snil))) (.scons .str .snil))))) (.scons (.int .i64) (.scons (.list (.scons .str (.scons .bool (.scons .str .snil)))) .snil))) .snil), res := (.int .i64), own := false, F := fun K x => depotref17_Date K x.1 }
def depotref17_Date.hint : Dp.Hint := { n := 16, imm := [1] }
noncomputable def depotref17_Date.env : Dp.Env := { ti := ti, gl := gl, fns := [(46, Tryz.f46, depotref17_Date.hint)], specs := [(44, depotref17_When.spec)], K := 0 }
theorem depotref17_Date.body_eq (K : Nat) (x : depotref17_Date.spec.args.den) : body (depotref17_Date.env.at K) 8 46 depotref17_Date.spec x = depotref17_Date K x.1 := by kernel_rfl
theorem depotref17_Date.contract : Contract Tryz.prog gl 46 depotref17_Date.spec :=
  contract_of (E := depotref17_Date.env) ⟨TIok_of tiOK, FnsOK_of ⟨⟨Tryz.func46, Tryz.call46⟩, trivial⟩, mixed⟩ (SpecsOK_of (E := depotref17_Date.env) ⟨depotref17_When.contract, trivial⟩) Tryz.call46 rfl rfl fun K x r h => by
    rw [depotref17_Date.body_eq]; exact h

def depotref17_clock.spec : Dp.Spec := { args := (.scons (.int .i64) .snil), res := (.int .i64), own := false, F := fun K x => depotref17_clock K x.1 }
def depotref17_clock.hint : Dp.Hint := { n := 6 }
noncomputable def depotref17_clock.env : Dp.Env := { ti := ti, gl := gl, fns := [(117, Tryz.f117, depotref17_clock.hint)], specs := [], K := 0 }
theorem depotref17_clock.body_eq (K : Nat) (x : depotref17_clock.spec.args.den) : body (depotref17_clock.env.at K) 8 117 depotref17_clock.spec x = depotref17_clock K x.1 := by kernel_rfl
theorem depotref17_clock.contract : Contract Tryz.prog gl 117 depotref17_clock.spec :=
  contract_of (E := depotref17_clock.env) ⟨TIok_of tiOK, FnsOK_of ⟨⟨Tryz.func117, Tryz.call117⟩, trivial⟩, mixed⟩ (SpecsOK_of (E := depotref17_clock.env) trivial) Tryz.call117 rfl rfl fun K x r h => by
    rw [depotref17_clock.body_eq]; exact h

def depotref17_apart.spec : Dp.Spec := { args := (.scons (.int .i64) (.scons (.int .i64) .snil)), res := (.int .i64), own := false, F := fun K x => depotref17_apart K x.1 x.2.1 }
def depotref17_apart.hint : Dp.Hint := { n := 12 }
noncomputable def depotref17_apart.env : Dp.Env := { ti := ti, gl := gl, fns := [(84, Tryz.f84, depotref17_apart.hint)], specs := [(117, depotref17_clock.spec)], K := 0 }
theorem depotref17_apart.body_eq (K : Nat) (x : depotref17_apart.spec.args.den) : body (depotref17_apart.env.at K) 8 84 depotref17_apart.spec x = depotref17_apart K x.1 x.2.1 := by kernel_rfl
theorem depotref17_apart.contract : Contract Tryz.prog gl 84 depotref17_apart.spec :=
  contract_of (E := depotref17_apart.env) ⟨TIok_of tiOK, FnsOK_of ⟨⟨Tryz.func84, Tryz.call84⟩, trivial⟩, mixed⟩ (SpecsOK_of (E := depotref17_apart.env) ⟨depotref17_clock.contract, trivial⟩) Tryz.call84 rfl rfl fun K x r h => by
    rw [depotref17_apart.body_eq]; exact h

def depotref02_held.spec : Dp.Spec := { args := (.scons (.int .i64) .snil), res := (.int .i64), own := false, F := fun K x => depotref02_held K x.1 }
def depotref02_held.hint : Dp.Hint := { n := 6 }
noncomputable def depotref02_held.env : Dp.Env := { ti := ti, gl := gl, fns := [(116, Tryz.f116, depotref02_held.hint)], specs := [], K := 0 }
theorem depotref02_held.body_eq (K : Nat) (x : depotref02_held.spec.args.den) : body (depotref02_held.env.at K) 8 116 depotref02_held.spec x = depotref02_held K x.1 := by kernel_rfl
theorem depotref02_held.contract : Contract Tryz.prog gl 116 depotref02_held.spec :=
  contract_of (E := depotref02_held.env) ⟨TIok_of tiOK, FnsOK_of ⟨⟨Tryz.func116, Tryz.call116⟩, trivial⟩, mixed⟩ (SpecsOK_of (E := depotref02_held.env) trivial) Tryz.call116 rfl rfl fun K x r h => by
    rw [depotref02_held.body_eq]; exact h

def depotref02_Add.spec : Dp.Spec := { args := (.scons (.int .i64) (.scons (.int .i64) .snil)), res := (.int .i64), own := false, F := fun K x => depotref02_Add K x.1 x.2.1 }
def depotref02_Add.hint : Dp.Hint := { n := 11 }
noncomputable def depotref02_Add.env : Dp.Env := { ti := ti, gl := gl, fns := [(83, Tryz.f83, depotref02_Add.hint)], specs := [(116, depotref02_held.spec)], K := 0 }
theorem depotref02_Add.body_eq (K : Nat) (x : depotref02_Add.spec.args.den) : body (depotref02_Add.env.at K) 8 83 depotref02_Add.spec x = depotref02_Add K x.1 x.2.1 := by kernel_rfl
theorem depotref02_Add.contract : Contract Tryz.prog gl 83 depotref02_Add.spec :=
  contract_of (E := depotref02_Add.env) ⟨TIok_of tiOK, FnsOK_of ⟨⟨Tryz.func83, Tryz.call83⟩, trivial⟩, mixed⟩ (SpecsOK_of (E := depotref02_Add.env) ⟨depotref02_held.contract, trivial⟩) Tryz.call83 rfl rfl fun K x r h => by
    rw [depotref02_Add.body_eq]; exact h

def depotref17_Age.spec : Dp.Spec := { args := (.scons (.scons (.scons (.int .i64) (.scons .str (.scons (.int .i64) (.scons (.list (.scons .str (.scons .str .snil))) (.scons .str .snil))))) (.scons (.int .i64) (.scons (.list (.scons .str (.scons .bool (.scons .str .snil)))) .snil))) (.scons (.int .i64) .snil)), res := (.int .i64), own := false, F := fun K x => depotref17_Age K x.1 x.2.1 }
def depotref17_Age.hint : Dp.Hint := { n := 19, imm := [2] }
noncomputable def depotref17_Age.env : Dp.Env := { ti := ti, gl := gl, fns := [(36, Tryz.f36, depotref17_Age.hint)], specs := [(48, depotref17_Told.spec), (46, depotref17_Date.spec), (84, depotref17_apart.spec), (83, depotref02_Add.spec)], K := 0 }
theorem depotref17_Age.body_eq (K : Nat) (x : depotref17_Age.spec.args.den) : body (depotref17_Age.env.at K) 8 36 depotref17_Age.spec x = depotref17_Age K x.1 x.2.1 := by kernel_rfl
theorem depotref17_Age.contract : Contract Tryz.prog gl 36 depotref17_Age.spec :=
  contract_of (E := depotref17_Age.env) ⟨TIok_of tiOK, FnsOK_of ⟨⟨Tryz.func36, Tryz.call36⟩, trivial⟩, mixed⟩ (SpecsOK_of (E := depotref17_Age.env) ⟨depotref17_Told.contract, depotref17_Date.contract, depotref17_apart.contract, depotref02_Add.contract, trivial⟩) Tryz.call36 rfl rfl fun K x r h => by
    rw [depotref17_Age.body_eq]; exact h

def depotref01_Cut.spec : Dp.Spec := { args := (.scons .str (.scons (.int .u8) .snil)), res := (.tup (.scons .str (.scons .str (.scons .bool .snil)))), own := false, F := fun K x => depotref01_Cut K x.1 x.2.1 }
def depotref01_Cut.hint : Dp.Hint := { n := 27, loops := [(2, { regs := [(0, .str), (1, (.int .u8)), (7, (.int .i64))] }, [(.exit 0, { regs := [(0, .str)] }), (.ret, { regs := [(4, .str), (5, .str), (6, .bool)] })])] }
noncomputable def depotref01_Cut.env : Dp.Env := { ti := ti, gl := gl, fns := [(146, Tryz.f146, depotref01_Cut.hint)], specs := [], K := 0 }
noncomputable def depotref01_Cut.r0 (K : Nat) : Nat → (((List UInt8) × ((Int) × ((Int) × (Unit)))) × (Unit)) → Option ((((List UInt8) × (Unit)) × (Unit)) ⊕ (((List UInt8) × ((List UInt8) × ((Bool) × (Unit)))) × (Unit))) :=
  loopV [(.exit 0, { regs := [(0, .str)] }), (.ret, { regs := [(4, .str), (5, .str), (6, .bool)] })] { regs := [(0, .str), (1, (.int .u8)), (7, (.int .i64))] } (interp (depotref01_Cut.env.at K) depotref01_Cut.hint (callF (depotref01_Cut.env.at K) 7) (Code.sub [1, 0, 1, 0, 0] (Tryz.f146.body.getD .skip)) _)
theorem depotref01_Cut.s0 (K n : Nat) (x : (((List UInt8) × ((Int) × ((Int) × (Unit)))) × (Unit))) : depotref01_Cut.r0 K (n + 1) x = depotref01_Cut.t0 K (depotref01_Cut.r0 K n) x := by kernel_rfl
theorem depotref01_Cut.e0 (K n : Nat) : depotref01_Cut.r0 K n = depotref01_Cut.l0 K n := by
  induction n with
  | zero => funext x; rfl
  | succ n ih => funext x; rw [depotref01_Cut.s0, ih]; rfl
theorem depotref01_Cut.body_eq (K : Nat) (x : depotref01_Cut.spec.args.den) : body (depotref01_Cut.env.at K) 8 146 depotref01_Cut.spec x = depotref01_Cut.tr (depotref01_Cut.r0 K) K x.1 x.2.1 := by kernel_rfl
theorem depotref01_Cut.contract : Contract Tryz.prog gl 146 depotref01_Cut.spec :=
  contract_of (E := depotref01_Cut.env) ⟨TIok_of tiOK, FnsOK_of ⟨⟨Tryz.func146, Tryz.call146⟩, trivial⟩, mixed⟩ (SpecsOK_of (E := depotref01_Cut.env) trivial) Tryz.call146 rfl rfl fun K x r h => by
    rw [depotref01_Cut.body_eq, show depotref01_Cut.r0 K = depotref01_Cut.l0 K from funext (depotref01_Cut.e0 K)]; exact h

def depotref01_Token.spec : Dp.Spec := { args := (.scons (.int .u8) .snil), res := .bool, own := false, F := fun K x => depotref01_Token K x.1 }
def depotref01_Token.hint : Dp.Hint := { n := 38, regions := [(1, [(.normal, { regs := [(0, (.int .u8)), (26, .bool)] })])], loops := [(5, { regs := [(0, (.int .u8)), (3, .str), (4, (.int .i64))] }, [(.exit 0, { regs := [] }), (.ret, { regs := [(2, .bool)] })])] }
noncomputable def depotref01_Token.env : Dp.Env := { ti := ti, gl := gl, fns := [(111, Tryz.f111, depotref01_Token.hint)], specs := [], K := 0 }
noncomputable def depotref01_Token.r0 (K : Nat) : Nat → (((Int) × ((List UInt8) × ((Int) × (Unit)))) × (Unit)) → Option (((Unit) × (Unit)) ⊕ (((Bool) × (Unit)) × (Unit))) :=
  loopV [(.exit 0, { regs := [] }), (.ret, { regs := [(2, .bool)] })] { regs := [(0, (.int .u8)), (3, .str), (4, (.int .i64))] } (interp (depotref01_Token.env.at K) depotref01_Token.hint (callF (depotref01_Token.env.at K) 7) (Code.sub [1, 1, 1, 0, 1, 0, 0] (Tryz.f111.body.getD .skip)) _)
theorem depotref01_Token.s0 (K n : Nat) (x : (((Int) × ((List UInt8) × ((Int) × (Unit)))) × (Unit))) : depotref01_Token.r0 K (n + 1) x = depotref01_Token.t0 K (depotref01_Token.r0 K n) x := by kernel_rfl
theorem depotref01_Token.e0 (K n : Nat) : depotref01_Token.r0 K n = depotref01_Token.l0 K n := by
  induction n with
  | zero => funext x; rfl
  | succ n ih => funext x; rw [depotref01_Token.s0, ih]; rfl
theorem depotref01_Token.body_eq (K : Nat) (x : depotref01_Token.spec.args.den) : body (depotref01_Token.env.at K) 8 111 depotref01_Token.spec x = depotref01_Token.tr (depotref01_Token.r0 K) K x.1 := by kernel_rfl
theorem depotref01_Token.contract : Contract Tryz.prog gl 111 depotref01_Token.spec :=
  contract_of (E := depotref01_Token.env) ⟨TIok_of tiOK, FnsOK_of ⟨⟨Tryz.func111, Tryz.call111⟩, trivial⟩, mixed⟩ (SpecsOK_of (E := depotref01_Token.env) trivial) Tryz.call111 rfl rfl fun K x r h => by
    rw [depotref01_Token.body_eq, show depotref01_Token.r0 K = depotref01_Token.l0 K from funext (depotref01_Token.e0 K)]; exact h

def depotref01_IsToken.spec : Dp.Spec := { args := (.scons .str .snil), res := .bool, own := false, F := fun K x => depotref01_IsToken K x.1 }
def depotref01_IsToken.hint : Dp.Hint := { n := 18, loops := [(2, { regs := [(0, .str), (3, (.int .i64))] }, [(.exit 0, { regs := [(0, .str)] }), (.ret, { regs := [(2, .bool)] })])] }
noncomputable def depotref01_IsToken.env : Dp.Env := { ti := ti, gl := gl, fns := [(74, Tryz.f74, depotref01_IsToken.hint)], specs := [(111, depotref01_Token.spec)], K := 0 }
noncomputable def depotref01_IsToken.r0 (K : Nat) : Nat → (((List UInt8) × ((Int) × (Unit))) × (Unit)) → Option ((((List UInt8) × (Unit)) × (Unit)) ⊕ (((Bool) × (Unit)) × (Unit))) :=
  loopV [(.exit 0, { regs := [(0, .str)] }), (.ret, { regs := [(2, .bool)] })] { regs := [(0, .str), (3, (.int .i64))] } (interp (depotref01_IsToken.env.at K) depotref01_IsToken.hint (callF (depotref01_IsToken.env.at K) 7) (Code.sub [1, 0, 1, 0, 0] (Tryz.f74.body.getD .skip)) _)
theorem depotref01_IsToken.s0 (K n : Nat) (x : (((List UInt8) × ((Int) × (Unit))) × (Unit))) : depotref01_IsToken.r0 K (n + 1) x = depotref01_IsToken.t0 K (depotref01_IsToken.r0 K n) x := by kernel_rfl
theorem depotref01_IsToken.e0 (K n : Nat) : depotref01_IsToken.r0 K n = depotref01_IsToken.l0 K n := by
  induction n with
  | zero => funext x; rfl
  | succ n ih => funext x; rw [depotref01_IsToken.s0, ih]; rfl
theorem depotref01_IsToken.body_eq (K : Nat) (x : depotref01_IsToken.spec.args.den) : body (depotref01_IsToken.env.at K) 8 74 depotref01_IsToken.spec x = depotref01_IsToken.tr (depotref01_IsToken.r0 K) K x.1 := by kernel_rfl
theorem depotref01_IsToken.contract : Contract Tryz.prog gl 74 depotref01_IsToken.spec :=
  contract_of (E := depotref01_IsToken.env) ⟨TIok_of tiOK, FnsOK_of ⟨⟨Tryz.func74, Tryz.call74⟩, trivial⟩, mixed⟩ (SpecsOK_of (E := depotref01_IsToken.env) ⟨depotref01_Token.contract, trivial⟩) Tryz.call74 rfl rfl fun K x r h => by
    rw [depotref01_IsToken.body_eq, show depotref01_IsToken.r0 K = depotref01_IsToken.l0 K from funext (depotref01_IsToken.e0 K)]; exact h

def depotref06_Unquote.spec : Dp.Spec := { args := (.scons .str .snil), res := (.tup (.scons .str (.scons (.int .i64) .snil))), own := false, F := fun K x => depotref06_Unquote K x.1 }
def depotref06_Unquote.hint : Dp.Hint := { n := 48, conds := [(33, [(.normal, { regs := [(0, .str), (4, .str), (5, (.int .i64))] }), (.ret, { regs := [(2, .str), (3, (.int .i64))] })])], regions := [(1, [(.normal, { regs := [(0, .str), (13, .bool)] })])], loops := [(5, { regs := [(0, .str), (4, .str), (5, (.int .i64))] }, [(.exit 0, { regs := [] }), (.ret, { regs := [(2, .str), (3, (.int .i64))] })])] }
noncomputable def depotref06_Unquote.env : Dp.Env := { ti := ti, gl := gl, fns := [(147, Tryz.f147, depotref06_Unquote.hint)], specs := [], K := 0 }
noncomputable def depotref06_Unquote.r0 (K : Nat) : Nat → (((List UInt8) × ((List UInt8) × ((Int) × (Unit)))) × (Unit)) → Option (((Unit) × (Unit)) ⊕ (((List UInt8) × ((Int) × (Unit))) × (Unit))) :=
  loopV [(.exit 0, { regs := [] }), (.ret, { regs := [(2, .str), (3, (.int .i64))] })] { regs := [(0, .str), (4, .str), (5, (.int .i64))] } (interp (depotref06_Unquote.env.at K) depotref06_Unquote.hint (callF (depotref06_Unquote.env.at K) 7) (Code.sub [1, 1, 1, 0, 1, 0, 0] (Tryz.f147.body.getD .skip)) _)
theorem depotref06_Unquote.s0 (K n : Nat) (x : (((List UInt8) × ((List UInt8) × ((Int) × (Unit)))) × (Unit))) : depotref06_Unquote.r0 K (n + 1) x = depotref06_Unquote.t0 K (depotref06_Unquote.r0 K n) x := by kernel_rfl
theorem depotref06_Unquote.e0 (K n : Nat) : depotref06_Unquote.r0 K n = depotref06_Unquote.l0 K n := by
  induction n with
  | zero => funext x; rfl
  | succ n ih => funext x; rw [depotref06_Unquote.s0, ih]; rfl
theorem depotref06_Unquote.body_eq (K : Nat) (x : depotref06_Unquote.spec.args.den) : body (depotref06_Unquote.env.at K) 8 147 depotref06_Unquote.spec x = depotref06_Unquote.tr (depotref06_Unquote.r0 K) K x.1 := by kernel_rfl
theorem depotref06_Unquote.contract : Contract Tryz.prog gl 147 depotref06_Unquote.spec :=
  contract_of (E := depotref06_Unquote.env) ⟨TIok_of tiOK, FnsOK_of ⟨⟨Tryz.func147, Tryz.call147⟩, trivial⟩, mixed⟩ (SpecsOK_of (E := depotref06_Unquote.env) trivial) Tryz.call147 rfl rfl fun K x r h => by
    rw [depotref06_Unquote.body_eq, show depotref06_Unquote.r0 K = depotref06_Unquote.l0 K from funext (depotref06_Unquote.e0 K)]; exact h

def depotref06_Param.spec : Dp.Spec := { args := (.scons .str .snil), res := (.tup (.scons .str (.scons .str (.scons .bool (.scons (.int .i64) .snil))))), own := false, F := fun K x => depotref06_Param K x.1 }
def depotref06_Param.hint : Dp.Hint := { n := 41, regions := [(5, [(.normal, { regs := [(6, .str), (7, .str), (8, .bool), (27, .bool)] })])] }
noncomputable def depotref06_Param.env : Dp.Env := { ti := ti, gl := gl, fns := [(96, Tryz.f96, depotref06_Param.hint)], specs := [(76, depotref01_Lower.spec), (146, depotref01_Cut.spec), (74, depotref01_IsToken.spec), (147, depotref06_Unquote.spec)], K := 0 }
theorem depotref06_Param.body_eq (K : Nat) (x : depotref06_Param.spec.args.den) : body (depotref06_Param.env.at K) 8 96 depotref06_Param.spec x = depotref06_Param K x.1 := by kernel_rfl
theorem depotref06_Param.contract : Contract Tryz.prog gl 96 depotref06_Param.spec :=
  contract_of (E := depotref06_Param.env) ⟨TIok_of tiOK, FnsOK_of ⟨⟨Tryz.func96, Tryz.call96⟩, trivial⟩, mixed⟩ (SpecsOK_of (E := depotref06_Param.env) ⟨depotref01_Lower.contract, depotref01_Cut.contract, depotref01_IsToken.contract, depotref06_Unquote.contract, trivial⟩) Tryz.call96 rfl rfl fun K x r h => by
    rw [depotref06_Param.body_eq]; exact h

def depotref13_elements.spec : Dp.Spec := { args := (.scons (.list (.scons .str (.scons .str .snil))) .snil), res := (.tup (.scons (.list .str) (.scons (.list .str) (.scons .bool .snil)))), own := false, F := fun K x => depotref13_elements K x.1 }
def depotref13_elements.hint : Dp.Hint := { n := 67, conds := [(55, [(.normal, { regs := [(5, (.slw 2)), (6, (.slw 3)), (7, .bool), (8, (.list .str)), (9, (.int .i64)), (10, (.list .str)), (12, (.int .i64))], heap := [(.row .str), (.row .str), (.row .str), (.row .str)], app := [2, 3] })])], regions := [(8, [(.normal, { regs := [(5, (.slw 2)), (6, (.slw 3)), (7, .bool), (8, (.list .str)), (9, (.int .i64)), (10, (.list .str))], heap := [(.row .str), (.row .str), (.row .str), (.row .str)], app := [2, 3] })])], loops := [(5, { regs := [(5, (.slw 2)), (6, (.slw 3)), (7, .bool), (8, (.list .str)), (9, (.int .i64))], heap := [(.row .str), (.row .str), (.row .str), (.row .str)], app := [2, 3] }, [(.exit 0, { regs := [(5, (.slw 2)), (6, (.slw 3)), (7, .bool)], heap := [(.row .str), (.row .str), (.row .str), (.row .str)], app := [2, 3] })]), (10, { regs := [(5, (.slw 2)), (6, (.slw 3)), (7, .bool), (8, (.list .str)), (9, (.int .i64)), (10, (.list .str)), (12, (.int .i64))], heap := [(.row .str), (.row .str), (.row .str), (.row .str)], app := [2, 3] }, [(.exit 2, { regs := [(5, (.slw 2)), (6, (.slw 3)), (7, .bool), (8, (.list .str)), (9, (.int .i64))], heap := [(.row .str), (.row .str), (.row .str), (.row .str)], app := [2, 3] })])], own := [2, 3, 5, 6] }
noncomputable def depotref13_elements.env : Dp.Env := { ti := ti, gl := gl, fns := [(55, Tryz.f55, depotref13_elements.hint)], specs := [(61, depotref09_All.spec), (73, depotref06_Split.spec), (96, depotref06_Param.spec)], K := 0 }
noncomputable def depotref13_elements.r0 (K : Nat) : Nat → (((Unit) × ((Unit) × ((Bool) × ((List (List UInt8)) × ((Int) × ((List (List UInt8)) × ((Int) × (Unit)))))))) × ((List (List UInt8)) × ((List (List UInt8)) × ((List (List UInt8)) × ((List (List UInt8)) × (Unit)))))) → Option ((((Unit) × ((Unit) × ((Bool) × ((List (List UInt8)) × ((Int) × (Unit)))))) × ((List (List UInt8)) × ((List (List UInt8)) × ((List (List UInt8)) × ((List (List UInt8)) × (Unit))))))) :=
  loopV [(.exit 2, { regs := [(5, (.slw 2)), (6, (.slw 3)), (7, .bool), (8, (.list .str)), (9, (.int .i64))], heap := [(.row .str), (.row .str), (.row .str), (.row .str)], app := [2, 3] })] { regs := [(5, (.slw 2)), (6, (.slw 3)), (7, .bool), (8, (.list .str)), (9, (.int .i64)), (10, (.list .str)), (12, (.int .i64))], heap := [(.row .str), (.row .str), (.row .str), (.row .str)], app := [2, 3] } (interp (depotref13_elements.env.at K) depotref13_elements.hint (callF (depotref13_elements.env.at K) 7) (Code.sub [1, 1, 1, 1, 0, 1, 0, 0, 1, 0, 0, 1, 1, 1, 0, 0] (Tryz.f55.body.getD .skip)) _)
theorem depotref13_elements.s0 (K n : Nat) (x : (((Unit) × ((Unit) × ((Bool) × ((List (List UInt8)) × ((Int) × ((List (List UInt8)) × ((Int) × (Unit)))))))) × ((List (List UInt8)) × ((List (List UInt8)) × ((List (List UInt8)) × ((List (List UInt8)) × (Unit))))))) : depotref13_elements.r0 K (n + 1) x = depotref13_elements.t0 K (depotref13_elements.r0 K n) x := by kernel_rfl
theorem depotref13_elements.e0 (K n : Nat) : depotref13_elements.r0 K n = depotref13_elements.l0 K n := by
  induction n with
  | zero => funext x; rfl
  | succ n ih => funext x; rw [depotref13_elements.s0, ih]; rfl
noncomputable def depotref13_elements.r1 (K : Nat) : Nat → (((Unit) × ((Unit) × ((Bool) × ((List (List UInt8)) × ((Int) × (Unit)))))) × ((List (List UInt8)) × ((List (List UInt8)) × ((List (List UInt8)) × ((List (List UInt8)) × (Unit)))))) → Option ((((Unit) × ((Unit) × ((Bool) × (Unit)))) × ((List (List UInt8)) × ((List (List UInt8)) × ((List (List UInt8)) × ((List (List UInt8)) × (Unit))))))) :=
  loopV [(.exit 0, { regs := [(5, (.slw 2)), (6, (.slw 3)), (7, .bool)], heap := [(.row .str), (.row .str), (.row .str), (.row .str)], app := [2, 3] })] { regs := [(5, (.slw 2)), (6, (.slw 3)), (7, .bool), (8, (.list .str)), (9, (.int .i64))], heap := [(.row .str), (.row .str), (.row .str), (.row .str)], app := [2, 3] } (interp (depotref13_elements.env.at K) depotref13_elements.hint (callF (depotref13_elements.env.at K) 7) (Code.sub [1, 1, 1, 1, 0, 1, 0, 0] (Tryz.f55.body.getD .skip)) _)
theorem depotref13_elements.s1 (K n : Nat) (x : (((Unit) × ((Unit) × ((Bool) × ((List (List UInt8)) × ((Int) × (Unit)))))) × ((List (List UInt8)) × ((List (List UInt8)) × ((List (List UInt8)) × ((List (List UInt8)) × (Unit))))))) : depotref13_elements.r1 K (n + 1) x = depotref13_elements.t1 (depotref13_elements.r0 K) K (depotref13_elements.r1 K n) x := by kernel_rfl
theorem depotref13_elements.e1 (K n : Nat) : depotref13_elements.r1 K n = depotref13_elements.l1 K n := by
  induction n with
  | zero => funext x; rfl
  | succ n ih => funext x; rw [depotref13_elements.s1, ih, show depotref13_elements.r0 K = depotref13_elements.l0 K from funext (depotref13_elements.e0 K)]; rfl
theorem depotref13_elements.body_eq (K : Nat) (x : depotref13_elements.spec.args.den) : body (depotref13_elements.env.at K) 8 55 depotref13_elements.spec x = depotref13_elements.tr (depotref13_elements.r1 K) K x.1 := by kernel_rfl
theorem depotref13_elements.contract : Contract Tryz.prog gl 55 depotref13_elements.spec :=
  contract_of (E := depotref13_elements.env) ⟨TIok_of tiOK, FnsOK_of ⟨⟨Tryz.func55, Tryz.call55⟩, trivial⟩, mixed⟩ (SpecsOK_of (E := depotref13_elements.env) ⟨depotref09_All.contract, depotref06_Split.contract, depotref06_Param.contract, trivial⟩) Tryz.call55 rfl rfl fun K x r h => by
    rw [depotref13_elements.body_eq, show depotref13_elements.r1 K = depotref13_elements.l1 K from funext (depotref13_elements.e1 K)]; exact h

def depotref13_has.spec : Dp.Spec := { args := (.scons (.list .str) (.scons .str .snil)), res := .bool, own := false, F := fun K x => depotref13_has K x.1 x.2.1 }
def depotref13_has.hint : Dp.Hint := { n := 18, loops := [(2, { regs := [(0, (.list .str)), (1, .str), (5, (.int .i64))] }, [(.exit 0, { regs := [] }), (.ret, { regs := [(4, .bool)] })])] }
noncomputable def depotref13_has.env : Dp.Env := { ti := ti, gl := gl, fns := [(56, Tryz.f56, depotref13_has.hint)], specs := [], K := 0 }
noncomputable def depotref13_has.r0 (K : Nat) : Nat → (((List (List UInt8)) × ((List UInt8) × ((Int) × (Unit)))) × (Unit)) → Option (((Unit) × (Unit)) ⊕ (((Bool) × (Unit)) × (Unit))) :=
  loopV [(.exit 0, { regs := [] }), (.ret, { regs := [(4, .bool)] })] { regs := [(0, (.list .str)), (1, .str), (5, (.int .i64))] } (interp (depotref13_has.env.at K) depotref13_has.hint (callF (depotref13_has.env.at K) 7) (Code.sub [1, 0, 1, 0, 0] (Tryz.f56.body.getD .skip)) _)
theorem depotref13_has.s0 (K n : Nat) (x : (((List (List UInt8)) × ((List UInt8) × ((Int) × (Unit)))) × (Unit))) : depotref13_has.r0 K (n + 1) x = depotref13_has.t0 K (depotref13_has.r0 K n) x := by kernel_rfl
theorem depotref13_has.e0 (K n : Nat) : depotref13_has.r0 K n = depotref13_has.l0 K n := by
  induction n with
  | zero => funext x; rfl
  | succ n ih => funext x; rw [depotref13_has.s0, ih]; rfl
theorem depotref13_has.body_eq (K : Nat) (x : depotref13_has.spec.args.den) : body (depotref13_has.env.at K) 8 56 depotref13_has.spec x = depotref13_has.tr (depotref13_has.r0 K) K x.1 x.2.1 := by kernel_rfl
theorem depotref13_has.contract : Contract Tryz.prog gl 56 depotref13_has.spec :=
  contract_of (E := depotref13_has.env) ⟨TIok_of tiOK, FnsOK_of ⟨⟨Tryz.func56, Tryz.call56⟩, trivial⟩, mixed⟩ (SpecsOK_of (E := depotref13_has.env) trivial) Tryz.call56 rfl rfl fun K x r h => by
    rw [depotref13_has.body_eq, show depotref13_has.r0 K = depotref13_has.l0 K from funext (depotref13_has.e0 K)]; exact h

def depotref13_Least.spec : Dp.Spec := { args := (.scons (.int .i64) (.scons (.int .i64) .snil)), res := (.int .i64), own := false, F := fun K x => depotref13_Least K x.1 x.2.1 }
def depotref13_Least.hint : Dp.Hint := { n := 17, regions := [(1, [(.normal, { regs := [(0, (.int .i64)), (1, (.int .i64)), (10, .bool)] })])] }
noncomputable def depotref13_Least.env : Dp.Env := { ti := ti, gl := gl, fns := [(20, Tryz.f20, depotref13_Least.hint)], specs := [], K := 0 }
theorem depotref13_Least.body_eq (K : Nat) (x : depotref13_Least.spec.args.den) : body (depotref13_Least.env.at K) 8 20 depotref13_Least.spec x = depotref13_Least K x.1 x.2.1 := by kernel_rfl
theorem depotref13_Least.contract : Contract Tryz.prog gl 20 depotref13_Least.spec :=
  contract_of (E := depotref13_Least.env) ⟨TIok_of tiOK, FnsOK_of ⟨⟨Tryz.func20, Tryz.call20⟩, trivial⟩, mixed⟩ (SpecsOK_of (E := depotref13_Least.env) trivial) Tryz.call20 rfl rfl fun K x r h => by
    rw [depotref13_Least.body_eq]; exact h

def depotref13_least.spec : Dp.Spec := { args := (.scons (.list .str) (.scons (.list .str) (.scons .str .snil))), res := (.int .i64), own := false, F := fun K x => depotref13_least K x.1 x.2.1 x.2.2.1 }
def depotref13_least.hint : Dp.Hint := { n := 35, conds := [(22, [(.normal, { regs := [(0, (.list .str)), (1, (.list .str)), (2, .str), (7, (.int .i64)), (8, (.int .i64))] })])], loops := [(3, { regs := [(0, (.list .str)), (1, (.list .str)), (2, .str), (7, (.int .i64)), (8, (.int .i64))] }, [(.exit 0, { regs := [(7, (.int .i64))] })])] }
noncomputable def depotref13_least.env : Dp.Env := { ti := ti, gl := gl, fns := [(57, Tryz.f57, depotref13_least.hint)], specs := [(91, depotref02_Seconds.spec), (20, depotref13_Least.spec)], K := 0 }
noncomputable def depotref13_least.r0 (K : Nat) : Nat → (((List (List UInt8)) × ((List (List UInt8)) × ((List UInt8) × ((Int) × ((Int) × (Unit)))))) × (Unit)) → Option ((((Int) × (Unit)) × (Unit))) :=
  loopV [(.exit 0, { regs := [(7, (.int .i64))] })] { regs := [(0, (.list .str)), (1, (.list .str)), (2, .str), (7, (.int .i64)), (8, (.int .i64))] } (interp (depotref13_least.env.at K) depotref13_least.hint (callF (depotref13_least.env.at K) 7) (Code.sub [1, 1, 0, 1, 0, 0] (Tryz.f57.body.getD .skip)) _)
theorem depotref13_least.s0 (K n : Nat) (x : (((List (List UInt8)) × ((List (List UInt8)) × ((List UInt8) × ((Int) × ((Int) × (Unit)))))) × (Unit))) : depotref13_least.r0 K (n + 1) x = depotref13_least.t0 K (depotref13_least.r0 K n) x := by kernel_rfl
theorem depotref13_least.e0 (K n : Nat) : depotref13_least.r0 K n = depotref13_least.l0 K n := by
  induction n with
  | zero => funext x; rfl
  | succ n ih => funext x; rw [depotref13_least.s0, ih]; rfl
theorem depotref13_least.body_eq (K : Nat) (x : depotref13_least.spec.args.den) : body (depotref13_least.env.at K) 8 57 depotref13_least.spec x = depotref13_least.tr (depotref13_least.r0 K) K x.1 x.2.1 x.2.2.1 := by kernel_rfl
theorem depotref13_least.contract : Contract Tryz.prog gl 57 depotref13_least.spec :=
  contract_of (E := depotref13_least.env) ⟨TIok_of tiOK, FnsOK_of ⟨⟨Tryz.func57, Tryz.call57⟩, trivial⟩, mixed⟩ (SpecsOK_of (E := depotref13_least.env) ⟨depotref02_Seconds.contract, depotref13_Least.contract, trivial⟩) Tryz.call57 rfl rfl fun K x r h => by
    rw [depotref13_least.body_eq, show depotref13_least.r0 K = depotref13_least.l0 K from funext (depotref13_least.e0 K)]; exact h

def depotref13_greatest.spec : Dp.Spec := { args := (.scons (.list .str) (.scons (.list .str) (.scons .str .snil))), res := (.int .i64), own := false, F := fun K x => depotref13_greatest K x.1 x.2.1 x.2.2.1 }
def depotref13_greatest.hint : Dp.Hint := { n := 37, conds := [(22, [(.normal, { regs := [(0, (.list .str)), (1, (.list .str)), (2, .str), (7, (.int .i64)), (8, (.int .i64))] })]), (32, [(.normal, { regs := [(0, (.list .str)), (1, (.list .str)), (2, .str), (7, (.int .i64)), (8, (.int .i64)), (9, (.int .i64))] })])], loops := [(3, { regs := [(0, (.list .str)), (1, (.list .str)), (2, .str), (7, (.int .i64)), (8, (.int .i64))] }, [(.exit 0, { regs := [(7, (.int .i64))] })])] }
noncomputable def depotref13_greatest.env : Dp.Env := { ti := ti, gl := gl, fns := [(58, Tryz.f58, depotref13_greatest.hint)], specs := [(91, depotref02_Seconds.spec)], K := 0 }
noncomputable def depotref13_greatest.r0 (K : Nat) : Nat → (((List (List UInt8)) × ((List (List UInt8)) × ((List UInt8) × ((Int) × ((Int) × (Unit)))))) × (Unit)) → Option ((((Int) × (Unit)) × (Unit))) :=
  loopV [(.exit 0, { regs := [(7, (.int .i64))] })] { regs := [(0, (.list .str)), (1, (.list .str)), (2, .str), (7, (.int .i64)), (8, (.int .i64))] } (interp (depotref13_greatest.env.at K) depotref13_greatest.hint (callF (depotref13_greatest.env.at K) 7) (Code.sub [1, 1, 0, 1, 0, 0] (Tryz.f58.body.getD .skip)) _)
theorem depotref13_greatest.s0 (K n : Nat) (x : (((List (List UInt8)) × ((List (List UInt8)) × ((List UInt8) × ((Int) × ((Int) × (Unit)))))) × (Unit))) : depotref13_greatest.r0 K (n + 1) x = depotref13_greatest.t0 K (depotref13_greatest.r0 K n) x := by kernel_rfl
theorem depotref13_greatest.e0 (K n : Nat) : depotref13_greatest.r0 K n = depotref13_greatest.l0 K n := by
  induction n with
  | zero => funext x; rfl
  | succ n ih => funext x; rw [depotref13_greatest.s0, ih]; rfl
theorem depotref13_greatest.body_eq (K : Nat) (x : depotref13_greatest.spec.args.den) : body (depotref13_greatest.env.at K) 8 58 depotref13_greatest.spec x = depotref13_greatest.tr (depotref13_greatest.r0 K) K x.1 x.2.1 x.2.2.1 := by kernel_rfl
theorem depotref13_greatest.contract : Contract Tryz.prog gl 58 depotref13_greatest.spec :=
  contract_of (E := depotref13_greatest.env) ⟨TIok_of tiOK, FnsOK_of ⟨⟨Tryz.func58, Tryz.call58⟩, trivial⟩, mixed⟩ (SpecsOK_of (E := depotref13_greatest.env) ⟨depotref02_Seconds.contract, trivial⟩) Tryz.call58 rfl rfl fun K x r h => by
    rw [depotref13_greatest.body_eq, show depotref13_greatest.r0 K = depotref13_greatest.l0 K from funext (depotref13_greatest.e0 K)]; exact h

def depotref13_Parse.spec : Dp.Spec := { args := (.scons (.list (.scons .str (.scons .str .snil))) .snil), res := (.scons .bool (.scons .bool (.scons .bool (.scons .bool (.scons .bool (.scons .bool (.scons (.int .i64) (.scons (.int .i64) (.scons (.int .i64) .snil))))))))), own := false, F := fun K x => depotref13_Parse K x.1 }
def depotref13_Parse.hint : Dp.Hint := { n := 46 }
noncomputable def depotref13_Parse.env : Dp.Env := { ti := ti, gl := gl, fns := [(14, Tryz.f14, depotref13_Parse.hint)], specs := [(55, depotref13_elements.spec), (56, depotref13_has.spec), (57, depotref13_least.spec), (58, depotref13_greatest.spec)], K := 0 }
theorem depotref13_Parse.body_eq (K : Nat) (x : depotref13_Parse.spec.args.den) : body (depotref13_Parse.env.at K) 8 14 depotref13_Parse.spec x = depotref13_Parse K x.1 := by kernel_rfl
theorem depotref13_Parse.contract : Contract Tryz.prog gl 14 depotref13_Parse.spec :=
  contract_of (E := depotref13_Parse.env) ⟨TIok_of tiOK, FnsOK_of ⟨⟨Tryz.func14, Tryz.call14⟩, trivial⟩, mixed⟩ (SpecsOK_of (E := depotref13_Parse.env) ⟨depotref13_elements.contract, depotref13_has.contract, depotref13_least.contract, depotref13_greatest.contract, trivial⟩) Tryz.call14 rfl rfl fun K x r h => by
    rw [depotref13_Parse.body_eq]; exact h

def depotref17_Usual.spec : Dp.Spec := { args := (.scons (.int .i64) .snil), res := .bool, own := false, F := fun K x => depotref17_Usual K x.1 }
def depotref17_Usual.hint : Dp.Hint := { n := 18, loops := [(3, { regs := [(0, (.int .i64)), (3, (.list (.int .i64))), (4, (.int .i64))] }, [(.exit 0, { regs := [] }), (.ret, { regs := [(2, .bool)] })])] }
noncomputable def depotref17_Usual.env : Dp.Env := { ti := ti, gl := gl, fns := [(50, Tryz.f50, depotref17_Usual.hint)], specs := [], K := 0 }
noncomputable def depotref17_Usual.r0 (K : Nat) : Nat → (((Int) × ((List (Int)) × ((Int) × (Unit)))) × (Unit)) → Option (((Unit) × (Unit)) ⊕ (((Bool) × (Unit)) × (Unit))) :=
  loopV [(.exit 0, { regs := [] }), (.ret, { regs := [(2, .bool)] })] { regs := [(0, (.int .i64)), (3, (.list (.int .i64))), (4, (.int .i64))] } (interp (depotref17_Usual.env.at K) depotref17_Usual.hint (callF (depotref17_Usual.env.at K) 7) (Code.sub [1, 1, 0, 1, 0, 0] (Tryz.f50.body.getD .skip)) _)
theorem depotref17_Usual.s0 (K n : Nat) (x : (((Int) × ((List (Int)) × ((Int) × (Unit)))) × (Unit))) : depotref17_Usual.r0 K (n + 1) x = depotref17_Usual.t0 K (depotref17_Usual.r0 K n) x := by kernel_rfl
theorem depotref17_Usual.e0 (K n : Nat) : depotref17_Usual.r0 K n = depotref17_Usual.l0 K n := by
  induction n with
  | zero => funext x; rfl
  | succ n ih => funext x; rw [depotref17_Usual.s0, ih]; rfl
theorem depotref17_Usual.body_eq (K : Nat) (x : depotref17_Usual.spec.args.den) : body (depotref17_Usual.env.at K) 8 50 depotref17_Usual.spec x = depotref17_Usual.tr (depotref17_Usual.r0 K) K x.1 := by kernel_rfl
theorem depotref17_Usual.contract : Contract Tryz.prog gl 50 depotref17_Usual.spec :=
  contract_of (E := depotref17_Usual.env) ⟨TIok_of tiOK, FnsOK_of ⟨⟨Tryz.func50, Tryz.call50⟩, trivial⟩, mixed⟩ (SpecsOK_of (E := depotref17_Usual.env) trivial) Tryz.call50 rfl rfl fun K x r h => by
    rw [depotref17_Usual.body_eq, show depotref17_Usual.r0 K = depotref17_Usual.l0 K from funext (depotref17_Usual.e0 K)]; exact h

def depotref17_Lifetime.spec : Dp.Spec := { args := (.scons (.scons (.scons (.int .i64) (.scons .str (.scons (.int .i64) (.scons (.list (.scons .str (.scons .str .snil))) (.scons .str .snil))))) (.scons (.int .i64) (.scons (.list (.scons .str (.scons .bool (.scons .str .snil)))) .snil))) .snil), res := (.int .i64), own := false, F := fun K x => depotref17_Lifetime K x.1 }
def depotref17_Lifetime.hint : Dp.Hint := { n := 63, regions := [(12, [(.normal, { regs := [(1, (.ref (.scons (.scons (.int .i64) (.scons .str (.scons (.int .i64) (.scons (.list (.scons .str (.scons .str .snil))) (.scons .str .snil))))) (.scons (.int .i64) (.scons (.list (.scons .str (.scons .bool (.scons .str .snil)))) .snil))))), (6, (.int .i64)), (56, .bool)], heap := [(.scons .bool (.scons .bool (.scons .bool (.scons .bool (.scons .bool (.scons .bool (.scons (.int .i64) (.scons (.int .i64) (.scons (.int .i64) .snil)))))))))] })])], imm := [1] }
noncomputable def depotref17_Lifetime.env : Dp.Env := { ti := ti, gl := gl, fns := [(38, Tryz.f38, depotref17_Lifetime.hint)], specs := [(61, depotref09_All.spec), (44, depotref17_When.spec), (46, depotref17_Date.spec), (84, depotref17_apart.spec), (14, depotref13_Parse.spec), (50, depotref17_Usual.spec)], K := 0 }
theorem depotref17_Lifetime.body_eq (K : Nat) (x : depotref17_Lifetime.spec.args.den) : body (depotref17_Lifetime.env.at K) 8 38 depotref17_Lifetime.spec x = depotref17_Lifetime K x.1 := by kernel_rfl
theorem depotref17_Lifetime.contract : Contract Tryz.prog gl 38 depotref17_Lifetime.spec :=
  contract_of (E := depotref17_Lifetime.env) ⟨TIok_of tiOK, FnsOK_of ⟨⟨Tryz.func38, Tryz.call38⟩, trivial⟩, mixed⟩ (SpecsOK_of (E := depotref17_Lifetime.env) ⟨depotref09_All.contract, depotref17_When.contract, depotref17_Date.contract, depotref17_apart.contract, depotref13_Parse.contract, depotref17_Usual.contract, trivial⟩) Tryz.call38 rfl rfl fun K x r h => by
    rw [depotref17_Lifetime.body_eq]; exact h

def depotref17_Fresh.spec : Dp.Spec := { args := (.scons (.scons (.scons (.int .i64) (.scons .str (.scons (.int .i64) (.scons (.list (.scons .str (.scons .str .snil))) (.scons .str .snil))))) (.scons (.int .i64) (.scons (.list (.scons .str (.scons .bool (.scons .str .snil)))) .snil))) (.scons (.int .i64) .snil)), res := .bool, own := false, F := fun K x => depotref17_Fresh K x.1 x.2.1 }
def depotref17_Fresh.hint : Dp.Hint := { n := 11, imm := [2] }
noncomputable def depotref17_Fresh.env : Dp.Env := { ti := ti, gl := gl, fns := [(40, Tryz.f40, depotref17_Fresh.hint)], specs := [(36, depotref17_Age.spec), (38, depotref17_Lifetime.spec)], K := 0 }
theorem depotref17_Fresh.body_eq (K : Nat) (x : depotref17_Fresh.spec.args.den) : body (depotref17_Fresh.env.at K) 8 40 depotref17_Fresh.spec x = depotref17_Fresh K x.1 x.2.1 := by kernel_rfl
theorem depotref17_Fresh.contract : Contract Tryz.prog gl 40 depotref17_Fresh.spec :=
  contract_of (E := depotref17_Fresh.env) ⟨TIok_of tiOK, FnsOK_of ⟨⟨Tryz.func40, Tryz.call40⟩, trivial⟩, mixed⟩ (SpecsOK_of (E := depotref17_Fresh.env) ⟨depotref17_Age.contract, depotref17_Lifetime.contract, trivial⟩) Tryz.call40 rfl rfl fun K x r h => by
    rw [depotref17_Fresh.body_eq]; exact h

def depotref02_Less.spec : Dp.Spec := { args := (.scons (.int .i64) (.scons (.int .i64) .snil)), res := (.int .i64), own := false, F := fun K x => depotref02_Less K x.1 x.2.1 }
def depotref02_Less.hint : Dp.Hint := { n := 11 }
noncomputable def depotref02_Less.env : Dp.Env := { ti := ti, gl := gl, fns := [(87, Tryz.f87, depotref02_Less.hint)], specs := [(116, depotref02_held.spec)], K := 0 }
theorem depotref02_Less.body_eq (K : Nat) (x : depotref02_Less.spec.args.den) : body (depotref02_Less.env.at K) 8 87 depotref02_Less.spec x = depotref02_Less K x.1 x.2.1 := by kernel_rfl
theorem depotref02_Less.contract : Contract Tryz.prog gl 87 depotref02_Less.spec :=
  contract_of (E := depotref02_Less.env) ⟨TIok_of tiOK, FnsOK_of ⟨⟨Tryz.func87, Tryz.call87⟩, trivial⟩, mixed⟩ (SpecsOK_of (E := depotref02_Less.env) ⟨depotref02_held.contract, trivial⟩) Tryz.call87 rfl rfl fun K x r h => by
    rw [depotref02_Less.body_eq]; exact h

def depotref17_Left.spec : Dp.Spec := { args := (.scons (.scons (.scons (.int .i64) (.scons .str (.scons (.int .i64) (.scons (.list (.scons .str (.scons .str .snil))) (.scons .str .snil))))) (.scons (.int .i64) (.scons (.list (.scons .str (.scons .bool (.scons .str .snil)))) .snil))) (.scons (.int .i64) .snil)), res := (.int .i64), own := false, F := fun K x => depotref17_Left K x.1 x.2.1 }
def depotref17_Left.hint : Dp.Hint := { n := 11, imm := [2] }
noncomputable def depotref17_Left.env : Dp.Env := { ti := ti, gl := gl, fns := [(42, Tryz.f42, depotref17_Left.hint)], specs := [(36, depotref17_Age.spec), (38, depotref17_Lifetime.spec), (87, depotref02_Less.spec)], K := 0 }
theorem depotref17_Left.body_eq (K : Nat) (x : depotref17_Left.spec.args.den) : body (depotref17_Left.env.at K) 8 42 depotref17_Left.spec x = depotref17_Left K x.1 x.2.1 := by kernel_rfl
theorem depotref17_Left.contract : Contract Tryz.prog gl 42 depotref17_Left.spec :=
  contract_of (E := depotref17_Left.env) ⟨TIok_of tiOK, FnsOK_of ⟨⟨Tryz.func42, Tryz.call42⟩, trivial⟩, mixed⟩ (SpecsOK_of (E := depotref17_Left.env) ⟨depotref17_Age.contract, depotref17_Lifetime.contract, depotref02_Less.contract, trivial⟩) Tryz.call42 rfl rfl fun K x r h => by
    rw [depotref17_Left.body_eq]; exact h

def depotlaw17_LifeTells.spec : Dp.Spec := { args := (.scons (.scons (.scons (.int .i64) (.scons .str (.scons (.int .i64) (.scons (.list (.scons .str (.scons .str .snil))) (.scons .str .snil))))) (.scons (.int .i64) (.scons (.list (.scons .str (.scons .bool (.scons .str .snil)))) .snil))) (.scons (.int .i64) .snil)), res := .bool, own := false, F := fun K x => depotlaw17_LifeTells K x.1 x.2.1 }
def depotlaw17_LifeTells.hint : Dp.Hint := { n := 45, imm := [2] }
noncomputable def depotlaw17_LifeTells.env : Dp.Env := { ti := ti, gl := gl, fns := [(7, Tryz.f7, depotlaw17_LifeTells.hint)], specs := [(33, depotref12_FewReply.spec), (35, life_Age.spec), (37, life_Lifetime.spec), (39, life_Fresh.spec), (41, life_Left.spec), (34, depotlaw17_lives.spec), (36, depotref17_Age.spec), (38, depotref17_Lifetime.spec), (40, depotref17_Fresh.spec), (42, depotref17_Left.spec)], K := 0 }
theorem depotlaw17_LifeTells.body_eq (K : Nat) (x : depotlaw17_LifeTells.spec.args.den) : body (depotlaw17_LifeTells.env.at K) 8 7 depotlaw17_LifeTells.spec x = depotlaw17_LifeTells K x.1 x.2.1 := by kernel_rfl
theorem depotlaw17_LifeTells.contract : Contract Tryz.prog gl 7 depotlaw17_LifeTells.spec :=
  contract_of (E := depotlaw17_LifeTells.env) ⟨TIok_of tiOK, FnsOK_of ⟨⟨Tryz.func7, Tryz.call7⟩, trivial⟩, mixed⟩ (SpecsOK_of (E := depotlaw17_LifeTells.env) ⟨depotref12_FewReply.contract, life_Age.contract, life_Lifetime.contract, life_Fresh.contract, life_Left.contract, depotlaw17_lives.contract, depotref17_Age.contract, depotref17_Lifetime.contract, depotref17_Fresh.contract, depotref17_Left.contract, trivial⟩) Tryz.call7 rfl rfl fun K x r h => by
    rw [depotlaw17_LifeTells.body_eq]; exact h

def depotlaw17_LifeFields.spec : Dp.Spec := { args := (.scons (.scons (.scons (.int .i64) (.scons .str (.scons (.int .i64) (.scons (.list (.scons .str (.scons .str .snil))) (.scons .str .snil))))) (.scons (.int .i64) (.scons (.list (.scons .str (.scons .bool (.scons .str .snil)))) .snil))) (.scons .str .snil)), res := .bool, own := false, F := fun K x => depotlaw17_LifeFields K x.1 x.2.1 }
def depotlaw17_LifeFields.hint : Dp.Hint := { n := 73, regions := [(1, [(.normal, { regs := [(1, .str), (2, (.ref (.scons (.scons (.int .i64) (.scons .str (.scons (.int .i64) (.scons (.list (.scons .str (.scons .str .snil))) (.scons .str .snil))))) (.scons (.int .i64) (.scons (.list (.scons .str (.scons .bool (.scons .str .snil)))) .snil))))), (17, .bool)] })])], imm := [2] }
noncomputable def depotlaw17_LifeFields.env : Dp.Env := { ti := ti, gl := gl, fns := [(8, Tryz.f8, depotlaw17_LifeFields.hint)], specs := [(33, depotref12_FewReply.spec), (43, life_When.spec), (47, life_Told.spec), (45, life_Date.spec), (49, life_Usual.spec), (34, depotlaw17_lives.spec), (48, depotref17_Told.spec), (44, depotref17_When.spec), (46, depotref17_Date.spec), (50, depotref17_Usual.spec)], K := 0 }
theorem depotlaw17_LifeFields.body_eq (K : Nat) (x : depotlaw17_LifeFields.spec.args.den) : body (depotlaw17_LifeFields.env.at K) 8 8 depotlaw17_LifeFields.spec x = depotlaw17_LifeFields K x.1 x.2.1 := by kernel_rfl
theorem depotlaw17_LifeFields.contract : Contract Tryz.prog gl 8 depotlaw17_LifeFields.spec :=
  contract_of (E := depotlaw17_LifeFields.env) ⟨TIok_of tiOK, FnsOK_of ⟨⟨Tryz.func8, Tryz.call8⟩, trivial⟩, mixed⟩ (SpecsOK_of (E := depotlaw17_LifeFields.env) ⟨depotref12_FewReply.contract, life_When.contract, life_Told.contract, life_Date.contract, life_Usual.contract, depotlaw17_lives.contract, depotref17_Told.contract, depotref17_When.contract, depotref17_Date.contract, depotref17_Usual.contract, trivial⟩) Tryz.call8 rfl rfl fun K x r h => by
    rw [depotlaw17_LifeFields.body_eq]; exact h

def depotlaw17_LifeLater.spec : Dp.Spec := { args := (.scons (.scons (.scons (.int .i64) (.scons .str (.scons (.int .i64) (.scons (.list (.scons .str (.scons .str .snil))) (.scons .str .snil))))) (.scons (.int .i64) (.scons (.list (.scons .str (.scons .bool (.scons .str .snil)))) .snil))) (.scons (.int .i64) (.scons (.int .i64) .snil))), res := .bool, own := false, F := fun K x => depotlaw17_LifeLater K x.1 x.2.1 x.2.2.1 }
def depotlaw17_LifeLater.hint : Dp.Hint := { n := 124, regions := [(1, [(.normal, { regs := [(1, (.int .i64)), (2, (.int .i64)), (3, (.ref (.scons (.scons (.int .i64) (.scons .str (.scons (.int .i64) (.scons (.list (.scons .str (.scons .str .snil))) (.scons .str .snil))))) (.scons (.int .i64) (.scons (.list (.scons .str (.scons .bool (.scons .str .snil)))) .snil))))), (38, .bool)] })]), (4, [(.normal, { regs := [(1, (.int .i64)), (2, (.int .i64)), (3, (.ref (.scons (.scons (.int .i64) (.scons .str (.scons (.int .i64) (.scons (.list (.scons .str (.scons .str .snil))) (.scons .str .snil))))) (.scons (.int .i64) (.scons (.list (.scons .str (.scons .bool (.scons .str .snil)))) .snil))))), (7, (.int .i64)), (74, .bool)] })])], imm := [3] }
noncomputable def depotlaw17_LifeLater.env : Dp.Env := { ti := ti, gl := gl, fns := [(9, Tryz.f9, depotlaw17_LifeLater.hint)], specs := [(33, depotref12_FewReply.spec), (35, life_Age.spec), (39, life_Fresh.spec), (41, life_Left.spec), (34, depotlaw17_lives.spec)], K := 0 }
theorem depotlaw17_LifeLater.body_eq (K : Nat) (x : depotlaw17_LifeLater.spec.args.den) : body (depotlaw17_LifeLater.env.at K) 8 9 depotlaw17_LifeLater.spec x = depotlaw17_LifeLater K x.1 x.2.1 x.2.2.1 := by kernel_rfl
theorem depotlaw17_LifeLater.contract : Contract Tryz.prog gl 9 depotlaw17_LifeLater.spec :=
  contract_of (E := depotlaw17_LifeLater.env) ⟨TIok_of tiOK, FnsOK_of ⟨⟨Tryz.func9, Tryz.call9⟩, trivial⟩, mixed⟩ (SpecsOK_of (E := depotlaw17_LifeLater.env) ⟨depotref12_FewReply.contract, life_Age.contract, life_Fresh.contract, life_Left.contract, depotlaw17_lives.contract, trivial⟩) Tryz.call9 rfl rfl fun K x r h => by
    rw [depotlaw17_LifeLater.body_eq]; exact h

end Go.Proofs.X