/- That the machine comes to the plain functions. No condition. -/
import Derived.Test.YtikiloknlchppaaGreatDoorWG1
import Derived.Test.YtikiloknlchppaaGreatDoorWS1
import Derived.Test.YtikiloknlchppaaGreatDoorWS3
import Derived.Test.YtikiloknlchppaaGreatDoorChecked
import Derived.KernelRfl
import Derived.Eval
set_option linter.unusedVariables false
set_option maxRecDepth 20000
namespace Go.Proofs.X
open Go Go.Dp

def ti : List (Nat × TI) := [(1, ⟨.fn, 1, 8, .nilf⟩),
  (2, ⟨.int .i64, 1, 8, (.int .i64)⟩),
  (3, ⟨.int .i64, 1, 8, (.int .i64)⟩),
  (4, ⟨.bool, 1, 1, .bool⟩),
  (5, ⟨.int .u8, 1, 1, (.int .u8)⟩),
  (6, ⟨.int .u8, 1, 1, (.int .u8)⟩),
  (9, ⟨.str, 1, 16, .str⟩),
  (10, ⟨.str, 1, 16, .str⟩),
  (11, ⟨.str, 1, 16, .str⟩),
  (12, ⟨.int .u64, 1, 8, (.int .u64)⟩),
  (15, ⟨.ptr 226, 1, 8, .nilp⟩),
  (16, ⟨.ptr 229, 1, 8, .nilp⟩),
  (17, ⟨.ptr 236, 1, 8, .nilp⟩),
  (18, ⟨.struct [(17, 0)], 1, 8, (.scons .nilp .snil)⟩),
  (19, ⟨.struct [(17, 0)], 1, 8, (.scons .nilp .snil)⟩),
  (20, ⟨.iface false, 1, 16, .nili⟩),
  (21, ⟨.int .i32, 1, 4, (.int .i32)⟩),
  (22, ⟨.slice 58, 1, 24, (.list (.scons .str (.scons .str .snil)))⟩),
  (23, ⟨.fn, 1, 8, .nilf⟩),
  (24, ⟨.fn, 1, 8, .nilf⟩),
  (25, ⟨.struct [(4, 0), (4, 1), (4, 2), (4, 3), (4, 4), (4, 5), (3, 6), (3, 7), (3, 8)], 9, 32, (.scons .bool (.scons .bool (.scons .bool (.scons .bool (.scons .bool (.scons .bool (.scons (.int .i64) (.scons (.int .i64) (.scons (.int .i64) .snil)))))))))⟩),
  (26, ⟨.struct [(4, 0), (4, 1), (4, 2), (4, 3), (4, 4), (4, 5), (3, 6), (3, 7), (3, 8)], 9, 32, (.scons .bool (.scons .bool (.scons .bool (.scons .bool (.scons .bool (.scons .bool (.scons (.int .i64) (.scons (.int .i64) (.scons (.int .i64) .snil)))))))))⟩),
  (27, ⟨.fn, 1, 8, .nilf⟩),
  (28, ⟨.fn, 1, 8, .nilf⟩),
  (29, ⟨.fn, 1, 8, .nilf⟩),
  (30, ⟨.fn, 1, 8, .nilf⟩),
  (31, ⟨.fn, 1, 8, .nilf⟩),
  (32, ⟨.slice 9, 1, 24, (.list .str)⟩),
  (34, ⟨.fn, 1, 8, .nilf⟩),
  (35, ⟨.fn, 1, 8, .nilf⟩),
  (36, ⟨.slice 80, 1, 24, (.list (.scons .str (.scons .bool (.scons .str .snil))))⟩),
  (37, ⟨.fn, 1, 8, .nilf⟩),
  (38, ⟨.fn, 1, 8, .nilf⟩),
  (39, ⟨.fn, 1, 8, .nilf⟩),
  (40, ⟨.fn, 1, 8, .nilf⟩),
  (41, ⟨.fn, 1, 8, .nilf⟩),
  (42, ⟨.fn, 1, 8, .nilf⟩),
  (43, ⟨.struct [(3, 0), (9, 1), (3, 2), (22, 3), (9, 4)], 5, 72, (.scons (.int .i64) (.scons .str (.scons (.int .i64) (.scons (.list (.scons .str (.scons .str .snil))) (.scons .str .snil)))))⟩),
  (44, ⟨.struct [(3, 0), (9, 1), (3, 2), (22, 3), (9, 4)], 5, 72, (.scons (.int .i64) (.scons .str (.scons (.int .i64) (.scons (.list (.scons .str (.scons .str .snil))) (.scons .str .snil)))))⟩),
  (45, ⟨.struct [(44, 0), (3, 5), (36, 6)], 7, 104, (.scons (.scons (.int .i64) (.scons .str (.scons (.int .i64) (.scons (.list (.scons .str (.scons .str .snil))) (.scons .str .snil))))) (.scons (.int .i64) (.scons (.list (.scons .str (.scons .bool (.scons .str .snil)))) .snil)))⟩),
  (46, ⟨.struct [(44, 0), (3, 5), (36, 6)], 7, 104, (.scons (.scons (.int .i64) (.scons .str (.scons (.int .i64) (.scons (.list (.scons .str (.scons .str .snil))) (.scons .str .snil))))) (.scons (.int .i64) (.scons (.list (.scons .str (.scons .bool (.scons .str .snil)))) .snil)))⟩),
  (47, ⟨.fn, 1, 8, .nilf⟩),
  (48, ⟨.fn, 1, 8, .nilf⟩),
  (49, ⟨.fn, 1, 8, .nilf⟩),
  (50, ⟨.fn, 1, 8, .nilf⟩),
  (52, ⟨.fn, 1, 8, .nilf⟩),
  (53, ⟨.fn, 1, 8, .nilf⟩),
  (54, ⟨.fn, 1, 8, .nilf⟩),
  (55, ⟨.fn, 1, 8, .nilf⟩),
  (56, ⟨.fn, 1, 8, .nilf⟩),
  (57, ⟨.struct [(9, 0), (9, 1)], 2, 32, (.scons .str (.scons .str .snil))⟩),
  (58, ⟨.struct [(9, 0), (9, 1)], 2, 32, (.scons .str (.scons .str .snil))⟩),
  (59, ⟨.fn, 1, 8, .nilf⟩),
  (60, ⟨.ptr 62, 1, 8, .nilp⟩),
  (61, ⟨.struct [(26, 0)], 9, 32, (.scons (.scons .bool (.scons .bool (.scons .bool (.scons .bool (.scons .bool (.scons .bool (.scons (.int .i64) (.scons (.int .i64) (.scons (.int .i64) .snil))))))))) .snil)⟩),
  (62, ⟨.struct [(26, 0)], 9, 32, (.scons (.scons .bool (.scons .bool (.scons .bool (.scons .bool (.scons .bool (.scons .bool (.scons (.int .i64) (.scons (.int .i64) (.scons (.int .i64) .snil))))))))) .snil)⟩),
  (63, ⟨.fn, 1, 8, .nilf⟩),
  (64, ⟨.fn, 1, 8, .nilf⟩),
  (65, ⟨.fn, 1, 8, .nilf⟩),
  (67, ⟨.fn, 1, 8, .nilf⟩),
  (68, ⟨.fn, 1, 8, .nilf⟩),
  (69, ⟨.fn, 1, 8, .nilf⟩),
  (71, ⟨.fn, 1, 8, .nilf⟩),
  (72, ⟨.fn, 1, 8, .nilf⟩),
  (73, ⟨.fn, 1, 8, .nilf⟩),
  (74, ⟨.fn, 1, 8, .nilf⟩),
  (75, ⟨.fn, 1, 8, .nilf⟩),
  (76, ⟨.fn, 1, 8, .nilf⟩),
  (77, ⟨.slice 4, 1, 24, (.list .bool)⟩),
  (78, ⟨.slice 3, 1, 24, (.list (.int .i64))⟩),
  (79, ⟨.struct [(9, 0), (4, 1), (9, 2)], 3, 40, (.scons .str (.scons .bool (.scons .str .snil)))⟩),
  (80, ⟨.struct [(9, 0), (4, 1), (9, 2)], 3, 40, (.scons .str (.scons .bool (.scons .str .snil)))⟩),
  (81, ⟨.map 9 3, 1, 8, .unk⟩),
  (82, ⟨.int .i64, 1, 8, (.int .i64)⟩),
  (84, ⟨.fn, 1, 8, .nilf⟩),
  (85, ⟨.fn, 1, 8, .nilf⟩),
  (86, ⟨.fn, 1, 8, .nilf⟩),
  (87, ⟨.fn, 1, 8, .nilf⟩),
  (89, ⟨.fn, 1, 8, .nilf⟩),
  (90, ⟨.fn, 1, 8, .nilf⟩),
  (91, ⟨.fn, 1, 8, .nilf⟩),
  (92, ⟨.fn, 1, 8, .nilf⟩),
  (93, ⟨.fn, 1, 8, .nilf⟩),
  (95, ⟨.fn, 1, 8, .nilf⟩),
  (97, ⟨.fn, 1, 8, .nilf⟩),
  (98, ⟨.fn, 1, 8, .nilf⟩),
  (99, ⟨.fn, 1, 8, .nilf⟩),
  (100, ⟨.fn, 1, 8, .nilf⟩),
  (102, ⟨.fn, 1, 8, .nilf⟩),
  (103, ⟨.slice 107, 1, 24, (.list (.scons .str (.scons .nilf .snil)))⟩),
  (104, ⟨.fn, 1, 8, .nilf⟩),
  (105, ⟨.fn, 1, 8, .nilf⟩),
  (106, ⟨.struct [(9, 0), (105, 1)], 2, 24, (.scons .str (.scons .nilf .snil))⟩),
  (107, ⟨.struct [(9, 0), (105, 1)], 2, 24, (.scons .str (.scons .nilf .snil))⟩),
  (109, ⟨.fn, 1, 8, .nilf⟩),
  (110, ⟨.fn, 1, 8, .nilf⟩),
  (111, ⟨.fn, 1, 8, .nilf⟩),
  (112, ⟨.fn, 1, 8, .nilf⟩),
  (113, ⟨.int .u64, 1, 8, (.int .u64)⟩),
  (114, ⟨.fn, 1, 8, .nilf⟩),
  (115, ⟨.fn, 1, 8, .nilf⟩),
  (116, ⟨.fn, 1, 8, .nilf⟩),
  (117, ⟨.fn, 1, 8, .nilf⟩),
  (118, ⟨.fn, 1, 8, .nilf⟩),
  (119, ⟨.slice 5, 1, 24, (.list (.int .u8))⟩),
  (120, ⟨.fn, 1, 8, .nilf⟩),
  (121, ⟨.fn, 1, 8, .nilf⟩),
  (122, ⟨.int .u64, 1, 8, (.int .u64)⟩),
  (123, ⟨.fn, 1, 8, .nilf⟩),
  (124, ⟨.fn, 1, 8, .nilf⟩),
  (125, ⟨.fn, 1, 8, .nilf⟩),
  (126, ⟨.fn, 1, 8, .nilf⟩),
  (127, ⟨.fn, 1, 8, .nilf⟩),
  (128, ⟨.fn, 1, 8, .nilf⟩),
  (129, ⟨.fn, 1, 8, .nilf⟩),
  (131, ⟨.fn, 1, 8, .nilf⟩),
  (133, ⟨.fn, 1, 8, .nilf⟩),
  (134, ⟨.fn, 1, 8, .nilf⟩),
  (136, ⟨.fn, 1, 8, .nilf⟩),
  (137, ⟨.ptr 139, 1, 8, .nilp⟩),
  (138, ⟨.struct [(137, 0), (119, 1)], 2, 32, (.scons .nilp (.scons (.list (.int .u8)) .snil))⟩),
  (139, ⟨.struct [(137, 0), (119, 1)], 2, 32, (.scons .nilp (.scons (.list (.int .u8)) .snil))⟩),
  (140, ⟨.iface true, 1, 16, .nili⟩),
  (141, ⟨.iface true, 1, 16, .nili⟩),
  (143, ⟨.fn, 1, 8, .nilf⟩),
  (144, ⟨.fn, 1, 8, .nilf⟩),
  (145, ⟨.fn, 1, 8, .nilf⟩),
  (146, ⟨.fn, 1, 8, .nilf⟩),
  (147, ⟨.fn, 1, 8, .nilf⟩),
  (148, ⟨.fn, 1, 8, .nilf⟩),
  (149, ⟨.int .i64, 1, 8, (.int .i64)⟩),
  (151, ⟨.fn, 1, 8, .nilf⟩),
  (152, ⟨.fn, 1, 8, .nilf⟩),
  (153, ⟨.fn, 1, 8, .nilf⟩),
  (154, ⟨.fn, 1, 8, .nilf⟩),
  (155, ⟨.int .u32, 1, 4, (.int .u32)⟩),
  (156, ⟨.fn, 1, 8, .nilf⟩),
  (157, ⟨.fn, 1, 8, .nilf⟩),
  (158, ⟨.fn, 1, 8, .nilf⟩),
  (159, ⟨.fn, 1, 8, .nilf⟩),
  (160, ⟨.fn, 1, 8, .nilf⟩),
  (161, ⟨.struct [(3, 0), (3, 1), (3, 2), (3, 3), (9, 4)], 5, 48, (.scons (.int .i64) (.scons (.int .i64) (.scons (.int .i64) (.scons (.int .i64) (.scons .str .snil)))))⟩),
  (162, ⟨.struct [(3, 0), (3, 1), (3, 2), (3, 3), (9, 4)], 5, 48, (.scons (.int .i64) (.scons (.int .i64) (.scons (.int .i64) (.scons (.int .i64) (.scons .str .snil)))))⟩),
  (163, ⟨.fn, 1, 8, .nilf⟩),
  (164, ⟨.arr 7 9, 7, 112, (.arr 7 .str)⟩),
  (165, ⟨.arr 12 9, 12, 192, (.arr 12 .str)⟩),
  (166, ⟨.fn, 1, 8, .nilf⟩),
  (168, ⟨.fn, 1, 8, .nilf⟩),
  (169, ⟨.fn, 1, 8, .nilf⟩),
  (170, ⟨.fn, 1, 8, .nilf⟩),
  (171, ⟨.ptr 5, 1, 8, .nilp⟩),
  (172, ⟨.fn, 1, 8, .nilf⟩),
  (173, ⟨.fn, 1, 8, .nilf⟩),
  (174, ⟨.arr 256 4, 256, 256, (.arr 256 .bool)⟩),
  (175, ⟨.arr 256 4, 256, 256, (.arr 256 .bool)⟩),
  (177, ⟨.fn, 1, 8, .nilf⟩),
  (178, ⟨.fn, 1, 8, .nilf⟩),
  (179, ⟨.ptr 175, 1, 8, .nilp⟩),
  (180, ⟨.slice 117, 1, 24, (.list .nilf)⟩),
  (181, ⟨.int .u64, 1, 8, (.int .u64)⟩),
  (182, ⟨.fn, 1, 8, .nilf⟩),
  (183, ⟨.fn, 1, 8, .nilf⟩),
  (184, ⟨.fn, 1, 8, .nilf⟩),
  (185, ⟨.ptr 3, 1, 8, .nilp⟩),
  (186, ⟨.fn, 1, 8, .nilf⟩),
  (187, ⟨.fn, 1, 8, .nilf⟩),
  (188, ⟨.fn, 1, 8, .nilf⟩),
  (189, ⟨.fn, 1, 8, .nilf⟩),
  (190, ⟨.fn, 1, 8, .nilf⟩),
  (191, ⟨.fn, 1, 8, .nilf⟩),
  (192, ⟨.fn, 1, 8, .nilf⟩),
  (194, ⟨.fn, 1, 8, .nilf⟩),
  (195, ⟨.fn, 1, 8, .nilf⟩),
  (196, ⟨.arr 24 5, 24, 24, (.arr 24 (.int .u8))⟩),
  (197, ⟨.fn, 1, 8, .nilf⟩),
  (199, ⟨.fn, 1, 8, .nilf⟩),
  (201, ⟨.fn, 1, 8, .nilf⟩),
  (202, ⟨.fn, 1, 8, .nilf⟩),
  (203, ⟨.ptr 181, 1, 8, .nilp⟩),
  (204, ⟨.fn, 1, 8, .nilf⟩),
  (205, ⟨.fn, 1, 8, .nilf⟩),
  (207, ⟨.fn, 1, 8, .nilf⟩),
  (208, ⟨.fn, 1, 8, .nilf⟩),
  (209, ⟨.fn, 1, 8, .nilf⟩),
  (210, ⟨.arr 20 113, 20, 160, (.arr 20 (.int .u64))⟩),
  (211, ⟨.arr 65 5, 65, 65, (.arr 65 (.int .u8))⟩),
  (212, ⟨.fn, 1, 8, .nilf⟩),
  (214, ⟨.fn, 1, 8, .nilf⟩),
  (216, ⟨.fn, 1, 8, .nilf⟩),
  (217, ⟨.arr 256 5, 256, 256, (.arr 256 (.int .u8))⟩),
  (218, ⟨.struct [(5, 0), (5, 1)], 2, 2, (.scons (.int .u8) (.scons (.int .u8) .snil))⟩),
  (219, ⟨.struct [(5, 0), (5, 1)], 2, 2, (.scons (.int .u8) (.scons (.int .u8) .snil))⟩),
  (220, ⟨.arr 16 219, 32, 32, (.arr 16 (.scons (.int .u8) (.scons (.int .u8) .snil)))⟩),
  (221, ⟨.fn, 1, 8, .nilf⟩),
  (222, ⟨.fn, 1, 8, .nilf⟩),
  (223, ⟨.arr 32 5, 32, 32, (.arr 32 (.int .u8))⟩),
  (224, ⟨.arr 64 5, 64, 64, (.arr 64 (.int .u8))⟩),
  (227, ⟨.arr 0 16, 0, 0, (.arr 0 .nilp)⟩),
  (230, ⟨.int .u8, 1, 1, (.int .u8)⟩),
  (231, ⟨.int .u8, 1, 1, (.int .u8)⟩),
  (232, ⟨.fn, 1, 8, .nilf⟩),
  (233, ⟨.int .i32, 1, 4, (.int .i32)⟩),
  (234, ⟨.int .i32, 1, 4, (.int .i32)⟩),
  (235, ⟨.struct [(12, 0), (12, 1), (155, 2), (230, 3), (5, 4), (5, 5), (231, 6), (232, 7), (171, 8), (233, 9), (234, 10)], 11, 48, (.scons (.int .u64) (.scons (.int .u64) (.scons (.int .u32) (.scons (.int .u8) (.scons (.int .u8) (.scons (.int .u8) (.scons (.int .u8) (.scons .nilf (.scons .nilp (.scons (.int .i32) (.scons (.int .i32) .snil)))))))))))⟩),
  (236, ⟨.struct [(12, 0), (12, 1), (155, 2), (230, 3), (5, 4), (5, 5), (231, 6), (232, 7), (171, 8), (233, 9), (234, 10)], 11, 48, (.scons (.int .u64) (.scons (.int .u64) (.scons (.int .u32) (.scons (.int .u8) (.scons (.int .u8) (.scons (.int .u8) (.scons (.int .u8) (.scons .nilf (.scons .nilp (.scons (.int .i32) (.scons (.int .i32) .snil)))))))))))⟩)]
def gl : List (Nat × TV) := [(2, ⟨.ref (.sint .i64), ()⟩)]
theorem tiOK : ti.all (fun p => tiOK1 Tryz.prog p.1 p.2) = true := by kernel_rfl
theorem mixed : Tryz.prog.follows .mixedOrders = true := Checked.mixed Tryz.checked

def joinS.spec : Dp.Spec := joinSpec
theorem joinS.contract : Contract Tryz.prog gl 97 joinS.spec := joinS_ok
def replaceS.spec : Dp.Spec := replaceSpec
theorem replaceS.contract : Contract Tryz.prog gl 169 replaceS.spec := replaceS_ok rfl
def containsS.spec : Dp.Spec := containsSpec
theorem containsS.contract : Contract Tryz.prog gl 170 containsS.spec := containsS_ok rfl
def asciiSet.spec : Dp.Spec := asciiSetSpec
theorem asciiSet.contract : Contract Tryz.prog gl 194 asciiSet.spec := asciiSet_ok
def ixb.spec : Dp.Spec := indexByteSpec
theorem ixb.contract : Contract Tryz.prog gl 208 ixb.spec := indexByte_contract Tryz.func208 (by decide +kernel) rfl (by kernel_rfl) (by kernel_rfl)
def sortS.mspec : MSpec := sortM
theorem sortS.turns : MContract Tryz.prog 72 sortS.mspec := sortS_ok
def depotref09_Few.spec : Dp.Spec := { args := (.scons (.list (.scons .str (.scons .str .snil))) (.scons (.int .i64) (.scons (.int .i64) .snil))), res := .bool, own := false, F := fun K x => depotref09_Few K x.1 x.2.1 x.2.2.1 }
def depotref09_Few.hint : Dp.Hint := { n := 41, regions := [(2, [(.normal, { regs := [(0, (.list (.scons .str (.scons .str .snil)))), (1, (.int .i64)), (2, (.int .i64)), (7, (.int .i64)), (16, .bool)] })]), (4, [(.normal, { regs := [(0, (.list (.scons .str (.scons .str .snil)))), (1, (.int .i64)), (2, (.int .i64)), (7, (.int .i64)), (36, .bool)] })])], loops := [(2, { regs := [(0, (.list (.scons .str (.scons .str .snil)))), (1, (.int .i64)), (2, (.int .i64)), (7, (.int .i64))] }, [(.exit 0, { regs := [(0, (.list (.scons .str (.scons .str .snil)))), (1, (.int .i64))] }), (.ret, { regs := [(6, .bool)] })])] }
noncomputable def depotref09_Few.env : Dp.Env := { ti := ti, gl := gl, fns := [(11, Tryz.f11, depotref09_Few.hint)], specs := [], K := 0 }
noncomputable def depotref09_Few.r0 (K : Nat) : Nat → (((List ((List UInt8) × ((List UInt8) × (Unit)))) × ((Int) × ((Int) × ((Int) × (Unit))))) × (Unit)) → Option ((((List ((List UInt8) × ((List UInt8) × (Unit)))) × ((Int) × (Unit))) × (Unit)) ⊕ (((Bool) × (Unit)) × (Unit))) :=
  loopV [(.exit 0, { regs := [(0, (.list (.scons .str (.scons .str .snil)))), (1, (.int .i64))] }), (.ret, { regs := [(6, .bool)] })] { regs := [(0, (.list (.scons .str (.scons .str .snil)))), (1, (.int .i64)), (2, (.int .i64)), (7, (.int .i64))] } (interp (depotref09_Few.env.at K) depotref09_Few.hint (callF (depotref09_Few.env.at K) 7) (Code.sub [1, 0, 1, 0, 0] (Tryz.f11.body.getD .skip)) _)
theorem depotref09_Few.s0 (K n : Nat) (x : (((List ((List UInt8) × ((List UInt8) × (Unit)))) × ((Int) × ((Int) × ((Int) × (Unit))))) × (Unit))) : depotref09_Few.r0 K (n + 1) x = depotref09_Few.t0 K (depotref09_Few.r0 K n) x := by kernel_rfl
theorem depotref09_Few.e0 (K n : Nat) : depotref09_Few.r0 K n = depotref09_Few.l0 K n := by
  induction n with
  | zero => funext x; rfl
  | succ n ih => funext x; rw [depotref09_Few.s0, ih]; rfl
theorem depotref09_Few.body_eq (K : Nat) (x : depotref09_Few.spec.args.den) : body (depotref09_Few.env.at K) 8 11 depotref09_Few.spec x = depotref09_Few.tr (depotref09_Few.r0 K) K x.1 x.2.1 x.2.2.1 := by kernel_rfl
theorem depotref09_Few.contract : Contract Tryz.prog gl 11 depotref09_Few.spec :=
  contract_of (E := depotref09_Few.env) ⟨TIok_of tiOK, FnsOK_of ⟨⟨Tryz.func11, Tryz.call11⟩, trivial⟩, mixed⟩ (SpecsOK_of (E := depotref09_Few.env) trivial) Tryz.call11 rfl rfl fun K x r h => by
    rw [depotref09_Few.body_eq, show depotref09_Few.r0 K = depotref09_Few.l0 K from funext (depotref09_Few.e0 K)]; exact h

def fields_named.spec : Dp.Spec := { args := (.scons .str .snil), res := (.fn 131 (.scons (.ref .str) .snil)), own := false, F := fun K x => fields_named K x.1 }
def fields_named.hint : Dp.Hint := { n := 4, imm := [1] }
noncomputable def fields_named.env : Dp.Env := { ti := ti, gl := gl, fns := [(93, Tryz.f93, fields_named.hint)], specs := [], K := 0 }
theorem fields_named.body_eq (K : Nat) (x : fields_named.spec.args.den) : body (fields_named.env.at K) 8 93 fields_named.spec x = fields_named K x.1 := by kernel_rfl
theorem fields_named.contract : Contract Tryz.prog gl 93 fields_named.spec :=
  contract_of (E := fields_named.env) ⟨TIok_of tiOK, FnsOK_of ⟨⟨Tryz.func93, Tryz.call93⟩, trivial⟩, mixed⟩ (SpecsOK_of (E := fields_named.env) trivial) Tryz.call93 rfl rfl fun K x r h => by
    rw [fields_named.body_eq]; exact h

def octet_from.spec : Dp.Spec := { args := (.scons (.int .u8) (.scons (.int .u8) .snil)), res := (.fn 156 (.scons (.ref (.int .u8)) (.scons (.ref (.int .u8)) .snil))), own := false, F := fun K x => octet_from K x.1 x.2.1 }
def octet_from.hint : Dp.Hint := { n := 6, imm := [2, 3] }
noncomputable def octet_from.env : Dp.Env := { ti := ti, gl := gl, fns := [(107, Tryz.f107, octet_from.hint)], specs := [], K := 0 }
theorem octet_from.body_eq (K : Nat) (x : octet_from.spec.args.den) : body (octet_from.env.at K) 8 107 octet_from.spec x = octet_from K x.1 x.2.1 := by kernel_rfl
theorem octet_from.contract : Contract Tryz.prog gl 107 octet_from.spec :=
  contract_of (E := octet_from.env) ⟨TIok_of tiOK, FnsOK_of ⟨⟨Tryz.func107, Tryz.call107⟩, trivial⟩, mixed⟩ (SpecsOK_of (E := octet_from.env) trivial) Tryz.call107 rfl rfl fun K x r h => by
    rw [octet_from.body_eq]; exact h

def octet_from_c1.spec : Dp.Spec := { args := (.scons (.int .u8) (.scons (.ref (.int .u8)) (.scons (.ref (.int .u8)) .snil))), res := .bool, own := false, F := fun K x => octet_from_c1 K x.1 x.2.1 x.2.2.1 }
def octet_from_c1.hint : Dp.Hint := { n := 13 }
noncomputable def octet_from_c1.env : Dp.Env := { ti := ti, gl := gl, fns := [(156, Tryz.f156, octet_from_c1.hint)], specs := [], K := 0 }
theorem octet_from_c1.body_eq (K : Nat) (x : octet_from_c1.spec.args.den) : body (octet_from_c1.env.at K) 8 156 octet_from_c1.spec x = octet_from_c1 K x.1 x.2.1 x.2.2.1 := by kernel_rfl
theorem octet_from_c1.contract : Contract Tryz.prog gl 156 octet_from_c1.spec :=
  contract_of (E := octet_from_c1.env) ⟨TIok_of tiOK, FnsOK_of ⟨⟨Tryz.func156, Tryz.call156⟩, trivial⟩, mixed⟩ (SpecsOK_of (E := octet_from_c1.env) trivial) Tryz.call156 rfl rfl fun K x r h => by
    rw [octet_from_c1.body_eq]; exact h

def octet_Lower.spec : Dp.Spec := { args := (.scons .str .snil), res := .str, own := false, F := fun K x => octet_Lower K x.1 }
def octet_Lower.hint : Dp.Hint := { n := 29, conds := [(19, [(.normal, { regs := [(3, (.fn 156 (.scons (.ref (.int .u8)) (.scons (.ref (.int .u8)) .snil)))), (4, (.slw 0)), (10, (.slw 0)), (11, (.int .i64)), (12, (.int .i64))], heap := [(.row (.int .u8))] })])], loops := [(4, { regs := [(3, (.fn 156 (.scons (.ref (.int .u8)) (.scons (.ref (.int .u8)) .snil)))), (4, (.slw 0)), (10, (.slw 0)), (11, (.int .i64)), (12, (.int .i64))], heap := [(.row (.int .u8))] }, [(.exit 0, { regs := [(4, (.slw 0))], heap := [(.row (.int .u8))] })])], own := [9] }
noncomputable def octet_Lower.env : Dp.Env := { ti := ti, gl := gl, fns := [(71, Tryz.f71, octet_Lower.hint)], specs := [(107, octet_from.spec), (156, octet_from_c1.spec)], K := 0 }
noncomputable def octet_Lower.r0 (K : Nat) : Nat → ((((Int) × ((Int) × (Unit))) × ((Unit) × ((Unit) × ((Int) × ((Int) × (Unit)))))) × ((List (Int)) × (Unit))) → Option ((((Unit) × (Unit)) × ((List (Int)) × (Unit)))) :=
  loopV [(.exit 0, { regs := [(4, (.slw 0))], heap := [(.row (.int .u8))] })] { regs := [(3, (.fn 156 (.scons (.ref (.int .u8)) (.scons (.ref (.int .u8)) .snil)))), (4, (.slw 0)), (10, (.slw 0)), (11, (.int .i64)), (12, (.int .i64))], heap := [(.row (.int .u8))] } (interp (octet_Lower.env.at K) octet_Lower.hint (callF (octet_Lower.env.at K) 7) (Code.sub [1, 1, 1, 0, 1, 0, 0] (Tryz.f71.body.getD .skip)) _)
theorem octet_Lower.s0 (K n : Nat) (x : ((((Int) × ((Int) × (Unit))) × ((Unit) × ((Unit) × ((Int) × ((Int) × (Unit)))))) × ((List (Int)) × (Unit)))) : octet_Lower.r0 K (n + 1) x = octet_Lower.t0 K (octet_Lower.r0 K n) x := by kernel_rfl
theorem octet_Lower.e0 (K n : Nat) : octet_Lower.r0 K n = octet_Lower.l0 K n := by
  induction n with
  | zero => funext x; rfl
  | succ n ih => funext x; rw [octet_Lower.s0, ih]; rfl
theorem octet_Lower.body_eq (K : Nat) (x : octet_Lower.spec.args.den) : body (octet_Lower.env.at K) 8 71 octet_Lower.spec x = octet_Lower.tr (octet_Lower.r0 K) K x.1 := by kernel_rfl
theorem octet_Lower.contract : Contract Tryz.prog gl 71 octet_Lower.spec :=
  contract_of (E := octet_Lower.env) ⟨TIok_of tiOK, FnsOK_of ⟨⟨Tryz.func71, Tryz.call71⟩, trivial⟩, mixed⟩ (SpecsOK_of (E := octet_Lower.env) ⟨octet_from.contract, octet_from_c1.contract, trivial⟩) Tryz.call71 rfl rfl fun K x r h => by
    rw [octet_Lower.body_eq, show octet_Lower.r0 K = octet_Lower.l0 K from funext (octet_Lower.e0 K)]; exact h

def octet_Same.spec : Dp.Spec := { args := (.scons .str (.scons .str .snil)), res := .bool, own := false, F := fun K x => octet_Same K x.1 x.2.1 }
def octet_Same.hint : Dp.Hint := { n := 17 }
noncomputable def octet_Same.env : Dp.Env := { ti := ti, gl := gl, fns := [(132, Tryz.f132, octet_Same.hint)], specs := [(71, octet_Lower.spec)], K := 0 }
theorem octet_Same.body_eq (K : Nat) (x : octet_Same.spec.args.den) : body (octet_Same.env.at K) 8 132 octet_Same.spec x = octet_Same K x.1 x.2.1 := by kernel_rfl
theorem octet_Same.contract : Contract Tryz.prog gl 132 octet_Same.spec :=
  contract_of (E := octet_Same.env) ⟨TIok_of tiOK, FnsOK_of ⟨⟨Tryz.func132, Tryz.call132⟩, trivial⟩, mixed⟩ (SpecsOK_of (E := octet_Same.env) ⟨octet_Lower.contract, trivial⟩) Tryz.call132 rfl rfl fun K x r h => by
    rw [octet_Same.body_eq]; exact h

def fields_named_c1.spec : Dp.Spec := { args := (.scons (.scons .str (.scons .str .snil)) (.scons (.ref .str) .snil)), res := .bool, own := false, F := fun K x => fields_named_c1 K x.1 x.2.1 }
def fields_named_c1.hint : Dp.Hint := { n := 8, imm := [2] }
noncomputable def fields_named_c1.env : Dp.Env := { ti := ti, gl := gl, fns := [(131, Tryz.f131, fields_named_c1.hint)], specs := [(132, octet_Same.spec)], K := 0 }
theorem fields_named_c1.body_eq (K : Nat) (x : fields_named_c1.spec.args.den) : body (fields_named_c1.env.at K) 8 131 fields_named_c1.spec x = fields_named_c1 K x.1 x.2.1 := by kernel_rfl
theorem fields_named_c1.contract : Contract Tryz.prog gl 131 fields_named_c1.spec :=
  contract_of (E := fields_named_c1.env) ⟨TIok_of tiOK, FnsOK_of ⟨⟨Tryz.func131, Tryz.call131⟩, trivial⟩, mixed⟩ (SpecsOK_of (E := fields_named_c1.env) ⟨octet_Same.contract, trivial⟩) Tryz.call131 rfl rfl fun K x r h => by
    rw [fields_named_c1.body_eq]; exact h

def fields_chosen__named_c1.spec : Dp.Spec := { args := (.scons (.list (.scons .str (.scons .str .snil))) (.scons (.fn 131 (.scons (.ref .str) .snil)) .snil)), res := (.list (.scons .str (.scons .str .snil))), own := false, F := fun K x => fields_chosen__named_c1 K x.1 x.2.1 }
def fields_chosen__named_c1.hint : Dp.Hint := { n := 23, conds := [(16, [(.normal, { regs := [(1, (.fn 131 (.scons (.ref .str) .snil))), (5, (.slw 1)), (8, (.list (.scons .str (.scons .str .snil)))), (9, (.int .i64)), (10, (.int .i64))], heap := [(.row (.scons .str (.scons .str .snil))), (.row (.scons .str (.scons .str .snil))), (.scons .str (.scons .str .snil))], app := [1] })])], loops := [(3, { regs := [(1, (.fn 131 (.scons (.ref .str) .snil))), (5, (.slw 1)), (8, (.list (.scons .str (.scons .str .snil)))), (9, (.int .i64)), (10, (.int .i64))], heap := [(.row (.scons .str (.scons .str .snil))), (.row (.scons .str (.scons .str .snil)))], app := [1] }, [(.exit 0, { regs := [(5, (.slw 1))], heap := [(.row (.scons .str (.scons .str .snil))), (.row (.scons .str (.scons .str .snil)))], app := [1] })])], own := [4, 5] }
noncomputable def fields_chosen__named_c1.env : Dp.Env := { ti := ti, gl := gl, fns := [(92, Tryz.f92, fields_chosen__named_c1.hint)], specs := [(131, fields_named_c1.spec)], K := 0 }
noncomputable def fields_chosen__named_c1.r0 (K : Nat) : Nat → ((((List UInt8) × (Unit)) × ((Unit) × ((List ((List UInt8) × ((List UInt8) × (Unit)))) × ((Int) × ((Int) × (Unit)))))) × ((List ((List UInt8) × ((List UInt8) × (Unit)))) × ((List ((List UInt8) × ((List UInt8) × (Unit)))) × (Unit)))) → Option ((((Unit) × (Unit)) × ((List ((List UInt8) × ((List UInt8) × (Unit)))) × ((List ((List UInt8) × ((List UInt8) × (Unit)))) × (Unit))))) :=
  loopV [(.exit 0, { regs := [(5, (.slw 1))], heap := [(.row (.scons .str (.scons .str .snil))), (.row (.scons .str (.scons .str .snil)))], app := [1] })] { regs := [(1, (.fn 131 (.scons (.ref .str) .snil))), (5, (.slw 1)), (8, (.list (.scons .str (.scons .str .snil)))), (9, (.int .i64)), (10, (.int .i64))], heap := [(.row (.scons .str (.scons .str .snil))), (.row (.scons .str (.scons .str .snil)))], app := [1] } (interp (fields_chosen__named_c1.env.at K) fields_chosen__named_c1.hint (callF (fields_chosen__named_c1.env.at K) 7) (Code.sub [1, 1, 0, 1, 0, 0] (Tryz.f92.body.getD .skip)) _)
theorem fields_chosen__named_c1.s0 (K n : Nat) (x : ((((List UInt8) × (Unit)) × ((Unit) × ((List ((List UInt8) × ((List UInt8) × (Unit)))) × ((Int) × ((Int) × (Unit)))))) × ((List ((List UInt8) × ((List UInt8) × (Unit)))) × ((List ((List UInt8) × ((List UInt8) × (Unit)))) × (Unit))))) : fields_chosen__named_c1.r0 K (n + 1) x = fields_chosen__named_c1.t0 K (fields_chosen__named_c1.r0 K n) x := by kernel_rfl
theorem fields_chosen__named_c1.e0 (K n : Nat) : fields_chosen__named_c1.r0 K n = fields_chosen__named_c1.l0 K n := by
  induction n with
  | zero => funext x; rfl
  | succ n ih => funext x; rw [fields_chosen__named_c1.s0, ih]; rfl
theorem fields_chosen__named_c1.body_eq (K : Nat) (x : fields_chosen__named_c1.spec.args.den) : body (fields_chosen__named_c1.env.at K) 8 92 fields_chosen__named_c1.spec x = fields_chosen__named_c1.tr (fields_chosen__named_c1.r0 K) K x.1 x.2.1 := by kernel_rfl
theorem fields_chosen__named_c1.contract : Contract Tryz.prog gl 92 fields_chosen__named_c1.spec :=
  contract_of (E := fields_chosen__named_c1.env) ⟨TIok_of tiOK, FnsOK_of ⟨⟨Tryz.func92, Tryz.call92⟩, trivial⟩, mixed⟩ (SpecsOK_of (E := fields_chosen__named_c1.env) ⟨fields_named_c1.contract, trivial⟩) Tryz.call92 rfl rfl fun K x r h => by
    rw [fields_chosen__named_c1.body_eq, show fields_chosen__named_c1.r0 K = fields_chosen__named_c1.l0 K from funext (fields_chosen__named_c1.e0 K)]; exact h

def fields_All.spec : Dp.Spec := { args := (.scons (.list (.scons .str (.scons .str .snil))) (.scons .str .snil)), res := (.list .str), own := false, F := fun K x => fields_All K x.1 x.2.1 }
def fields_All.hint : Dp.Hint := { n := 24, loops := [(3, { regs := [(5, (.slw 1)), (11, (.list (.scons .str (.scons .str .snil)))), (12, (.int .i64)), (13, (.int .i64))], heap := [(.row .str), (.row .str)], app := [1] }, [(.exit 0, { regs := [(5, (.slw 1))], heap := [(.row .str), (.row .str)], app := [1] })])], own := [4, 5] }
noncomputable def fields_All.env : Dp.Env := { ti := ti, gl := gl, fns := [(53, Tryz.f53, fields_All.hint)], specs := [(93, fields_named.spec), (92, fields_chosen__named_c1.spec)], K := 0 }
noncomputable def fields_All.r0 (K : Nat) : Nat → (((Unit) × ((List ((List UInt8) × ((List UInt8) × (Unit)))) × ((Int) × ((Int) × (Unit))))) × ((List (List UInt8)) × ((List (List UInt8)) × (Unit)))) → Option ((((Unit) × (Unit)) × ((List (List UInt8)) × ((List (List UInt8)) × (Unit))))) :=
  loopV [(.exit 0, { regs := [(5, (.slw 1))], heap := [(.row .str), (.row .str)], app := [1] })] { regs := [(5, (.slw 1)), (11, (.list (.scons .str (.scons .str .snil)))), (12, (.int .i64)), (13, (.int .i64))], heap := [(.row .str), (.row .str)], app := [1] } (interp (fields_All.env.at K) fields_All.hint (callF (fields_All.env.at K) 7) (Code.sub [1, 1, 0, 1, 0, 0] (Tryz.f53.body.getD .skip)) _)
theorem fields_All.s0 (K n : Nat) (x : (((Unit) × ((List ((List UInt8) × ((List UInt8) × (Unit)))) × ((Int) × ((Int) × (Unit))))) × ((List (List UInt8)) × ((List (List UInt8)) × (Unit))))) : fields_All.r0 K (n + 1) x = fields_All.t0 K (fields_All.r0 K n) x := by kernel_rfl
theorem fields_All.e0 (K n : Nat) : fields_All.r0 K n = fields_All.l0 K n := by
  induction n with
  | zero => funext x; rfl
  | succ n ih => funext x; rw [fields_All.s0, ih]; rfl
theorem fields_All.body_eq (K : Nat) (x : fields_All.spec.args.den) : body (fields_All.env.at K) 8 53 fields_All.spec x = fields_All.tr (fields_All.r0 K) K x.1 x.2.1 := by kernel_rfl
theorem fields_All.contract : Contract Tryz.prog gl 53 fields_All.spec :=
  contract_of (E := fields_All.env) ⟨TIok_of tiOK, FnsOK_of ⟨⟨Tryz.func53, Tryz.call53⟩, trivial⟩, mixed⟩ (SpecsOK_of (E := fields_All.env) ⟨fields_named.contract, fields_chosen__named_c1.contract, trivial⟩) Tryz.call53 rfl rfl fun K x r h => by
    rw [fields_All.body_eq, show fields_All.r0 K = fields_All.l0 K from funext (fields_All.e0 K)]; exact h

def strings_trimRightByte.spec : Dp.Spec := { args := (.scons .str (.scons (.int .u8) .snil)), res := .str, own := false, F := fun K x => strings_trimRightByte K x.1 x.2.1 }
def strings_trimRightByte.hint : Dp.Hint := { n := 23, regions := [(1, [(.normal, { regs := [(0, .str), (1, (.int .u8)), (16, .bool)] })])], loops := [(1, { regs := [(0, .str), (1, (.int .u8))] }, [(.exit 0, { regs := [(0, .str)] })])] }
noncomputable def strings_trimRightByte.env : Dp.Env := { ti := ti, gl := gl, fns := [(193, Tryz.f193, strings_trimRightByte.hint)], specs := [], K := 0 }
noncomputable def strings_trimRightByte.r0 (K : Nat) : Nat → (((List UInt8) × ((Int) × (Unit))) × (Unit)) → Option ((((List UInt8) × (Unit)) × (Unit))) :=
  loopV [(.exit 0, { regs := [(0, .str)] })] { regs := [(0, .str), (1, (.int .u8))] } (interp (strings_trimRightByte.env.at K) strings_trimRightByte.hint (callF (strings_trimRightByte.env.at K) 7) (Code.sub [1, 0, 0, 0] (Tryz.f193.body.getD .skip)) _)
theorem strings_trimRightByte.s0 (K n : Nat) (x : (((List UInt8) × ((Int) × (Unit))) × (Unit))) : strings_trimRightByte.r0 K (n + 1) x = strings_trimRightByte.t0 K (strings_trimRightByte.r0 K n) x := by kernel_rfl
theorem strings_trimRightByte.e0 (K n : Nat) : strings_trimRightByte.r0 K n = strings_trimRightByte.l0 K n := by
  induction n with
  | zero => funext x; rfl
  | succ n ih => funext x; rw [strings_trimRightByte.s0, ih]; rfl
theorem strings_trimRightByte.body_eq (K : Nat) (x : strings_trimRightByte.spec.args.den) : body (strings_trimRightByte.env.at K) 8 193 strings_trimRightByte.spec x = strings_trimRightByte.tr (strings_trimRightByte.r0 K) K x.1 x.2.1 := by kernel_rfl
theorem strings_trimRightByte.contract : Contract Tryz.prog gl 193 strings_trimRightByte.spec :=
  contract_of (E := strings_trimRightByte.env) ⟨TIok_of tiOK, FnsOK_of ⟨⟨Tryz.func193, Tryz.call193⟩, trivial⟩, mixed⟩ (SpecsOK_of (E := strings_trimRightByte.env) trivial) Tryz.call193 rfl rfl fun K x r h => by
    rw [strings_trimRightByte.body_eq, show strings_trimRightByte.r0 K = strings_trimRightByte.l0 K from funext (strings_trimRightByte.e0 K)]; exact h

def strings_trimLeftByte.spec : Dp.Spec := { args := (.scons .str (.scons (.int .u8) .snil)), res := .str, own := false, F := fun K x => strings_trimLeftByte K x.1 x.2.1 }
def strings_trimLeftByte.hint : Dp.Hint := { n := 17, regions := [(1, [(.normal, { regs := [(0, .str), (1, (.int .u8)), (13, .bool)] })])], loops := [(1, { regs := [(0, .str), (1, (.int .u8))] }, [(.exit 0, { regs := [(0, .str)] })])] }
noncomputable def strings_trimLeftByte.env : Dp.Env := { ti := ti, gl := gl, fns := [(192, Tryz.f192, strings_trimLeftByte.hint)], specs := [], K := 0 }
noncomputable def strings_trimLeftByte.r0 (K : Nat) : Nat → (((List UInt8) × ((Int) × (Unit))) × (Unit)) → Option ((((List UInt8) × (Unit)) × (Unit))) :=
  loopV [(.exit 0, { regs := [(0, .str)] })] { regs := [(0, .str), (1, (.int .u8))] } (interp (strings_trimLeftByte.env.at K) strings_trimLeftByte.hint (callF (strings_trimLeftByte.env.at K) 7) (Code.sub [1, 0, 0, 0] (Tryz.f192.body.getD .skip)) _)
theorem strings_trimLeftByte.s0 (K n : Nat) (x : (((List UInt8) × ((Int) × (Unit))) × (Unit))) : strings_trimLeftByte.r0 K (n + 1) x = strings_trimLeftByte.t0 K (strings_trimLeftByte.r0 K n) x := by kernel_rfl
theorem strings_trimLeftByte.e0 (K n : Nat) : strings_trimLeftByte.r0 K n = strings_trimLeftByte.l0 K n := by
  induction n with
  | zero => funext x; rfl
  | succ n ih => funext x; rw [strings_trimLeftByte.s0, ih]; rfl
theorem strings_trimLeftByte.body_eq (K : Nat) (x : strings_trimLeftByte.spec.args.den) : body (strings_trimLeftByte.env.at K) 8 192 strings_trimLeftByte.spec x = strings_trimLeftByte.tr (strings_trimLeftByte.r0 K) K x.1 x.2.1 := by kernel_rfl
theorem strings_trimLeftByte.contract : Contract Tryz.prog gl 192 strings_trimLeftByte.spec :=
  contract_of (E := strings_trimLeftByte.env) ⟨TIok_of tiOK, FnsOK_of ⟨⟨Tryz.func192, Tryz.call192⟩, trivial⟩, mixed⟩ (SpecsOK_of (E := strings_trimLeftByte.env) trivial) Tryz.call192 rfl rfl fun K x r h => by
    rw [strings_trimLeftByte.body_eq, show strings_trimLeftByte.r0 K = strings_trimLeftByte.l0 K from funext (strings_trimLeftByte.e0 K)]; exact h

def strings_asciiSet_contains.spec : Dp.Spec := { args := (.scons (.ref (.arr 256 .bool)) (.scons (.int .u8) .snil)), res := .bool, own := false, F := fun K x => strings_asciiSet_contains K x.1 x.2.1 }
def strings_asciiSet_contains.hint : Dp.Hint := { n := 10 }
noncomputable def strings_asciiSet_contains.env : Dp.Env := { ti := ti, gl := gl, fns := [(224, Tryz.f224, strings_asciiSet_contains.hint)], specs := [], K := 0 }
theorem strings_asciiSet_contains.body_eq (K : Nat) (x : strings_asciiSet_contains.spec.args.den) : body (strings_asciiSet_contains.env.at K) 8 224 strings_asciiSet_contains.spec x = strings_asciiSet_contains K x.1 x.2.1 := by kernel_rfl
theorem strings_asciiSet_contains.contract : Contract Tryz.prog gl 224 strings_asciiSet_contains.spec :=
  contract_of (E := strings_asciiSet_contains.env) ⟨TIok_of tiOK, FnsOK_of ⟨⟨Tryz.func224, Tryz.call224⟩, trivial⟩, mixed⟩ (SpecsOK_of (E := strings_asciiSet_contains.env) trivial) Tryz.call224 rfl rfl fun K x r h => by
    rw [strings_asciiSet_contains.body_eq]; exact h

def strings_trimRightASCII.spec : Dp.Spec := { args := (.scons .str (.scons (.ref (.arr 256 .bool)) .snil)), res := .str, own := false, F := fun K x => strings_trimRightASCII K x.1 x.2.1 }
def strings_trimRightASCII.hint : Dp.Hint := { n := 22, loops := [(1, { regs := [(0, .str), (1, (.ref (.arr 256 .bool)))] }, [(.exit 0, { regs := [(0, .str)] })])] }
noncomputable def strings_trimRightASCII.env : Dp.Env := { ti := ti, gl := gl, fns := [(196, Tryz.f196, strings_trimRightASCII.hint)], specs := [(224, strings_asciiSet_contains.spec)], K := 0 }
noncomputable def strings_trimRightASCII.r0 (K : Nat) : Nat → (((List UInt8) × ((List (Bool)) × (Unit))) × (Unit)) → Option ((((List UInt8) × (Unit)) × (Unit))) :=
  loopV [(.exit 0, { regs := [(0, .str)] })] { regs := [(0, .str), (1, (.ref (.arr 256 .bool)))] } (interp (strings_trimRightASCII.env.at K) strings_trimRightASCII.hint (callF (strings_trimRightASCII.env.at K) 7) (Code.sub [1, 0, 0, 0] (Tryz.f196.body.getD .skip)) _)
theorem strings_trimRightASCII.s0 (K n : Nat) (x : (((List UInt8) × ((List (Bool)) × (Unit))) × (Unit))) : strings_trimRightASCII.r0 K (n + 1) x = strings_trimRightASCII.t0 K (strings_trimRightASCII.r0 K n) x := by kernel_rfl
theorem strings_trimRightASCII.e0 (K n : Nat) : strings_trimRightASCII.r0 K n = strings_trimRightASCII.l0 K n := by
  induction n with
  | zero => funext x; rfl
  | succ n ih => funext x; rw [strings_trimRightASCII.s0, ih]; rfl
theorem strings_trimRightASCII.body_eq (K : Nat) (x : strings_trimRightASCII.spec.args.den) : body (strings_trimRightASCII.env.at K) 8 196 strings_trimRightASCII.spec x = strings_trimRightASCII.tr (strings_trimRightASCII.r0 K) K x.1 x.2.1 := by kernel_rfl
theorem strings_trimRightASCII.contract : Contract Tryz.prog gl 196 strings_trimRightASCII.spec :=
  contract_of (E := strings_trimRightASCII.env) ⟨TIok_of tiOK, FnsOK_of ⟨⟨Tryz.func196, Tryz.call196⟩, trivial⟩, mixed⟩ (SpecsOK_of (E := strings_trimRightASCII.env) ⟨strings_asciiSet_contains.contract, trivial⟩) Tryz.call196 rfl rfl fun K x r h => by
    rw [strings_trimRightASCII.body_eq, show strings_trimRightASCII.r0 K = strings_trimRightASCII.l0 K from funext (strings_trimRightASCII.e0 K)]; exact h

def strings_trimLeftASCII.spec : Dp.Spec := { args := (.scons .str (.scons (.ref (.arr 256 .bool)) .snil)), res := .str, own := false, F := fun K x => strings_trimLeftASCII K x.1 x.2.1 }
def strings_trimLeftASCII.hint : Dp.Hint := { n := 16, loops := [(1, { regs := [(0, .str), (1, (.ref (.arr 256 .bool)))] }, [(.exit 0, { regs := [(0, .str)] })])] }
noncomputable def strings_trimLeftASCII.env : Dp.Env := { ti := ti, gl := gl, fns := [(195, Tryz.f195, strings_trimLeftASCII.hint)], specs := [(224, strings_asciiSet_contains.spec)], K := 0 }
noncomputable def strings_trimLeftASCII.r0 (K : Nat) : Nat → (((List UInt8) × ((List (Bool)) × (Unit))) × (Unit)) → Option ((((List UInt8) × (Unit)) × (Unit))) :=
  loopV [(.exit 0, { regs := [(0, .str)] })] { regs := [(0, .str), (1, (.ref (.arr 256 .bool)))] } (interp (strings_trimLeftASCII.env.at K) strings_trimLeftASCII.hint (callF (strings_trimLeftASCII.env.at K) 7) (Code.sub [1, 0, 0, 0] (Tryz.f195.body.getD .skip)) _)
theorem strings_trimLeftASCII.s0 (K n : Nat) (x : (((List UInt8) × ((List (Bool)) × (Unit))) × (Unit))) : strings_trimLeftASCII.r0 K (n + 1) x = strings_trimLeftASCII.t0 K (strings_trimLeftASCII.r0 K n) x := by kernel_rfl
theorem strings_trimLeftASCII.e0 (K n : Nat) : strings_trimLeftASCII.r0 K n = strings_trimLeftASCII.l0 K n := by
  induction n with
  | zero => funext x; rfl
  | succ n ih => funext x; rw [strings_trimLeftASCII.s0, ih]; rfl
theorem strings_trimLeftASCII.body_eq (K : Nat) (x : strings_trimLeftASCII.spec.args.den) : body (strings_trimLeftASCII.env.at K) 8 195 strings_trimLeftASCII.spec x = strings_trimLeftASCII.tr (strings_trimLeftASCII.r0 K) K x.1 x.2.1 := by kernel_rfl
theorem strings_trimLeftASCII.contract : Contract Tryz.prog gl 195 strings_trimLeftASCII.spec :=
  contract_of (E := strings_trimLeftASCII.env) ⟨TIok_of tiOK, FnsOK_of ⟨⟨Tryz.func195, Tryz.call195⟩, trivial⟩, mixed⟩ (SpecsOK_of (E := strings_trimLeftASCII.env) ⟨strings_asciiSet_contains.contract, trivial⟩) Tryz.call195 rfl rfl fun K x r h => by
    rw [strings_trimLeftASCII.body_eq, show strings_trimLeftASCII.r0 K = strings_trimLeftASCII.l0 K from funext (strings_trimLeftASCII.e0 K)]; exact h

def strings_Trim.spec : Dp.Spec := { args := (.scons .str (.scons .str .snil)), res := .str, own := false, F := fun K x => strings_Trim K x.1 x.2.1 }
def strings_Trim.hint : Dp.Hint := { n := 43, regions := [(1, [(.normal, { regs := [(0, .str), (1, .str), (12, .bool)] })]), (3, [(.normal, { regs := [(0, .str), (1, .str), (21, .bool)] })])] }
noncomputable def strings_Trim.env : Dp.Env := { ti := ti, gl := gl, fns := [(152, Tryz.f152, strings_Trim.hint)], specs := [(193, strings_trimRightByte.spec), (192, strings_trimLeftByte.spec), (196, strings_trimRightASCII.spec), (195, strings_trimLeftASCII.spec), (194, asciiSet.spec)], K := 0 }
theorem strings_Trim.body_eq (K : Nat) (x : strings_Trim.spec.args.den) : body (strings_Trim.env.at K) 8 152 strings_Trim.spec x = strings_Trim K x.1 x.2.1 := by kernel_rfl
theorem strings_Trim.contract : Contract Tryz.prog gl 152 strings_Trim.spec :=
  contract_of (E := strings_Trim.env) ⟨TIok_of tiOK, FnsOK_of ⟨⟨Tryz.func152, Tryz.call152⟩, trivial⟩, mixed⟩ (SpecsOK_of (E := strings_Trim.env) ⟨strings_trimRightByte.contract, strings_trimLeftByte.contract, strings_trimRightASCII.contract, strings_trimLeftASCII.contract, asciiSet.contract, trivial⟩) Tryz.call152 rfl rfl fun K x r h => by
    rw [strings_Trim.body_eq]; exact h

def octet_Trim.spec : Dp.Spec := { args := (.scons .str .snil), res := .str, own := false, F := fun K x => octet_Trim K x.1 }
def octet_Trim.hint : Dp.Hint := { n := 5 }
noncomputable def octet_Trim.env : Dp.Env := { ti := ti, gl := gl, fns := [(104, Tryz.f104, octet_Trim.hint)], specs := [(152, strings_Trim.spec)], K := 0 }
theorem octet_Trim.body_eq (K : Nat) (x : octet_Trim.spec.args.den) : body (octet_Trim.env.at K) 8 104 octet_Trim.spec x = octet_Trim K x.1 := by kernel_rfl
theorem octet_Trim.contract : Contract Tryz.prog gl 104 octet_Trim.spec :=
  contract_of (E := octet_Trim.env) ⟨TIok_of tiOK, FnsOK_of ⟨⟨Tryz.func104, Tryz.call104⟩, trivial⟩, mixed⟩ (SpecsOK_of (E := octet_Trim.env) ⟨strings_Trim.contract, trivial⟩) Tryz.call104 rfl rfl fun K x r h => by
    rw [octet_Trim.body_eq]; exact h

def items_Split.spec : Dp.Spec := { args := (.scons .str .snil), res := (.tup (.scons (.list .str) (.scons (.int .i64) .snil))), own := false, F := fun K x => items_Split K x.1 }
def items_Split.hint : Dp.Hint := { n := 49, conds := [(20, [(.exit 1, { regs := [(1, (.ref .str)), (4, (.loc 1 false [])), (6, (.fn 103 (.scons (.ref .str) (.scons (.loc 2 false []) (.scons (.loc 1 false []) .snil))))), (7, .bool), (8, (.int .i64))], heap := [(.row .str), (.slw 0), (.int .i64)], app := [0] }), (.normal, { regs := [(1, (.ref .str)), (4, (.loc 1 false [])), (6, (.fn 103 (.scons (.ref .str) (.scons (.loc 2 false []) (.scons (.loc 1 false []) .snil))))), (7, .bool), (8, (.int .i64))], heap := [(.row .str), (.slw 0), (.int .i64)], app := [0] })]), (33, [(.normal, { regs := [(1, (.ref .str)), (4, (.loc 1 false [])), (6, (.fn 103 (.scons (.ref .str) (.scons (.loc 2 false []) (.scons (.loc 1 false []) .snil))))), (7, .bool), (8, (.int .i64))], heap := [(.row .str), (.slw 0), (.int .i64)], app := [0] })])], blocks := [(1, [(.normal, { regs := [(1, (.ref .str)), (4, (.loc 1 false [])), (6, (.fn 103 (.scons (.ref .str) (.scons (.loc 2 false []) (.scons (.loc 1 false []) .snil))))), (7, .bool), (8, (.int .i64))], heap := [(.row .str), (.slw 0), (.int .i64)], app := [0] })])], regions := [(11, [(.normal, { regs := [(1, (.ref .str)), (4, (.loc 1 false [])), (6, (.fn 103 (.scons (.ref .str) (.scons (.loc 2 false []) (.scons (.loc 1 false []) .snil))))), (7, .bool), (8, (.int .i64)), (9, (.int .u8)), (25, .bool)], heap := [(.row .str), (.slw 0), (.int .i64)], app := [0] })]), (13, [(.normal, { regs := [(1, (.ref .str)), (4, (.loc 1 false [])), (6, (.fn 103 (.scons (.ref .str) (.scons (.loc 2 false []) (.scons (.loc 1 false []) .snil))))), (7, .bool), (8, (.int .i64)), (33, .bool)], heap := [(.row .str), (.slw 0), (.int .i64)], app := [0] })]), (14, [(.normal, { regs := [(1, (.ref .str)), (4, (.loc 1 false [])), (6, (.fn 103 (.scons (.ref .str) (.scons (.loc 2 false []) (.scons (.loc 1 false []) .snil))))), (7, .bool), (8, (.int .i64))], heap := [(.row .str), (.slw 0), (.int .i64)], app := [0] })])], loops := [(6, { regs := [(1, (.ref .str)), (4, (.loc 1 false [])), (6, (.fn 103 (.scons (.ref .str) (.scons (.loc 2 false []) (.scons (.loc 1 false []) .snil))))), (7, .bool), (8, (.int .i64))], heap := [(.row .str), (.slw 0), (.int .i64)], app := [0] }, [(.exit 0, { regs := [(1, (.ref .str)), (4, (.loc 1 false [])), (6, (.fn 103 (.scons (.ref .str) (.scons (.loc 2 false []) (.scons (.loc 1 false []) .snil))))), (7, .bool)], heap := [(.row .str), (.slw 0), (.int .i64)], app := [0] })])], own := [4], imm := [1] }
def items_Split.hint103 : Dp.Hint := { n := 19 }
noncomputable def items_Split.env : Dp.Env := { ti := ti, gl := gl, fns := [(69, Tryz.f69, items_Split.hint), (103, Tryz.f103, items_Split.hint103)], specs := [(104, octet_Trim.spec)], K := 0 }
noncomputable def items_Split.r0 (K : Nat) : Nat → (((List UInt8) × ((Nat) × (((List UInt8) × ((Nat) × ((Nat) × (Unit)))) × ((Bool) × ((Int) × (Unit)))))) × ((List (List UInt8)) × ((Unit) × ((Int) × (Unit))))) → Option ((((List UInt8) × ((Nat) × (((List UInt8) × ((Nat) × ((Nat) × (Unit)))) × ((Bool) × (Unit))))) × ((List (List UInt8)) × ((Unit) × ((Int) × (Unit)))))) :=
  loopV [(.exit 0, { regs := [(1, (.ref .str)), (4, (.loc 1 false [])), (6, (.fn 103 (.scons (.ref .str) (.scons (.loc 2 false []) (.scons (.loc 1 false []) .snil))))), (7, .bool)], heap := [(.row .str), (.slw 0), (.int .i64)], app := [0] })] { regs := [(1, (.ref .str)), (4, (.loc 1 false [])), (6, (.fn 103 (.scons (.ref .str) (.scons (.loc 2 false []) (.scons (.loc 1 false []) .snil))))), (7, .bool), (8, (.int .i64))], heap := [(.row .str), (.slw 0), (.int .i64)], app := [0] } (interp (items_Split.env.at K) items_Split.hint (callF (items_Split.env.at K) 7) (Code.sub [1, 0, 1, 1, 1, 1, 1, 0, 1, 0, 0] (Tryz.f69.body.getD .skip)) _)
theorem items_Split.s0 (K n : Nat) (x : (((List UInt8) × ((Nat) × (((List UInt8) × ((Nat) × ((Nat) × (Unit)))) × ((Bool) × ((Int) × (Unit)))))) × ((List (List UInt8)) × ((Unit) × ((Int) × (Unit)))))) : items_Split.r0 K (n + 1) x = items_Split.t0 K (items_Split.r0 K n) x := by kernel_rfl
theorem items_Split.e0 (K n : Nat) : items_Split.r0 K n = items_Split.l0 K n := by
  induction n with
  | zero => funext x; rfl
  | succ n ih => funext x; rw [items_Split.s0, ih]; rfl
theorem items_Split.body_eq (K : Nat) (x : items_Split.spec.args.den) : body (items_Split.env.at K) 8 69 items_Split.spec x = items_Split.tr (items_Split.r0 K) K x.1 := by kernel_rfl
theorem items_Split.contract : Contract Tryz.prog gl 69 items_Split.spec :=
  contract_of (E := items_Split.env) ⟨TIok_of tiOK, FnsOK_of ⟨⟨Tryz.func69, Tryz.call69⟩, ⟨Tryz.func103, Tryz.call103⟩, trivial⟩, mixed⟩ (SpecsOK_of (E := items_Split.env) ⟨octet_Trim.contract, trivial⟩) Tryz.call69 rfl rfl fun K x r h => by
    rw [items_Split.body_eq, show items_Split.r0 K = items_Split.l0 K from funext (items_Split.e0 K)]; exact h

def octet_oneOf.spec : Dp.Spec := { args := (.scons .str .snil), res := (.fn 199 (.scons (.ref .str) .snil)), own := false, F := fun K x => octet_oneOf K x.1 }
def octet_oneOf.hint : Dp.Hint := { n := 4, imm := [1] }
noncomputable def octet_oneOf.env : Dp.Env := { ti := ti, gl := gl, fns := [(155, Tryz.f155, octet_oneOf.hint)], specs := [], K := 0 }
theorem octet_oneOf.body_eq (K : Nat) (x : octet_oneOf.spec.args.den) : body (octet_oneOf.env.at K) 8 155 octet_oneOf.spec x = octet_oneOf K x.1 := by kernel_rfl
theorem octet_oneOf.contract : Contract Tryz.prog gl 155 octet_oneOf.spec :=
  contract_of (E := octet_oneOf.env) ⟨TIok_of tiOK, FnsOK_of ⟨⟨Tryz.func155, Tryz.call155⟩, trivial⟩, mixed⟩ (SpecsOK_of (E := octet_oneOf.env) trivial) Tryz.call155 rfl rfl fun K x r h => by
    rw [octet_oneOf.body_eq]; exact h

def octet_is__from_c1.spec : Dp.Spec := { args := (.scons (.int .u8) (.scons (.hl (.scons (.fn 156 (.scons (.ref (.int .u8)) (.scons (.ref (.int .u8)) .snil))) .snil)) .snil)), res := .bool, own := false, F := fun K x => octet_is__from_c1 K x.1 x.2.1 }
def octet_is__from_c1.hint : Dp.Hint := { n := 17 }
noncomputable def octet_is__from_c1.env : Dp.Env := { ti := ti, gl := gl, fns := [(153, Tryz.f153, octet_is__from_c1.hint)], specs := [(156, octet_from_c1.spec)], K := 0 }
theorem octet_is__from_c1.body_eq (K : Nat) (x : octet_is__from_c1.spec.args.den) : body (octet_is__from_c1.env.at K) 8 153 octet_is__from_c1.spec x = octet_is__from_c1 K x.1 x.2.1 := by kernel_rfl
theorem octet_is__from_c1.contract : Contract Tryz.prog gl 153 octet_is__from_c1.spec :=
  contract_of (E := octet_is__from_c1.env) ⟨TIok_of tiOK, FnsOK_of ⟨⟨Tryz.func153, Tryz.call153⟩, trivial⟩, mixed⟩ (SpecsOK_of (E := octet_is__from_c1.env) ⟨octet_from_c1.contract, trivial⟩) Tryz.call153 rfl rfl fun K x r h => by
    rw [octet_is__from_c1.body_eq]; exact h

def octet_Digit.spec : Dp.Spec := { args := (.scons (.int .u8) .snil), res := .bool, own := false, F := fun K x => octet_Digit K x.1 }
def octet_Digit.hint : Dp.Hint := { n := 7 }
noncomputable def octet_Digit.env : Dp.Env := { ti := ti, gl := gl, fns := [(154, Tryz.f154, octet_Digit.hint)], specs := [(107, octet_from.spec), (153, octet_is__from_c1.spec)], K := 0 }
theorem octet_Digit.body_eq (K : Nat) (x : octet_Digit.spec.args.den) : body (octet_Digit.env.at K) 8 154 octet_Digit.spec x = octet_Digit K x.1 := by kernel_rfl
theorem octet_Digit.contract : Contract Tryz.prog gl 154 octet_Digit.spec :=
  contract_of (E := octet_Digit.env) ⟨TIok_of tiOK, FnsOK_of ⟨⟨Tryz.func154, Tryz.call154⟩, trivial⟩, mixed⟩ (SpecsOK_of (E := octet_Digit.env) ⟨octet_from.contract, octet_is__from_c1.contract, trivial⟩) Tryz.call154 rfl rfl fun K x r h => by
    rw [octet_Digit.body_eq]; exact h

def stringslite_IndexByte.spec : Dp.Spec := { args := (.scons .str (.scons (.int .u8) .snil)), res := (.int .i64), own := false, F := fun K x => stringslite_IndexByte K x.1 x.2.1 }
def stringslite_IndexByte.hint : Dp.Hint := { n := 8 }
noncomputable def stringslite_IndexByte.env : Dp.Env := { ti := ti, gl := gl, fns := [(171, Tryz.f171, stringslite_IndexByte.hint)], specs := [(208, ixb.spec)], K := 0 }
theorem stringslite_IndexByte.body_eq (K : Nat) (x : stringslite_IndexByte.spec.args.den) : body (stringslite_IndexByte.env.at K) 8 171 stringslite_IndexByte.spec x = stringslite_IndexByte K x.1 x.2.1 := by kernel_rfl
theorem stringslite_IndexByte.contract : Contract Tryz.prog gl 171 stringslite_IndexByte.spec :=
  contract_of (E := stringslite_IndexByte.env) ⟨TIok_of tiOK, FnsOK_of ⟨⟨Tryz.func171, Tryz.call171⟩, trivial⟩, mixed⟩ (SpecsOK_of (E := stringslite_IndexByte.env) ⟨ixb.contract, trivial⟩) Tryz.call171 rfl rfl fun K x r h => by
    rw [stringslite_IndexByte.body_eq]; exact h

def strings_IndexByte.spec : Dp.Spec := { args := (.scons .str (.scons (.int .u8) .snil)), res := (.int .i64), own := false, F := fun K x => strings_IndexByte K x.1 x.2.1 }
def strings_IndexByte.hint : Dp.Hint := { n := 8 }
noncomputable def strings_IndexByte.env : Dp.Env := { ti := ti, gl := gl, fns := [(118, Tryz.f118, strings_IndexByte.hint)], specs := [(171, stringslite_IndexByte.spec)], K := 0 }
theorem strings_IndexByte.body_eq (K : Nat) (x : strings_IndexByte.spec.args.den) : body (strings_IndexByte.env.at K) 8 118 strings_IndexByte.spec x = strings_IndexByte K x.1 x.2.1 := by kernel_rfl
theorem strings_IndexByte.contract : Contract Tryz.prog gl 118 strings_IndexByte.spec :=
  contract_of (E := strings_IndexByte.env) ⟨TIok_of tiOK, FnsOK_of ⟨⟨Tryz.func118, Tryz.call118⟩, trivial⟩, mixed⟩ (SpecsOK_of (E := strings_IndexByte.env) ⟨stringslite_IndexByte.contract, trivial⟩) Tryz.call118 rfl rfl fun K x r h => by
    rw [strings_IndexByte.body_eq]; exact h

def octet_oneOf_c1.spec : Dp.Spec := { args := (.scons (.int .u8) (.scons (.ref .str) .snil)), res := .bool, own := false, F := fun K x => octet_oneOf_c1 K x.1 x.2.1 }
def octet_oneOf_c1.hint : Dp.Hint := { n := 8 }
noncomputable def octet_oneOf_c1.env : Dp.Env := { ti := ti, gl := gl, fns := [(199, Tryz.f199, octet_oneOf_c1.hint)], specs := [(118, strings_IndexByte.spec)], K := 0 }
theorem octet_oneOf_c1.body_eq (K : Nat) (x : octet_oneOf_c1.spec.args.den) : body (octet_oneOf_c1.env.at K) 8 199 octet_oneOf_c1.spec x = octet_oneOf_c1 K x.1 x.2.1 := by kernel_rfl
theorem octet_oneOf_c1.contract : Contract Tryz.prog gl 199 octet_oneOf_c1.spec :=
  contract_of (E := octet_oneOf_c1.env) ⟨TIok_of tiOK, FnsOK_of ⟨⟨Tryz.func199, Tryz.call199⟩, trivial⟩, mixed⟩ (SpecsOK_of (E := octet_oneOf_c1.env) ⟨strings_IndexByte.contract, trivial⟩) Tryz.call199 rfl rfl fun K x r h => by
    rw [octet_oneOf_c1.body_eq]; exact h

def octet_is__Digit_from_c1_from_c1_oneOf_c1.spec : Dp.Spec := { args := (.scons (.int .u8) (.scons (.hl (.scons (.fn 154 .snil) (.scons (.fn 156 (.scons (.ref (.int .u8)) (.scons (.ref (.int .u8)) .snil))) (.scons (.fn 156 (.scons (.ref (.int .u8)) (.scons (.ref (.int .u8)) .snil))) (.scons (.fn 199 (.scons (.ref .str) .snil)) .snil))))) .snil)), res := .bool, own := false, F := fun K x => octet_is__Digit_from_c1_from_c1_oneOf_c1 K x.1 x.2.1 }
def octet_is__Digit_from_c1_from_c1_oneOf_c1.hint : Dp.Hint := { n := 17 }
noncomputable def octet_is__Digit_from_c1_from_c1_oneOf_c1.env : Dp.Env := { ti := ti, gl := gl, fns := [(153, Tryz.f153, octet_is__Digit_from_c1_from_c1_oneOf_c1.hint)], specs := [(156, octet_from_c1.spec), (154, octet_Digit.spec), (199, octet_oneOf_c1.spec)], K := 0 }
theorem octet_is__Digit_from_c1_from_c1_oneOf_c1.body_eq (K : Nat) (x : octet_is__Digit_from_c1_from_c1_oneOf_c1.spec.args.den) : body (octet_is__Digit_from_c1_from_c1_oneOf_c1.env.at K) 8 153 octet_is__Digit_from_c1_from_c1_oneOf_c1.spec x = octet_is__Digit_from_c1_from_c1_oneOf_c1 K x.1 x.2.1 := by kernel_rfl
theorem octet_is__Digit_from_c1_from_c1_oneOf_c1.contract : Contract Tryz.prog gl 153 octet_is__Digit_from_c1_from_c1_oneOf_c1.spec :=
  contract_of (E := octet_is__Digit_from_c1_from_c1_oneOf_c1.env) ⟨TIok_of tiOK, FnsOK_of ⟨⟨Tryz.func153, Tryz.call153⟩, trivial⟩, mixed⟩ (SpecsOK_of (E := octet_is__Digit_from_c1_from_c1_oneOf_c1.env) ⟨octet_from_c1.contract, octet_Digit.contract, octet_oneOf_c1.contract, trivial⟩) Tryz.call153 rfl rfl fun K x r h => by
    rw [octet_is__Digit_from_c1_from_c1_oneOf_c1.body_eq]; exact h

def octet_Token.spec : Dp.Spec := { args := (.scons (.int .u8) .snil), res := .bool, own := false, F := fun K x => octet_Token K x.1 }
def octet_Token.hint : Dp.Hint := { n := 9 }
noncomputable def octet_Token.env : Dp.Env := { ti := ti, gl := gl, fns := [(106, Tryz.f106, octet_Token.hint)], specs := [(107, octet_from.spec), (155, octet_oneOf.spec), (153, octet_is__Digit_from_c1_from_c1_oneOf_c1.spec)], K := 0 }
theorem octet_Token.body_eq (K : Nat) (x : octet_Token.spec.args.den) : body (octet_Token.env.at K) 8 106 octet_Token.spec x = octet_Token K x.1 := by kernel_rfl
theorem octet_Token.contract : Contract Tryz.prog gl 106 octet_Token.spec :=
  contract_of (E := octet_Token.env) ⟨TIok_of tiOK, FnsOK_of ⟨⟨Tryz.func106, Tryz.call106⟩, trivial⟩, mixed⟩ (SpecsOK_of (E := octet_Token.env) ⟨octet_from.contract, octet_oneOf.contract, octet_is__Digit_from_c1_from_c1_oneOf_c1.contract, trivial⟩) Tryz.call106 rfl rfl fun K x r h => by
    rw [octet_Token.body_eq]; exact h

def octet_all__Token.spec : Dp.Spec := { args := (.scons .str (.scons (.fn 106 .snil) .snil)), res := .bool, own := false, F := fun K x => octet_all__Token K x.1 }
def octet_all__Token.hint : Dp.Hint := { n := 19, loops := [(2, { regs := [(1, (.fn 106 .snil)), (8, (.list (.int .u8))), (9, (.int .i64)), (10, (.int .i64))] }, [(.exit 0, { regs := [] }), (.ret, { regs := [(4, .bool)] })])] }
noncomputable def octet_all__Token.env : Dp.Env := { ti := ti, gl := gl, fns := [(105, Tryz.f105, octet_all__Token.hint)], specs := [(106, octet_Token.spec)], K := 0 }
noncomputable def octet_all__Token.r0 (K : Nat) : Nat → (((Unit) × ((List (Int)) × ((Int) × ((Int) × (Unit))))) × (Unit)) → Option (((Unit) × (Unit)) ⊕ (((Bool) × (Unit)) × (Unit))) :=
  loopV [(.exit 0, { regs := [] }), (.ret, { regs := [(4, .bool)] })] { regs := [(1, (.fn 106 .snil)), (8, (.list (.int .u8))), (9, (.int .i64)), (10, (.int .i64))] } (interp (octet_all__Token.env.at K) octet_all__Token.hint (callF (octet_all__Token.env.at K) 7) (Code.sub [1, 0, 1, 0, 0] (Tryz.f105.body.getD .skip)) _)
theorem octet_all__Token.s0 (K n : Nat) (x : (((Unit) × ((List (Int)) × ((Int) × ((Int) × (Unit))))) × (Unit))) : octet_all__Token.r0 K (n + 1) x = octet_all__Token.t0 K (octet_all__Token.r0 K n) x := by kernel_rfl
theorem octet_all__Token.e0 (K n : Nat) : octet_all__Token.r0 K n = octet_all__Token.l0 K n := by
  induction n with
  | zero => funext x; rfl
  | succ n ih => funext x; rw [octet_all__Token.s0, ih]; rfl
theorem octet_all__Token.body_eq (K : Nat) (x : octet_all__Token.spec.args.den) : body (octet_all__Token.env.at K) 8 105 octet_all__Token.spec x = octet_all__Token.tr (octet_all__Token.r0 K) K x.1 := by kernel_rfl
theorem octet_all__Token.contract : Contract Tryz.prog gl 105 octet_all__Token.spec :=
  contract_of (E := octet_all__Token.env) ⟨TIok_of tiOK, FnsOK_of ⟨⟨Tryz.func105, Tryz.call105⟩, trivial⟩, mixed⟩ (SpecsOK_of (E := octet_all__Token.env) ⟨octet_Token.contract, trivial⟩) Tryz.call105 rfl rfl fun K x r h => by
    rw [octet_all__Token.body_eq, show octet_all__Token.r0 K = octet_all__Token.l0 K from funext (octet_all__Token.e0 K)]; exact h

def octet_IsToken.spec : Dp.Spec := { args := (.scons .str .snil), res := .bool, own := false, F := fun K x => octet_IsToken K x.1 }
def octet_IsToken.hint : Dp.Hint := { n := 9 }
noncomputable def octet_IsToken.env : Dp.Env := { ti := ti, gl := gl, fns := [(70, Tryz.f70, octet_IsToken.hint)], specs := [(105, octet_all__Token.spec)], K := 0 }
theorem octet_IsToken.body_eq (K : Nat) (x : octet_IsToken.spec.args.den) : body (octet_IsToken.env.at K) 8 70 octet_IsToken.spec x = octet_IsToken K x.1 := by kernel_rfl
theorem octet_IsToken.contract : Contract Tryz.prog gl 70 octet_IsToken.spec :=
  contract_of (E := octet_IsToken.env) ⟨TIok_of tiOK, FnsOK_of ⟨⟨Tryz.func70, Tryz.call70⟩, trivial⟩, mixed⟩ (SpecsOK_of (E := octet_IsToken.env) ⟨octet_all__Token.contract, trivial⟩) Tryz.call70 rfl rfl fun K x r h => by
    rw [octet_IsToken.body_eq]; exact h

def vary_Names.spec : Dp.Spec := { args := (.scons (.list (.scons .str (.scons .str .snil))) .snil), res := (.tup (.scons (.list .str) (.scons .bool .snil))), own := false, F := fun K x => vary_Names K x.1 }
def vary_Names.hint : Dp.Hint := { n := 59, conds := [(49, [(.normal, { regs := [(4, (.mapp 1)), (5, (.slw 2)), (14, (.list .str)), (15, (.int .i64)), (16, (.int .i64)), (27, (.list .str)), (28, (.int .i64)), (29, (.int .i64))], heap := [(.row .str), (.mobj .str (.int .i64)), (.row .str)], app := [2] })])], regions := [(12, [(.normal, { regs := [(4, (.mapp 1)), (5, (.slw 2)), (11, .str), (14, (.list .str)), (15, (.int .i64)), (16, (.int .i64)), (27, (.list .str)), (28, (.int .i64)), (29, (.int .i64)), (39, .bool)], heap := [(.row .str), (.mobj .str (.int .i64)), (.row .str)], app := [2] })])], loops := [(4, { regs := [(4, (.mapp 1)), (5, (.slw 2)), (14, (.list .str)), (15, (.int .i64)), (16, (.int .i64))], heap := [(.row .str), (.mobj .str (.int .i64)), (.row .str)], app := [2] }, [(.exit 0, { regs := [(5, (.slw 2))], heap := [(.row .str), (.mobj .str (.int .i64)), (.row .str)], app := [2] }), (.ret, { regs := [(2, (.slw 3)), (3, .bool)], heap := [(.row .str), (.mobj .str (.int .i64)), (.row .str), (.row .str)], app := [2] })]), (10, { regs := [(4, (.mapp 1)), (5, (.slw 2)), (14, (.list .str)), (15, (.int .i64)), (16, (.int .i64)), (27, (.list .str)), (28, (.int .i64)), (29, (.int .i64))], heap := [(.row .str), (.mobj .str (.int .i64)), (.row .str)], app := [2] }, [(.exit 2, { regs := [(4, (.mapp 1)), (5, (.slw 2)), (14, (.list .str)), (15, (.int .i64)), (16, (.int .i64))], heap := [(.row .str), (.mobj .str (.int .i64)), (.row .str)], app := [2] }), (.ret, { regs := [(2, (.slw 3)), (3, .bool)], heap := [(.row .str), (.mobj .str (.int .i64)), (.row .str), (.row .str)], app := [2] })])], own := [2, 2, 2, 5], frz := [57] }
noncomputable def vary_Names.env : Dp.Env := { ti := ti, gl := gl, muts := [(72, sortS.mspec)], fns := [(22, Tryz.f22, vary_Names.hint)], specs := [(71, octet_Lower.spec), (53, fields_All.spec), (69, items_Split.spec), (70, octet_IsToken.spec)], K := 0 }
noncomputable def vary_Names.r0 (K : Nat) : Nat → (((Unit) × ((Unit) × ((List (List UInt8)) × ((Int) × ((Int) × ((List (List UInt8)) × ((Int) × ((Int) × (Unit))))))))) × ((List (List UInt8)) × ((List ((List UInt8) × (Int))) × ((List (List UInt8)) × (Unit))))) → Option ((((Unit) × ((Unit) × ((List (List UInt8)) × ((Int) × ((Int) × (Unit)))))) × ((List (List UInt8)) × ((List ((List UInt8) × (Int))) × ((List (List UInt8)) × (Unit))))) ⊕ (((Unit) × ((Bool) × (Unit))) × ((List (List UInt8)) × ((List ((List UInt8) × (Int))) × ((List (List UInt8)) × ((List (List UInt8)) × (Unit))))))) :=
  loopV [(.exit 2, { regs := [(4, (.mapp 1)), (5, (.slw 2)), (14, (.list .str)), (15, (.int .i64)), (16, (.int .i64))], heap := [(.row .str), (.mobj .str (.int .i64)), (.row .str)], app := [2] }), (.ret, { regs := [(2, (.slw 3)), (3, .bool)], heap := [(.row .str), (.mobj .str (.int .i64)), (.row .str), (.row .str)], app := [2] })] { regs := [(4, (.mapp 1)), (5, (.slw 2)), (14, (.list .str)), (15, (.int .i64)), (16, (.int .i64)), (27, (.list .str)), (28, (.int .i64)), (29, (.int .i64))], heap := [(.row .str), (.mobj .str (.int .i64)), (.row .str)], app := [2] } (interp (vary_Names.env.at K) vary_Names.hint (callF (vary_Names.env.at K) 7) (Code.sub [1, 1, 1, 0, 1, 0, 0, 1, 1, 0, 0, 1, 1, 1, 1, 0, 0] (Tryz.f22.body.getD .skip)) _)
theorem vary_Names.s0 (K n : Nat) (x : (((Unit) × ((Unit) × ((List (List UInt8)) × ((Int) × ((Int) × ((List (List UInt8)) × ((Int) × ((Int) × (Unit))))))))) × ((List (List UInt8)) × ((List ((List UInt8) × (Int))) × ((List (List UInt8)) × (Unit)))))) : vary_Names.r0 K (n + 1) x = vary_Names.t0 K (vary_Names.r0 K n) x := by kernel_rfl
theorem vary_Names.e0 (K n : Nat) : vary_Names.r0 K n = vary_Names.l0 K n := by
  induction n with
  | zero => funext x; rfl
  | succ n ih => funext x; rw [vary_Names.s0, ih]; rfl
noncomputable def vary_Names.r1 (K : Nat) : Nat → (((Unit) × ((Unit) × ((List (List UInt8)) × ((Int) × ((Int) × (Unit)))))) × ((List (List UInt8)) × ((List ((List UInt8) × (Int))) × ((List (List UInt8)) × (Unit))))) → Option ((((Unit) × (Unit)) × ((List (List UInt8)) × ((List ((List UInt8) × (Int))) × ((List (List UInt8)) × (Unit))))) ⊕ (((Unit) × ((Bool) × (Unit))) × ((List (List UInt8)) × ((List ((List UInt8) × (Int))) × ((List (List UInt8)) × ((List (List UInt8)) × (Unit))))))) :=
  loopV [(.exit 0, { regs := [(5, (.slw 2))], heap := [(.row .str), (.mobj .str (.int .i64)), (.row .str)], app := [2] }), (.ret, { regs := [(2, (.slw 3)), (3, .bool)], heap := [(.row .str), (.mobj .str (.int .i64)), (.row .str), (.row .str)], app := [2] })] { regs := [(4, (.mapp 1)), (5, (.slw 2)), (14, (.list .str)), (15, (.int .i64)), (16, (.int .i64))], heap := [(.row .str), (.mobj .str (.int .i64)), (.row .str)], app := [2] } (interp (vary_Names.env.at K) vary_Names.hint (callF (vary_Names.env.at K) 7) (Code.sub [1, 1, 1, 0, 1, 0, 0] (Tryz.f22.body.getD .skip)) _)
theorem vary_Names.s1 (K n : Nat) (x : (((Unit) × ((Unit) × ((List (List UInt8)) × ((Int) × ((Int) × (Unit)))))) × ((List (List UInt8)) × ((List ((List UInt8) × (Int))) × ((List (List UInt8)) × (Unit)))))) : vary_Names.r1 K (n + 1) x = vary_Names.t1 (vary_Names.r0 K) K (vary_Names.r1 K n) x := by kernel_rfl
theorem vary_Names.e1 (K n : Nat) : vary_Names.r1 K n = vary_Names.l1 K n := by
  induction n with
  | zero => funext x; rfl
  | succ n ih => funext x; rw [vary_Names.s1, ih, show vary_Names.r0 K = vary_Names.l0 K from funext (vary_Names.e0 K)]; rfl
theorem vary_Names.body_eq (K : Nat) (x : vary_Names.spec.args.den) : body (vary_Names.env.at K) 8 22 vary_Names.spec x = vary_Names.tr (vary_Names.r1 K) K x.1 := by kernel_rfl
theorem vary_Names.contract : Contract Tryz.prog gl 22 vary_Names.spec :=
  contract_of (E := vary_Names.env) ⟨TIok_of tiOK, FnsOK_of ⟨⟨Tryz.func22, Tryz.call22⟩, trivial⟩, mixed⟩ (SpecsOK_of (E := vary_Names.env) ⟨octet_Lower.contract, fields_All.contract, items_Split.contract, octet_IsToken.contract, trivial⟩ ⟨sortS.turns, trivial⟩) Tryz.call22 rfl rfl fun K x r h => by
    rw [vary_Names.body_eq, show vary_Names.r1 K = vary_Names.l1 K from funext (vary_Names.e1 K)]; exact h

def vary_single.spec : Dp.Spec := { args := (.scons .str .snil), res := .str, own := false, F := fun K x => vary_single K x.1 }
def vary_single.hint : Dp.Hint := { n := 10, loops := [(2, { regs := [(0, .str)] }, [(.exit 0, { regs := [(0, .str)] })])] }
noncomputable def vary_single.env : Dp.Env := { ti := ti, gl := gl, fns := [(113, Tryz.f113, vary_single.hint)], specs := [(169, replaceS.spec), (170, containsS.spec)], K := 0 }
noncomputable def vary_single.r0 (K : Nat) : Nat → (((List UInt8) × (Unit)) × (Unit)) → Option ((((List UInt8) × (Unit)) × (Unit))) :=
  loopV [(.exit 0, { regs := [(0, .str)] })] { regs := [(0, .str)] } (interp (vary_single.env.at K) vary_single.hint (callF (vary_single.env.at K) 7) (Code.sub [1, 1, 0, 0, 0] (Tryz.f113.body.getD .skip)) _)
theorem vary_single.s0 (K n : Nat) (x : (((List UInt8) × (Unit)) × (Unit))) : vary_single.r0 K (n + 1) x = vary_single.t0 K (vary_single.r0 K n) x := by kernel_rfl
theorem vary_single.e0 (K n : Nat) : vary_single.r0 K n = vary_single.l0 K n := by
  induction n with
  | zero => funext x; rfl
  | succ n ih => funext x; rw [vary_single.s0, ih]; rfl
theorem vary_single.body_eq (K : Nat) (x : vary_single.spec.args.den) : body (vary_single.env.at K) 8 113 vary_single.spec x = vary_single.tr (vary_single.r0 K) K x.1 := by kernel_rfl
theorem vary_single.contract : Contract Tryz.prog gl 113 vary_single.spec :=
  contract_of (E := vary_single.env) ⟨TIok_of tiOK, FnsOK_of ⟨⟨Tryz.func113, Tryz.call113⟩, trivial⟩, mixed⟩ (SpecsOK_of (E := vary_single.env) ⟨replaceS.contract, containsS.contract, trivial⟩) Tryz.call113 rfl rfl fun K x r h => by
    rw [vary_single.body_eq, show vary_single.r0 K = vary_single.l0 K from funext (vary_single.e0 K)]; exact h

def items_Join.spec : Dp.Spec := { args := (.scons (.list .str) .snil), res := .str, own := false, F := fun K x => items_Join K x.1 }
def items_Join.hint : Dp.Hint := { n := 5 }
noncomputable def items_Join.env : Dp.Env := { ti := ti, gl := gl, fns := [(66, Tryz.f66, items_Join.hint)], specs := [(97, joinS.spec)], K := 0 }
theorem items_Join.body_eq (K : Nat) (x : items_Join.spec.args.den) : body (items_Join.env.at K) 8 66 items_Join.spec x = items_Join K x.1 := by kernel_rfl
theorem items_Join.contract : Contract Tryz.prog gl 66 items_Join.spec :=
  contract_of (E := items_Join.env) ⟨TIok_of tiOK, FnsOK_of ⟨⟨Tryz.func66, Tryz.call66⟩, trivial⟩, mixed⟩ (SpecsOK_of (E := items_Join.env) ⟨joinS.contract, trivial⟩) Tryz.call66 rfl rfl fun K x r h => by
    rw [items_Join.body_eq]; exact h

def vary_pick.spec : Dp.Spec := { args := (.scons .str (.scons (.list (.scons .str (.scons .str .snil))) .snil)), res := (.scons .str (.scons .bool (.scons .str .snil))), own := false, F := fun K x => vary_pick K x.1 x.2.1 }
def vary_pick.hint : Dp.Hint := { n := 31, loops := [(3, { regs := [(0, .str), (4, (.loc 0 false [])), (5, (.slw 2)), (11, (.slw 2)), (12, (.int .i64)), (13, (.int .i64))], heap := [(.scons .str (.scons .bool (.scons .str .snil))), (.row .str), (.row .str)], app := [2] }, [(.exit 0, { regs := [(0, .str), (4, (.loc 0 false [])), (5, (.slw 2))], heap := [(.scons .str (.scons .bool (.scons .str .snil))), (.row .str), (.row .str)], app := [2] })])] }
def vary_pick.hint53 : Dp.Hint := { n := 24, loops := [(3, { regs := [(5, (.slw 2)), (11, (.list (.scons .str (.scons .str .snil)))), (12, (.int .i64)), (13, (.int .i64))], heap := [(.scons .str (.scons .bool (.scons .str .snil))), (.row .str), (.row .str)], app := [2] }, [(.exit 0, { regs := [(5, (.slw 2))], heap := [(.scons .str (.scons .bool (.scons .str .snil))), (.row .str), (.row .str)], app := [2] })])], own := [4, 5] }
noncomputable def vary_pick.env : Dp.Env := { ti := ti, gl := gl, fns := [(77, Tryz.f77, vary_pick.hint), (53, Tryz.f53, vary_pick.hint53)], specs := [(93, fields_named.spec), (92, fields_chosen__named_c1.spec), (113, vary_single.spec), (66, items_Join.spec)], K := 0 }
noncomputable def vary_pick.r1 (K : Nat) : Nat → (((List UInt8) × ((Nat) × ((Unit) × ((Unit) × ((Int) × ((Int) × (Unit))))))) × (((List UInt8) × ((Bool) × ((List UInt8) × (Unit)))) × ((List (List UInt8)) × ((List (List UInt8)) × (Unit))))) → Option ((((List UInt8) × ((Nat) × ((Unit) × (Unit)))) × (((List UInt8) × ((Bool) × ((List UInt8) × (Unit)))) × ((List (List UInt8)) × ((List (List UInt8)) × (Unit)))))) :=
  loopV [(.exit 0, { regs := [(0, .str), (4, (.loc 0 false [])), (5, (.slw 2))], heap := [(.scons .str (.scons .bool (.scons .str .snil))), (.row .str), (.row .str)], app := [2] })] { regs := [(0, .str), (4, (.loc 0 false [])), (5, (.slw 2)), (11, (.slw 2)), (12, (.int .i64)), (13, (.int .i64))], heap := [(.scons .str (.scons .bool (.scons .str .snil))), (.row .str), (.row .str)], app := [2] } (interp (vary_pick.env.at K) vary_pick.hint (callF (vary_pick.env.at K) 7) (Code.sub [1, 1, 0, 1, 0, 0] (Tryz.f77.body.getD .skip)) _)
theorem vary_pick.s1 (K n : Nat) (x : (((List UInt8) × ((Nat) × ((Unit) × ((Unit) × ((Int) × ((Int) × (Unit))))))) × (((List UInt8) × ((Bool) × ((List UInt8) × (Unit)))) × ((List (List UInt8)) × ((List (List UInt8)) × (Unit)))))) : vary_pick.r1 K (n + 1) x = vary_pick.t1 K (vary_pick.r1 K n) x := by kernel_rfl
theorem vary_pick.e1 (K n : Nat) : vary_pick.r1 K n = vary_pick.l1 K n := by
  induction n with
  | zero => funext x; rfl
  | succ n ih => funext x; rw [vary_pick.s1, ih]; rfl
noncomputable def vary_pick.r0 (K : Nat) : Nat → (((Unit) × ((List ((List UInt8) × ((List UInt8) × (Unit)))) × ((Int) × ((Int) × (Unit))))) × (((List UInt8) × ((Bool) × ((List UInt8) × (Unit)))) × ((List (List UInt8)) × ((List (List UInt8)) × (Unit))))) → Option ((((Unit) × (Unit)) × (((List UInt8) × ((Bool) × ((List UInt8) × (Unit)))) × ((List (List UInt8)) × ((List (List UInt8)) × (Unit)))))) :=
  loopV [(.exit 0, { regs := [(5, (.slw 2))], heap := [(.scons .str (.scons .bool (.scons .str .snil))), (.row .str), (.row .str)], app := [2] })] { regs := [(5, (.slw 2)), (11, (.list (.scons .str (.scons .str .snil)))), (12, (.int .i64)), (13, (.int .i64))], heap := [(.scons .str (.scons .bool (.scons .str .snil))), (.row .str), (.row .str)], app := [2] } (interp (vary_pick.env.at K) vary_pick.hint53 (callF (vary_pick.env.at K) 6) (Code.sub [1, 1, 0, 1, 0, 0] (Tryz.f53.body.getD .skip)) _)
theorem vary_pick.s0 (K n : Nat) (x : (((Unit) × ((List ((List UInt8) × ((List UInt8) × (Unit)))) × ((Int) × ((Int) × (Unit))))) × (((List UInt8) × ((Bool) × ((List UInt8) × (Unit)))) × ((List (List UInt8)) × ((List (List UInt8)) × (Unit)))))) : vary_pick.r0 K (n + 1) x = vary_pick.t0 K (vary_pick.r0 K n) x := by kernel_rfl
theorem vary_pick.e0 (K n : Nat) : vary_pick.r0 K n = vary_pick.l0 K n := by
  induction n with
  | zero => funext x; rfl
  | succ n ih => funext x; rw [vary_pick.s0, ih]; rfl
theorem vary_pick.body_eq (K : Nat) (x : vary_pick.spec.args.den) : body (vary_pick.env.at K) 8 77 vary_pick.spec x = vary_pick.tr (vary_pick.r0 K) (vary_pick.r1 K) K x.1 x.2.1 := by kernel_rfl
theorem vary_pick.contract : Contract Tryz.prog gl 77 vary_pick.spec :=
  contract_of (E := vary_pick.env) ⟨TIok_of tiOK, FnsOK_of ⟨⟨Tryz.func77, Tryz.call77⟩, ⟨Tryz.func53, Tryz.call53⟩, trivial⟩, mixed⟩ (SpecsOK_of (E := vary_pick.env) ⟨fields_named.contract, fields_chosen__named_c1.contract, vary_single.contract, items_Join.contract, trivial⟩) Tryz.call77 rfl rfl fun K x r h => by
    rw [vary_pick.body_eq, show vary_pick.r0 K = vary_pick.l0 K from funext (vary_pick.e0 K), show vary_pick.r1 K = vary_pick.l1 K from funext (vary_pick.e1 K)]; exact h

def vary_Picks.spec : Dp.Spec := { args := (.scons (.list .str) (.scons (.list (.scons .str (.scons .str .snil))) .snil)), res := (.list (.scons .str (.scons .bool (.scons .str .snil)))), own := false, F := fun K x => vary_Picks K x.1 x.2.1 }
def vary_Picks.hint : Dp.Hint := { n := 22, loops := [(3, { regs := [(1, (.list (.scons .str (.scons .str .snil)))), (5, (.slw 1)), (8, (.list .str)), (9, (.int .i64)), (10, (.int .i64))], heap := [(.row (.scons .str (.scons .bool (.scons .str .snil)))), (.row (.scons .str (.scons .bool (.scons .str .snil))))], app := [1] }, [(.exit 0, { regs := [(5, (.slw 1))], heap := [(.row (.scons .str (.scons .bool (.scons .str .snil)))), (.row (.scons .str (.scons .bool (.scons .str .snil))))], app := [1] })])], own := [4, 5] }
noncomputable def vary_Picks.env : Dp.Env := { ti := ti, gl := gl, fns := [(28, Tryz.f28, vary_Picks.hint)], specs := [(77, vary_pick.spec)], K := 0 }
noncomputable def vary_Picks.r0 (K : Nat) : Nat → (((List ((List UInt8) × ((List UInt8) × (Unit)))) × ((Unit) × ((List (List UInt8)) × ((Int) × ((Int) × (Unit)))))) × ((List ((List UInt8) × ((Bool) × ((List UInt8) × (Unit))))) × ((List ((List UInt8) × ((Bool) × ((List UInt8) × (Unit))))) × (Unit)))) → Option ((((Unit) × (Unit)) × ((List ((List UInt8) × ((Bool) × ((List UInt8) × (Unit))))) × ((List ((List UInt8) × ((Bool) × ((List UInt8) × (Unit))))) × (Unit))))) :=
  loopV [(.exit 0, { regs := [(5, (.slw 1))], heap := [(.row (.scons .str (.scons .bool (.scons .str .snil)))), (.row (.scons .str (.scons .bool (.scons .str .snil))))], app := [1] })] { regs := [(1, (.list (.scons .str (.scons .str .snil)))), (5, (.slw 1)), (8, (.list .str)), (9, (.int .i64)), (10, (.int .i64))], heap := [(.row (.scons .str (.scons .bool (.scons .str .snil)))), (.row (.scons .str (.scons .bool (.scons .str .snil))))], app := [1] } (interp (vary_Picks.env.at K) vary_Picks.hint (callF (vary_Picks.env.at K) 7) (Code.sub [1, 1, 0, 1, 0, 0] (Tryz.f28.body.getD .skip)) _)
theorem vary_Picks.s0 (K n : Nat) (x : (((List ((List UInt8) × ((List UInt8) × (Unit)))) × ((Unit) × ((List (List UInt8)) × ((Int) × ((Int) × (Unit)))))) × ((List ((List UInt8) × ((Bool) × ((List UInt8) × (Unit))))) × ((List ((List UInt8) × ((Bool) × ((List UInt8) × (Unit))))) × (Unit))))) : vary_Picks.r0 K (n + 1) x = vary_Picks.t0 K (vary_Picks.r0 K n) x := by kernel_rfl
theorem vary_Picks.e0 (K n : Nat) : vary_Picks.r0 K n = vary_Picks.l0 K n := by
  induction n with
  | zero => funext x; rfl
  | succ n ih => funext x; rw [vary_Picks.s0, ih]; rfl
theorem vary_Picks.body_eq (K : Nat) (x : vary_Picks.spec.args.den) : body (vary_Picks.env.at K) 8 28 vary_Picks.spec x = vary_Picks.tr (vary_Picks.r0 K) K x.1 x.2.1 := by kernel_rfl
theorem vary_Picks.contract : Contract Tryz.prog gl 28 vary_Picks.spec :=
  contract_of (E := vary_Picks.env) ⟨TIok_of tiOK, FnsOK_of ⟨⟨Tryz.func28, Tryz.call28⟩, trivial⟩, mixed⟩ (SpecsOK_of (E := vary_Picks.env) ⟨vary_pick.contract, trivial⟩) Tryz.call28 rfl rfl fun K x r h => by
    rw [vary_Picks.body_eq, show vary_Picks.r0 K = vary_Picks.l0 K from funext (vary_Picks.e0 K)]; exact h

def depotref06_Same.spec : Dp.Spec := { args := (.scons (.list .str) (.scons (.list .str) .snil)), res := .bool, own := false, F := fun K x => depotref06_Same K x.1 x.2.1 }
def depotref06_Same.hint : Dp.Hint := { n := 26, loops := [(4, { regs := [(0, (.list .str)), (1, (.list .str)), (5, (.int .i64))] }, [(.exit 0, { regs := [] }), (.ret, { regs := [(4, .bool)] })])] }
noncomputable def depotref06_Same.env : Dp.Env := { ti := ti, gl := gl, fns := [(24, Tryz.f24, depotref06_Same.hint)], specs := [], K := 0 }
noncomputable def depotref06_Same.r0 (K : Nat) : Nat → (((List (List UInt8)) × ((List (List UInt8)) × ((Int) × (Unit)))) × (Unit)) → Option (((Unit) × (Unit)) ⊕ (((Bool) × (Unit)) × (Unit))) :=
  loopV [(.exit 0, { regs := [] }), (.ret, { regs := [(4, .bool)] })] { regs := [(0, (.list .str)), (1, (.list .str)), (5, (.int .i64))] } (interp (depotref06_Same.env.at K) depotref06_Same.hint (callF (depotref06_Same.env.at K) 7) (Code.sub [1, 1, 0, 1, 0, 0] (Tryz.f24.body.getD .skip)) _)
theorem depotref06_Same.s0 (K n : Nat) (x : (((List (List UInt8)) × ((List (List UInt8)) × ((Int) × (Unit)))) × (Unit))) : depotref06_Same.r0 K (n + 1) x = depotref06_Same.t0 K (depotref06_Same.r0 K n) x := by kernel_rfl
theorem depotref06_Same.e0 (K n : Nat) : depotref06_Same.r0 K n = depotref06_Same.l0 K n := by
  induction n with
  | zero => funext x; rfl
  | succ n ih => funext x; rw [depotref06_Same.s0, ih]; rfl
theorem depotref06_Same.body_eq (K : Nat) (x : depotref06_Same.spec.args.den) : body (depotref06_Same.env.at K) 8 24 depotref06_Same.spec x = depotref06_Same.tr (depotref06_Same.r0 K) K x.1 x.2.1 := by kernel_rfl
theorem depotref06_Same.contract : Contract Tryz.prog gl 24 depotref06_Same.spec :=
  contract_of (E := depotref06_Same.env) ⟨TIok_of tiOK, FnsOK_of ⟨⟨Tryz.func24, Tryz.call24⟩, trivial⟩, mixed⟩ (SpecsOK_of (E := depotref06_Same.env) trivial) Tryz.call24 rfl rfl fun K x r h => by
    rw [depotref06_Same.body_eq, show depotref06_Same.r0 K = depotref06_Same.l0 K from funext (depotref06_Same.e0 K)]; exact h

def depotref15_Same.spec : Dp.Spec := { args := (.scons (.list (.scons .str (.scons .bool (.scons .str .snil)))) (.scons (.list (.scons .str (.scons .bool (.scons .str .snil)))) .snil)), res := .bool, own := false, F := fun K x => depotref15_Same K x.1 x.2.1 }
def depotref15_Same.hint : Dp.Hint := { n := 26, loops := [(4, { regs := [(0, (.list (.scons .str (.scons .bool (.scons .str .snil))))), (1, (.list (.scons .str (.scons .bool (.scons .str .snil))))), (5, (.int .i64))] }, [(.exit 0, { regs := [] }), (.ret, { regs := [(4, .bool)] })])] }
noncomputable def depotref15_Same.env : Dp.Env := { ti := ti, gl := gl, fns := [(27, Tryz.f27, depotref15_Same.hint)], specs := [], K := 0 }
noncomputable def depotref15_Same.r0 (K : Nat) : Nat → (((List ((List UInt8) × ((Bool) × ((List UInt8) × (Unit))))) × ((List ((List UInt8) × ((Bool) × ((List UInt8) × (Unit))))) × ((Int) × (Unit)))) × (Unit)) → Option (((Unit) × (Unit)) ⊕ (((Bool) × (Unit)) × (Unit))) :=
  loopV [(.exit 0, { regs := [] }), (.ret, { regs := [(4, .bool)] })] { regs := [(0, (.list (.scons .str (.scons .bool (.scons .str .snil))))), (1, (.list (.scons .str (.scons .bool (.scons .str .snil))))), (5, (.int .i64))] } (interp (depotref15_Same.env.at K) depotref15_Same.hint (callF (depotref15_Same.env.at K) 7) (Code.sub [1, 1, 0, 1, 0, 0] (Tryz.f27.body.getD .skip)) _)
theorem depotref15_Same.s0 (K n : Nat) (x : (((List ((List UInt8) × ((Bool) × ((List UInt8) × (Unit))))) × ((List ((List UInt8) × ((Bool) × ((List UInt8) × (Unit))))) × ((Int) × (Unit)))) × (Unit))) : depotref15_Same.r0 K (n + 1) x = depotref15_Same.t0 K (depotref15_Same.r0 K n) x := by kernel_rfl
theorem depotref15_Same.e0 (K n : Nat) : depotref15_Same.r0 K n = depotref15_Same.l0 K n := by
  induction n with
  | zero => funext x; rfl
  | succ n ih => funext x; rw [depotref15_Same.s0, ih]; rfl
theorem depotref15_Same.body_eq (K : Nat) (x : depotref15_Same.spec.args.den) : body (depotref15_Same.env.at K) 8 27 depotref15_Same.spec x = depotref15_Same.tr (depotref15_Same.r0 K) K x.1 x.2.1 := by kernel_rfl
theorem depotref15_Same.contract : Contract Tryz.prog gl 27 depotref15_Same.spec :=
  contract_of (E := depotref15_Same.env) ⟨TIok_of tiOK, FnsOK_of ⟨⟨Tryz.func27, Tryz.call27⟩, trivial⟩, mixed⟩ (SpecsOK_of (E := depotref15_Same.env) trivial) Tryz.call27 rfl rfl fun K x r h => by
    rw [depotref15_Same.body_eq, show depotref15_Same.r0 K = depotref15_Same.l0 K from funext (depotref15_Same.e0 K)]; exact h

def vary_Match.spec : Dp.Spec := { args := (.scons (.list (.scons .str (.scons .bool (.scons .str .snil)))) (.scons (.list (.scons .str (.scons .str .snil))) .snil)), res := .bool, own := false, F := fun K x => vary_Match K x.1 x.2.1 }
def vary_Match.hint : Dp.Hint := { n := 20, loops := [(2, { regs := [(1, (.list (.scons .str (.scons .str .snil)))), (7, (.list (.scons .str (.scons .bool (.scons .str .snil))))), (8, (.int .i64)), (9, (.int .i64))] }, [(.exit 0, { regs := [] }), (.ret, { regs := [(4, .bool)] })])] }
noncomputable def vary_Match.env : Dp.Env := { ti := ti, gl := gl, fns := [(30, Tryz.f30, vary_Match.hint)], specs := [(77, vary_pick.spec)], K := 0 }
noncomputable def vary_Match.r0 (K : Nat) : Nat → (((List ((List UInt8) × ((List UInt8) × (Unit)))) × ((List ((List UInt8) × ((Bool) × ((List UInt8) × (Unit))))) × ((Int) × ((Int) × (Unit))))) × (Unit)) → Option (((Unit) × (Unit)) ⊕ (((Bool) × (Unit)) × (Unit))) :=
  loopV [(.exit 0, { regs := [] }), (.ret, { regs := [(4, .bool)] })] { regs := [(1, (.list (.scons .str (.scons .str .snil)))), (7, (.list (.scons .str (.scons .bool (.scons .str .snil))))), (8, (.int .i64)), (9, (.int .i64))] } (interp (vary_Match.env.at K) vary_Match.hint (callF (vary_Match.env.at K) 7) (Code.sub [1, 0, 1, 0, 0] (Tryz.f30.body.getD .skip)) _)
theorem vary_Match.s0 (K n : Nat) (x : (((List ((List UInt8) × ((List UInt8) × (Unit)))) × ((List ((List UInt8) × ((Bool) × ((List UInt8) × (Unit))))) × ((Int) × ((Int) × (Unit))))) × (Unit))) : vary_Match.r0 K (n + 1) x = vary_Match.t0 K (vary_Match.r0 K n) x := by kernel_rfl
theorem vary_Match.e0 (K n : Nat) : vary_Match.r0 K n = vary_Match.l0 K n := by
  induction n with
  | zero => funext x; rfl
  | succ n ih => funext x; rw [vary_Match.s0, ih]; rfl
theorem vary_Match.body_eq (K : Nat) (x : vary_Match.spec.args.den) : body (vary_Match.env.at K) 8 30 vary_Match.spec x = vary_Match.tr (vary_Match.r0 K) K x.1 x.2.1 := by kernel_rfl
theorem vary_Match.contract : Contract Tryz.prog gl 30 vary_Match.spec :=
  contract_of (E := vary_Match.env) ⟨TIok_of tiOK, FnsOK_of ⟨⟨Tryz.func30, Tryz.call30⟩, trivial⟩, mixed⟩ (SpecsOK_of (E := vary_Match.env) ⟨vary_pick.contract, trivial⟩) Tryz.call30 rfl rfl fun K x r h => by
    rw [vary_Match.body_eq, show vary_Match.r0 K = vary_Match.l0 K from funext (vary_Match.e0 K)]; exact h

def slices_Equal.spec : Dp.Spec := { args := (.scons (.list (.scons .str (.scons .bool (.scons .str .snil)))) (.scons (.list (.scons .str (.scons .bool (.scons .str .snil)))) .snil)), res := .bool, own := false, F := fun K x => slices_Equal K x.1 x.2.1 }
def slices_Equal.hint : Dp.Hint := { n := 26, loops := [(4, { regs := [(0, (.list (.scons .str (.scons .bool (.scons .str .snil))))), (1, (.list (.scons .str (.scons .bool (.scons .str .snil))))), (12, (.int .i64)), (13, (.int .i64))] }, [(.exit 0, { regs := [] }), (.ret, { regs := [(4, .bool)] })])] }
noncomputable def slices_Equal.env : Dp.Env := { ti := ti, gl := gl, fns := [(79, Tryz.f79, slices_Equal.hint)], specs := [], K := 0 }
noncomputable def slices_Equal.r0 (K : Nat) : Nat → (((List ((List UInt8) × ((Bool) × ((List UInt8) × (Unit))))) × ((List ((List UInt8) × ((Bool) × ((List UInt8) × (Unit))))) × ((Int) × ((Int) × (Unit))))) × (Unit)) → Option (((Unit) × (Unit)) ⊕ (((Bool) × (Unit)) × (Unit))) :=
  loopV [(.exit 0, { regs := [] }), (.ret, { regs := [(4, .bool)] })] { regs := [(0, (.list (.scons .str (.scons .bool (.scons .str .snil))))), (1, (.list (.scons .str (.scons .bool (.scons .str .snil))))), (12, (.int .i64)), (13, (.int .i64))] } (interp (slices_Equal.env.at K) slices_Equal.hint (callF (slices_Equal.env.at K) 7) (Code.sub [1, 1, 0, 1, 0, 0] (Tryz.f79.body.getD .skip)) _)
theorem slices_Equal.s0 (K n : Nat) (x : (((List ((List UInt8) × ((Bool) × ((List UInt8) × (Unit))))) × ((List ((List UInt8) × ((Bool) × ((List UInt8) × (Unit))))) × ((Int) × ((Int) × (Unit))))) × (Unit))) : slices_Equal.r0 K (n + 1) x = slices_Equal.t0 K (slices_Equal.r0 K n) x := by kernel_rfl
theorem slices_Equal.e0 (K n : Nat) : slices_Equal.r0 K n = slices_Equal.l0 K n := by
  induction n with
  | zero => funext x; rfl
  | succ n ih => funext x; rw [slices_Equal.s0, ih]; rfl
theorem slices_Equal.body_eq (K : Nat) (x : slices_Equal.spec.args.den) : body (slices_Equal.env.at K) 8 79 slices_Equal.spec x = slices_Equal.tr (slices_Equal.r0 K) K x.1 x.2.1 := by kernel_rfl
theorem slices_Equal.contract : Contract Tryz.prog gl 79 slices_Equal.spec :=
  contract_of (E := slices_Equal.env) ⟨TIok_of tiOK, FnsOK_of ⟨⟨Tryz.func79, Tryz.call79⟩, trivial⟩, mixed⟩ (SpecsOK_of (E := slices_Equal.env) trivial) Tryz.call79 rfl rfl fun K x r h => by
    rw [slices_Equal.body_eq, show slices_Equal.r0 K = slices_Equal.l0 K from funext (slices_Equal.e0 K)]; exact h

def vary_Same.spec : Dp.Spec := { args := (.scons (.list (.scons .str (.scons .bool (.scons .str .snil)))) (.scons (.list (.scons .str (.scons .bool (.scons .str .snil)))) .snil)), res := .bool, own := false, F := fun K x => vary_Same K x.1 x.2.1 }
def vary_Same.hint : Dp.Hint := { n := 8 }
noncomputable def vary_Same.env : Dp.Env := { ti := ti, gl := gl, fns := [(32, Tryz.f32, vary_Same.hint)], specs := [(79, slices_Equal.spec)], K := 0 }
theorem vary_Same.body_eq (K : Nat) (x : vary_Same.spec.args.den) : body (vary_Same.env.at K) 8 32 vary_Same.spec x = vary_Same K x.1 x.2.1 := by kernel_rfl
theorem vary_Same.contract : Contract Tryz.prog gl 32 vary_Same.spec :=
  contract_of (E := vary_Same.env) ⟨TIok_of tiOK, FnsOK_of ⟨⟨Tryz.func32, Tryz.call32⟩, trivial⟩, mixed⟩ (SpecsOK_of (E := vary_Same.env) ⟨slices_Equal.contract, trivial⟩) Tryz.call32 rfl rfl fun K x r h => by
    rw [vary_Same.body_eq]; exact h

def depotlaw15_varies.spec : Dp.Spec := { args := .snil, res := .bool, own := false, F := fun K x => depotlaw15_varies K }
def depotlaw15_varies.hint : Dp.Hint := { n := 57 }
noncomputable def depotlaw15_varies.env : Dp.Env := { ti := ti, gl := gl, fns := [(21, Tryz.f21, depotlaw15_varies.hint)], specs := [(22, vary_Names.spec), (28, vary_Picks.spec), (24, depotref06_Same.spec), (27, depotref15_Same.spec), (30, vary_Match.spec), (32, vary_Same.spec)], K := 0 }
theorem depotlaw15_varies.body_eq (K : Nat) (x : depotlaw15_varies.spec.args.den) : body (depotlaw15_varies.env.at K) 8 21 depotlaw15_varies.spec x = depotlaw15_varies K := by kernel_rfl
theorem depotlaw15_varies.contract : Contract Tryz.prog gl 21 depotlaw15_varies.spec :=
  contract_of (E := depotlaw15_varies.env) ⟨TIok_of tiOK, FnsOK_of ⟨⟨Tryz.func21, Tryz.call21⟩, trivial⟩, mixed⟩ (SpecsOK_of (E := depotlaw15_varies.env) ⟨vary_Names.contract, vary_Picks.contract, depotref06_Same.contract, depotref15_Same.contract, vary_Match.contract, vary_Same.contract, trivial⟩) Tryz.call21 rfl rfl fun K x r h => by
    rw [depotlaw15_varies.body_eq]; exact h

def depotref01_Lower.spec : Dp.Spec := { args := (.scons .str .snil), res := .str, own := false, F := fun K x => depotref01_Lower K x.1 }
def depotref01_Lower.hint : Dp.Hint := { n := 35, conds := [(24, [(.normal, { regs := [(3, (.slw 0)), (4, (.int .i64))], heap := [(.row (.int .u8))] })])], regions := [(5, [(.normal, { regs := [(3, (.slw 0)), (4, (.int .i64)), (24, .bool)], heap := [(.row (.int .u8))] })])], loops := [(3, { regs := [(3, (.slw 0)), (4, (.int .i64))], heap := [(.row (.int .u8))] }, [(.exit 0, { regs := [(3, (.slw 0))], heap := [(.row (.int .u8))] })])], own := [6] }
noncomputable def depotref01_Lower.env : Dp.Env := { ti := ti, gl := gl, fns := [(76, Tryz.f76, depotref01_Lower.hint)], specs := [], K := 0 }
noncomputable def depotref01_Lower.r0 (K : Nat) : Nat → (((Unit) × ((Int) × (Unit))) × ((List (Int)) × (Unit))) → Option ((((Unit) × (Unit)) × ((List (Int)) × (Unit)))) :=
  loopV [(.exit 0, { regs := [(3, (.slw 0))], heap := [(.row (.int .u8))] })] { regs := [(3, (.slw 0)), (4, (.int .i64))], heap := [(.row (.int .u8))] } (interp (depotref01_Lower.env.at K) depotref01_Lower.hint (callF (depotref01_Lower.env.at K) 7) (Code.sub [1, 1, 0, 1, 0, 0] (Tryz.f76.body.getD .skip)) _)
theorem depotref01_Lower.s0 (K n : Nat) (x : (((Unit) × ((Int) × (Unit))) × ((List (Int)) × (Unit)))) : depotref01_Lower.r0 K (n + 1) x = depotref01_Lower.t0 K (depotref01_Lower.r0 K n) x := by kernel_rfl
theorem depotref01_Lower.e0 (K n : Nat) : depotref01_Lower.r0 K n = depotref01_Lower.l0 K n := by
  induction n with
  | zero => funext x; rfl
  | succ n ih => funext x; rw [depotref01_Lower.s0, ih]; rfl
theorem depotref01_Lower.body_eq (K : Nat) (x : depotref01_Lower.spec.args.den) : body (depotref01_Lower.env.at K) 8 76 depotref01_Lower.spec x = depotref01_Lower.tr (depotref01_Lower.r0 K) K x.1 := by kernel_rfl
theorem depotref01_Lower.contract : Contract Tryz.prog gl 76 depotref01_Lower.spec :=
  contract_of (E := depotref01_Lower.env) ⟨TIok_of tiOK, FnsOK_of ⟨⟨Tryz.func76, Tryz.call76⟩, trivial⟩, mixed⟩ (SpecsOK_of (E := depotref01_Lower.env) trivial) Tryz.call76 rfl rfl fun K x r h => by
    rw [depotref01_Lower.body_eq, show depotref01_Lower.r0 K = depotref01_Lower.l0 K from funext (depotref01_Lower.e0 K)]; exact h

def depotref01_Same.spec : Dp.Spec := { args := (.scons .str (.scons .str .snil)), res := .bool, own := false, F := fun K x => depotref01_Same K x.1 x.2.1 }
def depotref01_Same.hint : Dp.Hint := { n := 10 }
noncomputable def depotref01_Same.env : Dp.Env := { ti := ti, gl := gl, fns := [(99, Tryz.f99, depotref01_Same.hint)], specs := [(76, depotref01_Lower.spec)], K := 0 }
theorem depotref01_Same.body_eq (K : Nat) (x : depotref01_Same.spec.args.den) : body (depotref01_Same.env.at K) 8 99 depotref01_Same.spec x = depotref01_Same K x.1 x.2.1 := by kernel_rfl
theorem depotref01_Same.contract : Contract Tryz.prog gl 99 depotref01_Same.spec :=
  contract_of (E := depotref01_Same.env) ⟨TIok_of tiOK, FnsOK_of ⟨⟨Tryz.func99, Tryz.call99⟩, trivial⟩, mixed⟩ (SpecsOK_of (E := depotref01_Same.env) ⟨depotref01_Lower.contract, trivial⟩) Tryz.call99 rfl rfl fun K x r h => by
    rw [depotref01_Same.body_eq]; exact h

def depotref09_All.spec : Dp.Spec := { args := (.scons (.list (.scons .str (.scons .str .snil))) (.scons .str .snil)), res := (.list .str), own := false, F := fun K x => depotref09_All K x.1 x.2.1 }
def depotref09_All.hint : Dp.Hint := { n := 29, conds := [(19, [(.normal, { regs := [(0, (.list (.scons .str (.scons .str .snil)))), (1, .str), (5, (.slw 1)), (6, (.int .i64))], heap := [(.row .str), (.row .str)], app := [1] })])], loops := [(3, { regs := [(0, (.list (.scons .str (.scons .str .snil)))), (1, .str), (5, (.slw 1)), (6, (.int .i64))], heap := [(.row .str), (.row .str)], app := [1] }, [(.exit 0, { regs := [(5, (.slw 1))], heap := [(.row .str), (.row .str)], app := [1] })])], own := [4, 5] }
noncomputable def depotref09_All.env : Dp.Env := { ti := ti, gl := gl, fns := [(61, Tryz.f61, depotref09_All.hint)], specs := [(99, depotref01_Same.spec)], K := 0 }
noncomputable def depotref09_All.r0 (K : Nat) : Nat → (((List ((List UInt8) × ((List UInt8) × (Unit)))) × ((List UInt8) × ((Unit) × ((Int) × (Unit))))) × ((List (List UInt8)) × ((List (List UInt8)) × (Unit)))) → Option ((((Unit) × (Unit)) × ((List (List UInt8)) × ((List (List UInt8)) × (Unit))))) :=
  loopV [(.exit 0, { regs := [(5, (.slw 1))], heap := [(.row .str), (.row .str)], app := [1] })] { regs := [(0, (.list (.scons .str (.scons .str .snil)))), (1, .str), (5, (.slw 1)), (6, (.int .i64))], heap := [(.row .str), (.row .str)], app := [1] } (interp (depotref09_All.env.at K) depotref09_All.hint (callF (depotref09_All.env.at K) 7) (Code.sub [1, 1, 0, 1, 0, 0] (Tryz.f61.body.getD .skip)) _)
theorem depotref09_All.s0 (K n : Nat) (x : (((List ((List UInt8) × ((List UInt8) × (Unit)))) × ((List UInt8) × ((Unit) × ((Int) × (Unit))))) × ((List (List UInt8)) × ((List (List UInt8)) × (Unit))))) : depotref09_All.r0 K (n + 1) x = depotref09_All.t0 K (depotref09_All.r0 K n) x := by kernel_rfl
theorem depotref09_All.e0 (K n : Nat) : depotref09_All.r0 K n = depotref09_All.l0 K n := by
  induction n with
  | zero => funext x; rfl
  | succ n ih => funext x; rw [depotref09_All.s0, ih]; rfl
theorem depotref09_All.body_eq (K : Nat) (x : depotref09_All.spec.args.den) : body (depotref09_All.env.at K) 8 61 depotref09_All.spec x = depotref09_All.tr (depotref09_All.r0 K) K x.1 x.2.1 := by kernel_rfl
theorem depotref09_All.contract : Contract Tryz.prog gl 61 depotref09_All.spec :=
  contract_of (E := depotref09_All.env) ⟨TIok_of tiOK, FnsOK_of ⟨⟨Tryz.func61, Tryz.call61⟩, trivial⟩, mixed⟩ (SpecsOK_of (E := depotref09_All.env) ⟨depotref01_Same.contract, trivial⟩) Tryz.call61 rfl rfl fun K x r h => by
    rw [depotref09_All.body_eq, show depotref09_All.r0 K = depotref09_All.l0 K from funext (depotref09_All.e0 K)]; exact h

def depotref01_blank.spec : Dp.Spec := { args := (.scons (.int .u8) .snil), res := .bool, own := false, F := fun K x => depotref01_blank K x.1 }
def depotref01_blank.hint : Dp.Hint := { n := 9 }
noncomputable def depotref01_blank.env : Dp.Env := { ti := ti, gl := gl, fns := [(168, Tryz.f168, depotref01_blank.hint)], specs := [], K := 0 }
theorem depotref01_blank.body_eq (K : Nat) (x : depotref01_blank.spec.args.den) : body (depotref01_blank.env.at K) 8 168 depotref01_blank.spec x = depotref01_blank K x.1 := by kernel_rfl
theorem depotref01_blank.contract : Contract Tryz.prog gl 168 depotref01_blank.spec :=
  contract_of (E := depotref01_blank.env) ⟨TIok_of tiOK, FnsOK_of ⟨⟨Tryz.func168, Tryz.call168⟩, trivial⟩, mixed⟩ (SpecsOK_of (E := depotref01_blank.env) trivial) Tryz.call168 rfl rfl fun K x r h => by
    rw [depotref01_blank.body_eq]; exact h

def depotref01_Trim.spec : Dp.Spec := { args := (.scons .str .snil), res := .str, own := false, F := fun K x => depotref01_Trim K x.1 }
def depotref01_Trim.hint : Dp.Hint := { n := 30, regions := [(1, [(.normal, { regs := [(0, .str), (10, .bool)] })]), (3, [(.normal, { regs := [(0, .str), (23, .bool)] })])], loops := [(1, { regs := [(0, .str)] }, [(.exit 0, { regs := [(0, .str)] })]), (3, { regs := [(0, .str)] }, [(.exit 2, { regs := [(0, .str)] })])] }
noncomputable def depotref01_Trim.env : Dp.Env := { ti := ti, gl := gl, fns := [(110, Tryz.f110, depotref01_Trim.hint)], specs := [(168, depotref01_blank.spec)], K := 0 }
noncomputable def depotref01_Trim.r1 (K : Nat) : Nat → (((List UInt8) × (Unit)) × (Unit)) → Option ((((List UInt8) × (Unit)) × (Unit))) :=
  loopV [(.exit 2, { regs := [(0, .str)] })] { regs := [(0, .str)] } (interp (depotref01_Trim.env.at K) depotref01_Trim.hint (callF (depotref01_Trim.env.at K) 7) (Code.sub [1, 1, 0, 0, 0] (Tryz.f110.body.getD .skip)) _)
theorem depotref01_Trim.s1 (K n : Nat) (x : (((List UInt8) × (Unit)) × (Unit))) : depotref01_Trim.r1 K (n + 1) x = depotref01_Trim.t1 K (depotref01_Trim.r1 K n) x := by kernel_rfl
theorem depotref01_Trim.e1 (K n : Nat) : depotref01_Trim.r1 K n = depotref01_Trim.l1 K n := by
  induction n with
  | zero => funext x; rfl
  | succ n ih => funext x; rw [depotref01_Trim.s1, ih]; rfl
noncomputable def depotref01_Trim.r0 (K : Nat) : Nat → (((List UInt8) × (Unit)) × (Unit)) → Option ((((List UInt8) × (Unit)) × (Unit))) :=
  loopV [(.exit 0, { regs := [(0, .str)] })] { regs := [(0, .str)] } (interp (depotref01_Trim.env.at K) depotref01_Trim.hint (callF (depotref01_Trim.env.at K) 7) (Code.sub [1, 0, 0, 0] (Tryz.f110.body.getD .skip)) _)
theorem depotref01_Trim.s0 (K n : Nat) (x : (((List UInt8) × (Unit)) × (Unit))) : depotref01_Trim.r0 K (n + 1) x = depotref01_Trim.t0 K (depotref01_Trim.r0 K n) x := by kernel_rfl
theorem depotref01_Trim.e0 (K n : Nat) : depotref01_Trim.r0 K n = depotref01_Trim.l0 K n := by
  induction n with
  | zero => funext x; rfl
  | succ n ih => funext x; rw [depotref01_Trim.s0, ih]; rfl
theorem depotref01_Trim.body_eq (K : Nat) (x : depotref01_Trim.spec.args.den) : body (depotref01_Trim.env.at K) 8 110 depotref01_Trim.spec x = depotref01_Trim.tr (depotref01_Trim.r0 K) (depotref01_Trim.r1 K) K x.1 := by kernel_rfl
theorem depotref01_Trim.contract : Contract Tryz.prog gl 110 depotref01_Trim.spec :=
  contract_of (E := depotref01_Trim.env) ⟨TIok_of tiOK, FnsOK_of ⟨⟨Tryz.func110, Tryz.call110⟩, trivial⟩, mixed⟩ (SpecsOK_of (E := depotref01_Trim.env) ⟨depotref01_blank.contract, trivial⟩) Tryz.call110 rfl rfl fun K x r h => by
    rw [depotref01_Trim.body_eq, show depotref01_Trim.r0 K = depotref01_Trim.l0 K from funext (depotref01_Trim.e0 K), show depotref01_Trim.r1 K = depotref01_Trim.l1 K from funext (depotref01_Trim.e1 K)]; exact h

def depotref06_Split.spec : Dp.Spec := { args := (.scons .str .snil), res := (.tup (.scons (.list .str) (.scons (.int .i64) .snil))), own := false, F := fun K x => depotref06_Split K x.1 }
def depotref06_Split.hint : Dp.Hint := { n := 76, conds := [(40, [(.normal, { regs := [(0, .str), (4, (.slw 1)), (5, .str), (6, .bool), (7, (.int .i64))], heap := [(.row .str), (.row .str)], app := [1] })]), (53, [(.normal, { regs := [(0, .str), (4, (.slw 1)), (6, .bool), (7, (.int .i64))], heap := [(.row .str), (.row .str)], app := [1] })])], blocks := [(1, [(.normal, { regs := [(0, .str), (4, (.slw 1)), (5, .str), (6, .bool), (7, (.int .i64))], heap := [(.row .str), (.row .str)], app := [1] })])], regions := [(7, [(.normal, { regs := [(0, .str), (4, (.slw 1)), (5, .str), (6, .bool), (7, (.int .i64)), (27, .bool)], heap := [(.row .str), (.row .str)], app := [1] })]), (12, [(.normal, { regs := [(0, .str), (4, (.slw 1)), (5, .str), (6, .bool), (7, (.int .i64)), (50, .bool)], heap := [(.row .str), (.row .str)], app := [1] })])], loops := [(5, { regs := [(0, .str), (4, (.slw 1)), (5, .str), (6, .bool), (7, (.int .i64))], heap := [(.row .str), (.row .str)], app := [1] }, [(.exit 0, { regs := [(4, (.slw 1)), (5, .str), (6, .bool)], heap := [(.row .str), (.row .str)], app := [1] })])], own := [2, 2, 4] }
noncomputable def depotref06_Split.env : Dp.Env := { ti := ti, gl := gl, fns := [(73, Tryz.f73, depotref06_Split.hint)], specs := [(110, depotref01_Trim.spec)], K := 0 }
noncomputable def depotref06_Split.r0 (K : Nat) : Nat → (((List UInt8) × ((Unit) × ((List UInt8) × ((Bool) × ((Int) × (Unit)))))) × ((List (List UInt8)) × ((List (List UInt8)) × (Unit)))) → Option ((((Unit) × ((List UInt8) × ((Bool) × (Unit)))) × ((List (List UInt8)) × ((List (List UInt8)) × (Unit))))) :=
  loopV [(.exit 0, { regs := [(4, (.slw 1)), (5, .str), (6, .bool)], heap := [(.row .str), (.row .str)], app := [1] })] { regs := [(0, .str), (4, (.slw 1)), (5, .str), (6, .bool), (7, (.int .i64))], heap := [(.row .str), (.row .str)], app := [1] } (interp (depotref06_Split.env.at K) depotref06_Split.hint (callF (depotref06_Split.env.at K) 7) (Code.sub [1, 1, 1, 1, 0, 1, 0, 0] (Tryz.f73.body.getD .skip)) _)
theorem depotref06_Split.s0 (K n : Nat) (x : (((List UInt8) × ((Unit) × ((List UInt8) × ((Bool) × ((Int) × (Unit)))))) × ((List (List UInt8)) × ((List (List UInt8)) × (Unit))))) : depotref06_Split.r0 K (n + 1) x = depotref06_Split.t0 K (depotref06_Split.r0 K n) x := by kernel_rfl
theorem depotref06_Split.e0 (K n : Nat) : depotref06_Split.r0 K n = depotref06_Split.l0 K n := by
  induction n with
  | zero => funext x; rfl
  | succ n ih => funext x; rw [depotref06_Split.s0, ih]; rfl
theorem depotref06_Split.body_eq (K : Nat) (x : depotref06_Split.spec.args.den) : body (depotref06_Split.env.at K) 8 73 depotref06_Split.spec x = depotref06_Split.tr (depotref06_Split.r0 K) K x.1 := by kernel_rfl
theorem depotref06_Split.contract : Contract Tryz.prog gl 73 depotref06_Split.spec :=
  contract_of (E := depotref06_Split.env) ⟨TIok_of tiOK, FnsOK_of ⟨⟨Tryz.func73, Tryz.call73⟩, trivial⟩, mixed⟩ (SpecsOK_of (E := depotref06_Split.env) ⟨depotref01_Trim.contract, trivial⟩) Tryz.call73 rfl rfl fun K x r h => by
    rw [depotref06_Split.body_eq, show depotref06_Split.r0 K = depotref06_Split.l0 K from funext (depotref06_Split.e0 K)]; exact h

def depotref01_Token.spec : Dp.Spec := { args := (.scons (.int .u8) .snil), res := .bool, own := false, F := fun K x => depotref01_Token K x.1 }
def depotref01_Token.hint : Dp.Hint := { n := 38, regions := [(1, [(.normal, { regs := [(0, (.int .u8)), (26, .bool)] })])], loops := [(5, { regs := [(0, (.int .u8)), (3, .str), (4, (.int .i64))] }, [(.exit 0, { regs := [] }), (.ret, { regs := [(2, .bool)] })])] }
noncomputable def depotref01_Token.env : Dp.Env := { ti := ti, gl := gl, fns := [(111, Tryz.f111, depotref01_Token.hint)], specs := [], K := 0 }
noncomputable def depotref01_Token.r0 (K : Nat) : Nat → (((Int) × ((List UInt8) × ((Int) × (Unit)))) × (Unit)) → Option (((Unit) × (Unit)) ⊕ (((Bool) × (Unit)) × (Unit))) :=
  loopV [(.exit 0, { regs := [] }), (.ret, { regs := [(2, .bool)] })] { regs := [(0, (.int .u8)), (3, .str), (4, (.int .i64))] } (interp (depotref01_Token.env.at K) depotref01_Token.hint (callF (depotref01_Token.env.at K) 7) (Code.sub [1, 1, 1, 0, 1, 0, 0] (Tryz.f111.body.getD .skip)) _)
theorem depotref01_Token.s0 (K n : Nat) (x : (((Int) × ((List UInt8) × ((Int) × (Unit)))) × (Unit))) : depotref01_Token.r0 K (n + 1) x = depotref01_Token.t0 K (depotref01_Token.r0 K n) x := by kernel_rfl
theorem depotref01_Token.e0 (K n : Nat) : depotref01_Token.r0 K n = depotref01_Token.l0 K n := by
  induction n with
  | zero => funext x; rfl
  | succ n ih => funext x; rw [depotref01_Token.s0, ih]; rfl
theorem depotref01_Token.body_eq (K : Nat) (x : depotref01_Token.spec.args.den) : body (depotref01_Token.env.at K) 8 111 depotref01_Token.spec x = depotref01_Token.tr (depotref01_Token.r0 K) K x.1 := by kernel_rfl
theorem depotref01_Token.contract : Contract Tryz.prog gl 111 depotref01_Token.spec :=
  contract_of (E := depotref01_Token.env) ⟨TIok_of tiOK, FnsOK_of ⟨⟨Tryz.func111, Tryz.call111⟩, trivial⟩, mixed⟩ (SpecsOK_of (E := depotref01_Token.env) trivial) Tryz.call111 rfl rfl fun K x r h => by
    rw [depotref01_Token.body_eq, show depotref01_Token.r0 K = depotref01_Token.l0 K from funext (depotref01_Token.e0 K)]; exact h

def depotref01_IsToken.spec : Dp.Spec := { args := (.scons .str .snil), res := .bool, own := false, F := fun K x => depotref01_IsToken K x.1 }
def depotref01_IsToken.hint : Dp.Hint := { n := 18, loops := [(2, { regs := [(0, .str), (3, (.int .i64))] }, [(.exit 0, { regs := [(0, .str)] }), (.ret, { regs := [(2, .bool)] })])] }
noncomputable def depotref01_IsToken.env : Dp.Env := { ti := ti, gl := gl, fns := [(74, Tryz.f74, depotref01_IsToken.hint)], specs := [(111, depotref01_Token.spec)], K := 0 }
noncomputable def depotref01_IsToken.r0 (K : Nat) : Nat → (((List UInt8) × ((Int) × (Unit))) × (Unit)) → Option ((((List UInt8) × (Unit)) × (Unit)) ⊕ (((Bool) × (Unit)) × (Unit))) :=
  loopV [(.exit 0, { regs := [(0, .str)] }), (.ret, { regs := [(2, .bool)] })] { regs := [(0, .str), (3, (.int .i64))] } (interp (depotref01_IsToken.env.at K) depotref01_IsToken.hint (callF (depotref01_IsToken.env.at K) 7) (Code.sub [1, 0, 1, 0, 0] (Tryz.f74.body.getD .skip)) _)
theorem depotref01_IsToken.s0 (K n : Nat) (x : (((List UInt8) × ((Int) × (Unit))) × (Unit))) : depotref01_IsToken.r0 K (n + 1) x = depotref01_IsToken.t0 K (depotref01_IsToken.r0 K n) x := by kernel_rfl
theorem depotref01_IsToken.e0 (K n : Nat) : depotref01_IsToken.r0 K n = depotref01_IsToken.l0 K n := by
  induction n with
  | zero => funext x; rfl
  | succ n ih => funext x; rw [depotref01_IsToken.s0, ih]; rfl
theorem depotref01_IsToken.body_eq (K : Nat) (x : depotref01_IsToken.spec.args.den) : body (depotref01_IsToken.env.at K) 8 74 depotref01_IsToken.spec x = depotref01_IsToken.tr (depotref01_IsToken.r0 K) K x.1 := by kernel_rfl
theorem depotref01_IsToken.contract : Contract Tryz.prog gl 74 depotref01_IsToken.spec :=
  contract_of (E := depotref01_IsToken.env) ⟨TIok_of tiOK, FnsOK_of ⟨⟨Tryz.func74, Tryz.call74⟩, trivial⟩, mixed⟩ (SpecsOK_of (E := depotref01_IsToken.env) ⟨depotref01_Token.contract, trivial⟩) Tryz.call74 rfl rfl fun K x r h => by
    rw [depotref01_IsToken.body_eq, show depotref01_IsToken.r0 K = depotref01_IsToken.l0 K from funext (depotref01_IsToken.e0 K)]; exact h

def depotref15_before.spec : Dp.Spec := { args := (.scons .str (.scons .str .snil)), res := .bool, own := false, F := fun K x => depotref15_before K x.1 x.2.1 }
def depotref15_before.hint : Dp.Hint := { n := 37, regions := [(2, [(.normal, { regs := [(0, .str), (1, .str), (5, (.int .i64)), (15, .bool)] })])], loops := [(2, { regs := [(0, .str), (1, .str), (5, (.int .i64))] }, [(.exit 0, { regs := [(0, .str), (1, .str)] }), (.ret, { regs := [(4, .bool)] })])] }
noncomputable def depotref15_before.env : Dp.Env := { ti := ti, gl := gl, fns := [(112, Tryz.f112, depotref15_before.hint)], specs := [], K := 0 }
noncomputable def depotref15_before.r0 (K : Nat) : Nat → (((List UInt8) × ((List UInt8) × ((Int) × (Unit)))) × (Unit)) → Option ((((List UInt8) × ((List UInt8) × (Unit))) × (Unit)) ⊕ (((Bool) × (Unit)) × (Unit))) :=
  loopV [(.exit 0, { regs := [(0, .str), (1, .str)] }), (.ret, { regs := [(4, .bool)] })] { regs := [(0, .str), (1, .str), (5, (.int .i64))] } (interp (depotref15_before.env.at K) depotref15_before.hint (callF (depotref15_before.env.at K) 7) (Code.sub [1, 0, 1, 0, 0] (Tryz.f112.body.getD .skip)) _)
theorem depotref15_before.s0 (K n : Nat) (x : (((List UInt8) × ((List UInt8) × ((Int) × (Unit)))) × (Unit))) : depotref15_before.r0 K (n + 1) x = depotref15_before.t0 K (depotref15_before.r0 K n) x := by kernel_rfl
theorem depotref15_before.e0 (K n : Nat) : depotref15_before.r0 K n = depotref15_before.l0 K n := by
  induction n with
  | zero => funext x; rfl
  | succ n ih => funext x; rw [depotref15_before.s0, ih]; rfl
theorem depotref15_before.body_eq (K : Nat) (x : depotref15_before.spec.args.den) : body (depotref15_before.env.at K) 8 112 depotref15_before.spec x = depotref15_before.tr (depotref15_before.r0 K) K x.1 x.2.1 := by kernel_rfl
theorem depotref15_before.contract : Contract Tryz.prog gl 112 depotref15_before.spec :=
  contract_of (E := depotref15_before.env) ⟨TIok_of tiOK, FnsOK_of ⟨⟨Tryz.func112, Tryz.call112⟩, trivial⟩, mixed⟩ (SpecsOK_of (E := depotref15_before.env) trivial) Tryz.call112 rfl rfl fun K x r h => by
    rw [depotref15_before.body_eq, show depotref15_before.r0 K = depotref15_before.l0 K from funext (depotref15_before.e0 K)]; exact h

def depotref15_put.spec : Dp.Spec := { args := (.scons (.list .str) (.scons .str .snil)), res := (.list .str), own := false, F := fun K x => depotref15_put K x.1 x.2.1 }
def depotref15_put.hint : Dp.Hint := { n := 49, conds := [(24, [(.normal, { regs := [(0, (.list .str)), (1, .str), (5, (.slw 1)), (6, .bool), (7, (.int .i64))], heap := [(.row .str), (.row .str)], app := [1] })]), (30, [(.normal, { regs := [(0, (.list .str)), (1, .str), (5, (.slw 1)), (6, .bool), (7, (.int .i64))], heap := [(.row .str), (.row .str)], app := [1] })])], regions := [(6, [(.normal, { regs := [(0, (.list .str)), (1, .str), (5, (.slw 1)), (6, .bool), (7, (.int .i64)), (24, .bool)], heap := [(.row .str), (.row .str)], app := [1] })])], loops := [(4, { regs := [(0, (.list .str)), (1, .str), (5, (.slw 1)), (6, .bool), (7, (.int .i64))], heap := [(.row .str), (.row .str)], app := [1] }, [(.exit 0, { regs := [(1, .str), (5, (.slw 1)), (6, .bool)], heap := [(.row .str), (.row .str)], app := [1] })])], own := [4, 5] }
noncomputable def depotref15_put.env : Dp.Env := { ti := ti, gl := gl, fns := [(75, Tryz.f75, depotref15_put.hint)], specs := [(112, depotref15_before.spec)], K := 0 }
noncomputable def depotref15_put.r0 (K : Nat) : Nat → (((List (List UInt8)) × ((List UInt8) × ((Unit) × ((Bool) × ((Int) × (Unit)))))) × ((List (List UInt8)) × ((List (List UInt8)) × (Unit)))) → Option ((((List UInt8) × ((Unit) × ((Bool) × (Unit)))) × ((List (List UInt8)) × ((List (List UInt8)) × (Unit))))) :=
  loopV [(.exit 0, { regs := [(1, .str), (5, (.slw 1)), (6, .bool)], heap := [(.row .str), (.row .str)], app := [1] })] { regs := [(0, (.list .str)), (1, .str), (5, (.slw 1)), (6, .bool), (7, (.int .i64))], heap := [(.row .str), (.row .str)], app := [1] } (interp (depotref15_put.env.at K) depotref15_put.hint (callF (depotref15_put.env.at K) 7) (Code.sub [1, 1, 1, 0, 1, 0, 0] (Tryz.f75.body.getD .skip)) _)
theorem depotref15_put.s0 (K n : Nat) (x : (((List (List UInt8)) × ((List UInt8) × ((Unit) × ((Bool) × ((Int) × (Unit)))))) × ((List (List UInt8)) × ((List (List UInt8)) × (Unit))))) : depotref15_put.r0 K (n + 1) x = depotref15_put.t0 K (depotref15_put.r0 K n) x := by kernel_rfl
theorem depotref15_put.e0 (K n : Nat) : depotref15_put.r0 K n = depotref15_put.l0 K n := by
  induction n with
  | zero => funext x; rfl
  | succ n ih => funext x; rw [depotref15_put.s0, ih]; rfl
theorem depotref15_put.body_eq (K : Nat) (x : depotref15_put.spec.args.den) : body (depotref15_put.env.at K) 8 75 depotref15_put.spec x = depotref15_put.tr (depotref15_put.r0 K) K x.1 x.2.1 := by kernel_rfl
theorem depotref15_put.contract : Contract Tryz.prog gl 75 depotref15_put.spec :=
  contract_of (E := depotref15_put.env) ⟨TIok_of tiOK, FnsOK_of ⟨⟨Tryz.func75, Tryz.call75⟩, trivial⟩, mixed⟩ (SpecsOK_of (E := depotref15_put.env) ⟨depotref15_before.contract, trivial⟩) Tryz.call75 rfl rfl fun K x r h => by
    rw [depotref15_put.body_eq, show depotref15_put.r0 K = depotref15_put.l0 K from funext (depotref15_put.e0 K)]; exact h

def depotref15_Names.spec : Dp.Spec := { args := (.scons (.list (.scons .str (.scons .str .snil))) .snil), res := (.tup (.scons (.list .str) (.scons .bool .snil))), own := false, F := fun K x => depotref15_Names K x.1 }
def depotref15_Names.hint : Dp.Hint := { n := 55, regions := [(12, [(.normal, { regs := [(4, (.list .str)), (5, (.list .str)), (6, (.int .i64)), (7, (.list .str)), (9, (.int .i64)), (46, .bool)] })])], loops := [(4, { regs := [(4, (.list .str)), (5, (.list .str)), (6, (.int .i64))] }, [(.exit 0, { regs := [(4, (.list .str))] }), (.ret, { regs := [(2, (.list .str)), (3, .bool)] })]), (10, { regs := [(4, (.list .str)), (5, (.list .str)), (6, (.int .i64)), (7, (.list .str)), (9, (.int .i64))] }, [(.exit 2, { regs := [(4, (.list .str)), (5, (.list .str)), (6, (.int .i64))] }), (.ret, { regs := [(2, (.list .str)), (3, .bool)] })])] }
noncomputable def depotref15_Names.env : Dp.Env := { ti := ti, gl := gl, fns := [(23, Tryz.f23, depotref15_Names.hint)], specs := [(76, depotref01_Lower.spec), (61, depotref09_All.spec), (73, depotref06_Split.spec), (74, depotref01_IsToken.spec), (75, depotref15_put.spec)], K := 0 }
noncomputable def depotref15_Names.r0 (K : Nat) : Nat → (((List (List UInt8)) × ((List (List UInt8)) × ((Int) × ((List (List UInt8)) × ((Int) × (Unit)))))) × (Unit)) → Option ((((List (List UInt8)) × ((List (List UInt8)) × ((Int) × (Unit)))) × (Unit)) ⊕ (((List (List UInt8)) × ((Bool) × (Unit))) × (Unit))) :=
  loopV [(.exit 2, { regs := [(4, (.list .str)), (5, (.list .str)), (6, (.int .i64))] }), (.ret, { regs := [(2, (.list .str)), (3, .bool)] })] { regs := [(4, (.list .str)), (5, (.list .str)), (6, (.int .i64)), (7, (.list .str)), (9, (.int .i64))] } (interp (depotref15_Names.env.at K) depotref15_Names.hint (callF (depotref15_Names.env.at K) 7) (Code.sub [1, 1, 1, 0, 1, 0, 0, 1, 0, 0, 1, 1, 1, 0, 0] (Tryz.f23.body.getD .skip)) _)
theorem depotref15_Names.s0 (K n : Nat) (x : (((List (List UInt8)) × ((List (List UInt8)) × ((Int) × ((List (List UInt8)) × ((Int) × (Unit)))))) × (Unit))) : depotref15_Names.r0 K (n + 1) x = depotref15_Names.t0 K (depotref15_Names.r0 K n) x := by kernel_rfl
theorem depotref15_Names.e0 (K n : Nat) : depotref15_Names.r0 K n = depotref15_Names.l0 K n := by
  induction n with
  | zero => funext x; rfl
  | succ n ih => funext x; rw [depotref15_Names.s0, ih]; rfl
noncomputable def depotref15_Names.r1 (K : Nat) : Nat → (((List (List UInt8)) × ((List (List UInt8)) × ((Int) × (Unit)))) × (Unit)) → Option ((((List (List UInt8)) × (Unit)) × (Unit)) ⊕ (((List (List UInt8)) × ((Bool) × (Unit))) × (Unit))) :=
  loopV [(.exit 0, { regs := [(4, (.list .str))] }), (.ret, { regs := [(2, (.list .str)), (3, .bool)] })] { regs := [(4, (.list .str)), (5, (.list .str)), (6, (.int .i64))] } (interp (depotref15_Names.env.at K) depotref15_Names.hint (callF (depotref15_Names.env.at K) 7) (Code.sub [1, 1, 1, 0, 1, 0, 0] (Tryz.f23.body.getD .skip)) _)
theorem depotref15_Names.s1 (K n : Nat) (x : (((List (List UInt8)) × ((List (List UInt8)) × ((Int) × (Unit)))) × (Unit))) : depotref15_Names.r1 K (n + 1) x = depotref15_Names.t1 (depotref15_Names.r0 K) K (depotref15_Names.r1 K n) x := by kernel_rfl
theorem depotref15_Names.e1 (K n : Nat) : depotref15_Names.r1 K n = depotref15_Names.l1 K n := by
  induction n with
  | zero => funext x; rfl
  | succ n ih => funext x; rw [depotref15_Names.s1, ih, show depotref15_Names.r0 K = depotref15_Names.l0 K from funext (depotref15_Names.e0 K)]; rfl
theorem depotref15_Names.body_eq (K : Nat) (x : depotref15_Names.spec.args.den) : body (depotref15_Names.env.at K) 8 23 depotref15_Names.spec x = depotref15_Names.tr (depotref15_Names.r1 K) K x.1 := by kernel_rfl
theorem depotref15_Names.contract : Contract Tryz.prog gl 23 depotref15_Names.spec :=
  contract_of (E := depotref15_Names.env) ⟨TIok_of tiOK, FnsOK_of ⟨⟨Tryz.func23, Tryz.call23⟩, trivial⟩, mixed⟩ (SpecsOK_of (E := depotref15_Names.env) ⟨depotref01_Lower.contract, depotref09_All.contract, depotref06_Split.contract, depotref01_IsToken.contract, depotref15_put.contract, trivial⟩) Tryz.call23 rfl rfl fun K x r h => by
    rw [depotref15_Names.body_eq, show depotref15_Names.r1 K = depotref15_Names.l1 K from funext (depotref15_Names.e1 K)]; exact h

def depotlaw15_VaryNames.spec : Dp.Spec := { args := (.scons (.list (.scons .str (.scons .str .snil))) .snil), res := .bool, own := false, F := fun K x => depotlaw15_VaryNames K x.1 }
def depotlaw15_VaryNames.hint : Dp.Hint := { n := 32 }
noncomputable def depotlaw15_VaryNames.env : Dp.Env := { ti := ti, gl := gl, fns := [(5, Tryz.f5, depotlaw15_VaryNames.hint)], specs := [(11, depotref09_Few.spec), (22, vary_Names.spec), (24, depotref06_Same.spec), (21, depotlaw15_varies.spec), (23, depotref15_Names.spec)], K := 0 }
theorem depotlaw15_VaryNames.body_eq (K : Nat) (x : depotlaw15_VaryNames.spec.args.den) : body (depotlaw15_VaryNames.env.at K) 8 5 depotlaw15_VaryNames.spec x = depotlaw15_VaryNames K x.1 := by kernel_rfl
theorem depotlaw15_VaryNames.contract : Contract Tryz.prog gl 5 depotlaw15_VaryNames.spec :=
  contract_of (E := depotlaw15_VaryNames.env) ⟨TIok_of tiOK, FnsOK_of ⟨⟨Tryz.func5, Tryz.call5⟩, trivial⟩, mixed⟩ (SpecsOK_of (E := depotlaw15_VaryNames.env) ⟨depotref09_Few.contract, vary_Names.contract, depotref06_Same.contract, depotlaw15_varies.contract, depotref15_Names.contract, trivial⟩) Tryz.call5 rfl rfl fun K x r h => by
    rw [depotlaw15_VaryNames.body_eq]; exact h

def depotref15_FewNames.spec : Dp.Spec := { args := (.scons (.list .str) (.scons (.int .i64) (.scons (.int .i64) .snil))), res := .bool, own := false, F := fun K x => depotref15_FewNames K x.1 x.2.1 x.2.2.1 }
def depotref15_FewNames.hint : Dp.Hint := { n := 30, regions := [(2, [(.normal, { regs := [(0, (.list .str)), (1, (.int .i64)), (2, (.int .i64)), (7, (.int .i64)), (16, .bool)] })])], loops := [(2, { regs := [(0, (.list .str)), (1, (.int .i64)), (2, (.int .i64)), (7, (.int .i64))] }, [(.exit 0, { regs := [(0, (.list .str)), (1, (.int .i64))] }), (.ret, { regs := [(6, .bool)] })])] }
noncomputable def depotref15_FewNames.env : Dp.Env := { ti := ti, gl := gl, fns := [(25, Tryz.f25, depotref15_FewNames.hint)], specs := [], K := 0 }
noncomputable def depotref15_FewNames.r0 (K : Nat) : Nat → (((List (List UInt8)) × ((Int) × ((Int) × ((Int) × (Unit))))) × (Unit)) → Option ((((List (List UInt8)) × ((Int) × (Unit))) × (Unit)) ⊕ (((Bool) × (Unit)) × (Unit))) :=
  loopV [(.exit 0, { regs := [(0, (.list .str)), (1, (.int .i64))] }), (.ret, { regs := [(6, .bool)] })] { regs := [(0, (.list .str)), (1, (.int .i64)), (2, (.int .i64)), (7, (.int .i64))] } (interp (depotref15_FewNames.env.at K) depotref15_FewNames.hint (callF (depotref15_FewNames.env.at K) 7) (Code.sub [1, 0, 1, 0, 0] (Tryz.f25.body.getD .skip)) _)
theorem depotref15_FewNames.s0 (K n : Nat) (x : (((List (List UInt8)) × ((Int) × ((Int) × ((Int) × (Unit))))) × (Unit))) : depotref15_FewNames.r0 K (n + 1) x = depotref15_FewNames.t0 K (depotref15_FewNames.r0 K n) x := by kernel_rfl
theorem depotref15_FewNames.e0 (K n : Nat) : depotref15_FewNames.r0 K n = depotref15_FewNames.l0 K n := by
  induction n with
  | zero => funext x; rfl
  | succ n ih => funext x; rw [depotref15_FewNames.s0, ih]; rfl
theorem depotref15_FewNames.body_eq (K : Nat) (x : depotref15_FewNames.spec.args.den) : body (depotref15_FewNames.env.at K) 8 25 depotref15_FewNames.spec x = depotref15_FewNames.tr (depotref15_FewNames.r0 K) K x.1 x.2.1 x.2.2.1 := by kernel_rfl
theorem depotref15_FewNames.contract : Contract Tryz.prog gl 25 depotref15_FewNames.spec :=
  contract_of (E := depotref15_FewNames.env) ⟨TIok_of tiOK, FnsOK_of ⟨⟨Tryz.func25, Tryz.call25⟩, trivial⟩, mixed⟩ (SpecsOK_of (E := depotref15_FewNames.env) trivial) Tryz.call25 rfl rfl fun K x r h => by
    rw [depotref15_FewNames.body_eq, show depotref15_FewNames.r0 K = depotref15_FewNames.l0 K from funext (depotref15_FewNames.e0 K)]; exact h

def depotref15_Few.spec : Dp.Spec := { args := (.scons (.list (.scons .str (.scons .bool (.scons .str .snil)))) (.scons (.int .i64) (.scons (.int .i64) .snil))), res := .bool, own := false, F := fun K x => depotref15_Few K x.1 x.2.1 x.2.2.1 }
def depotref15_Few.hint : Dp.Hint := { n := 41, regions := [(2, [(.normal, { regs := [(0, (.list (.scons .str (.scons .bool (.scons .str .snil))))), (1, (.int .i64)), (2, (.int .i64)), (7, (.int .i64)), (16, .bool)] })]), (4, [(.normal, { regs := [(0, (.list (.scons .str (.scons .bool (.scons .str .snil))))), (1, (.int .i64)), (2, (.int .i64)), (7, (.int .i64)), (36, .bool)] })])], loops := [(2, { regs := [(0, (.list (.scons .str (.scons .bool (.scons .str .snil))))), (1, (.int .i64)), (2, (.int .i64)), (7, (.int .i64))] }, [(.exit 0, { regs := [(0, (.list (.scons .str (.scons .bool (.scons .str .snil))))), (1, (.int .i64))] }), (.ret, { regs := [(6, .bool)] })])] }
noncomputable def depotref15_Few.env : Dp.Env := { ti := ti, gl := gl, fns := [(26, Tryz.f26, depotref15_Few.hint)], specs := [], K := 0 }
noncomputable def depotref15_Few.r0 (K : Nat) : Nat → (((List ((List UInt8) × ((Bool) × ((List UInt8) × (Unit))))) × ((Int) × ((Int) × ((Int) × (Unit))))) × (Unit)) → Option ((((List ((List UInt8) × ((Bool) × ((List UInt8) × (Unit))))) × ((Int) × (Unit))) × (Unit)) ⊕ (((Bool) × (Unit)) × (Unit))) :=
  loopV [(.exit 0, { regs := [(0, (.list (.scons .str (.scons .bool (.scons .str .snil))))), (1, (.int .i64))] }), (.ret, { regs := [(6, .bool)] })] { regs := [(0, (.list (.scons .str (.scons .bool (.scons .str .snil))))), (1, (.int .i64)), (2, (.int .i64)), (7, (.int .i64))] } (interp (depotref15_Few.env.at K) depotref15_Few.hint (callF (depotref15_Few.env.at K) 7) (Code.sub [1, 0, 1, 0, 0] (Tryz.f26.body.getD .skip)) _)
theorem depotref15_Few.s0 (K n : Nat) (x : (((List ((List UInt8) × ((Bool) × ((List UInt8) × (Unit))))) × ((Int) × ((Int) × ((Int) × (Unit))))) × (Unit))) : depotref15_Few.r0 K (n + 1) x = depotref15_Few.t0 K (depotref15_Few.r0 K n) x := by kernel_rfl
theorem depotref15_Few.e0 (K n : Nat) : depotref15_Few.r0 K n = depotref15_Few.l0 K n := by
  induction n with
  | zero => funext x; rfl
  | succ n ih => funext x; rw [depotref15_Few.s0, ih]; rfl
theorem depotref15_Few.body_eq (K : Nat) (x : depotref15_Few.spec.args.den) : body (depotref15_Few.env.at K) 8 26 depotref15_Few.spec x = depotref15_Few.tr (depotref15_Few.r0 K) K x.1 x.2.1 x.2.2.1 := by kernel_rfl
theorem depotref15_Few.contract : Contract Tryz.prog gl 26 depotref15_Few.spec :=
  contract_of (E := depotref15_Few.env) ⟨TIok_of tiOK, FnsOK_of ⟨⟨Tryz.func26, Tryz.call26⟩, trivial⟩, mixed⟩ (SpecsOK_of (E := depotref15_Few.env) trivial) Tryz.call26 rfl rfl fun K x r h => by
    rw [depotref15_Few.body_eq, show depotref15_Few.r0 K = depotref15_Few.l0 K from funext (depotref15_Few.e0 K)]; exact h

def depotref15_single.spec : Dp.Spec := { args := (.scons .str .snil), res := .str, own := false, F := fun K x => depotref15_single K x.1 }
def depotref15_single.hint : Dp.Hint := { n := 47, conds := [(20, [(.normal, { regs := [(0, .str), (3, .str), (4, (.int .i64))] })]), (43, [(.normal, { regs := [(0, .str), (3, .str), (4, (.int .i64))] })])], regions := [(5, [(.normal, { regs := [(0, .str), (3, .str), (4, (.int .i64)), (20, .bool)] })]), (7, [(.normal, { regs := [(0, .str), (3, .str), (4, (.int .i64)), (43, .bool)] })])], loops := [(3, { regs := [(0, .str), (3, .str), (4, (.int .i64))] }, [(.exit 0, { regs := [(3, .str)] })])] }
noncomputable def depotref15_single.env : Dp.Env := { ti := ti, gl := gl, fns := [(78, Tryz.f78, depotref15_single.hint)], specs := [], K := 0 }
noncomputable def depotref15_single.r0 (K : Nat) : Nat → (((List UInt8) × ((List UInt8) × ((Int) × (Unit)))) × (Unit)) → Option ((((List UInt8) × (Unit)) × (Unit))) :=
  loopV [(.exit 0, { regs := [(3, .str)] })] { regs := [(0, .str), (3, .str), (4, (.int .i64))] } (interp (depotref15_single.env.at K) depotref15_single.hint (callF (depotref15_single.env.at K) 7) (Code.sub [1, 1, 0, 1, 0, 0] (Tryz.f78.body.getD .skip)) _)
theorem depotref15_single.s0 (K n : Nat) (x : (((List UInt8) × ((List UInt8) × ((Int) × (Unit)))) × (Unit))) : depotref15_single.r0 K (n + 1) x = depotref15_single.t0 K (depotref15_single.r0 K n) x := by kernel_rfl
theorem depotref15_single.e0 (K n : Nat) : depotref15_single.r0 K n = depotref15_single.l0 K n := by
  induction n with
  | zero => funext x; rfl
  | succ n ih => funext x; rw [depotref15_single.s0, ih]; rfl
theorem depotref15_single.body_eq (K : Nat) (x : depotref15_single.spec.args.den) : body (depotref15_single.env.at K) 8 78 depotref15_single.spec x = depotref15_single.tr (depotref15_single.r0 K) K x.1 := by kernel_rfl
theorem depotref15_single.contract : Contract Tryz.prog gl 78 depotref15_single.spec :=
  contract_of (E := depotref15_single.env) ⟨TIok_of tiOK, FnsOK_of ⟨⟨Tryz.func78, Tryz.call78⟩, trivial⟩, mixed⟩ (SpecsOK_of (E := depotref15_single.env) trivial) Tryz.call78 rfl rfl fun K x r h => by
    rw [depotref15_single.body_eq, show depotref15_single.r0 K = depotref15_single.l0 K from funext (depotref15_single.e0 K)]; exact h

def depotref06_Join.spec : Dp.Spec := { args := (.scons (.list .str) .snil), res := .str, own := false, F := fun K x => depotref06_Join K x.1 }
def depotref06_Join.hint : Dp.Hint := { n := 22, conds := [(12, [(.normal, { regs := [(0, (.list .str)), (3, .str), (4, (.int .i64))] })])], loops := [(3, { regs := [(0, (.list .str)), (3, .str), (4, (.int .i64))] }, [(.exit 0, { regs := [(3, .str)] })])] }
noncomputable def depotref06_Join.env : Dp.Env := { ti := ti, gl := gl, fns := [(68, Tryz.f68, depotref06_Join.hint)], specs := [], K := 0 }
noncomputable def depotref06_Join.r0 (K : Nat) : Nat → (((List (List UInt8)) × ((List UInt8) × ((Int) × (Unit)))) × (Unit)) → Option ((((List UInt8) × (Unit)) × (Unit))) :=
  loopV [(.exit 0, { regs := [(3, .str)] })] { regs := [(0, (.list .str)), (3, .str), (4, (.int .i64))] } (interp (depotref06_Join.env.at K) depotref06_Join.hint (callF (depotref06_Join.env.at K) 7) (Code.sub [1, 1, 0, 1, 0, 0] (Tryz.f68.body.getD .skip)) _)
theorem depotref06_Join.s0 (K n : Nat) (x : (((List (List UInt8)) × ((List UInt8) × ((Int) × (Unit)))) × (Unit))) : depotref06_Join.r0 K (n + 1) x = depotref06_Join.t0 K (depotref06_Join.r0 K n) x := by kernel_rfl
theorem depotref06_Join.e0 (K n : Nat) : depotref06_Join.r0 K n = depotref06_Join.l0 K n := by
  induction n with
  | zero => funext x; rfl
  | succ n ih => funext x; rw [depotref06_Join.s0, ih]; rfl
theorem depotref06_Join.body_eq (K : Nat) (x : depotref06_Join.spec.args.den) : body (depotref06_Join.env.at K) 8 68 depotref06_Join.spec x = depotref06_Join.tr (depotref06_Join.r0 K) K x.1 := by kernel_rfl
theorem depotref06_Join.contract : Contract Tryz.prog gl 68 depotref06_Join.spec :=
  contract_of (E := depotref06_Join.env) ⟨TIok_of tiOK, FnsOK_of ⟨⟨Tryz.func68, Tryz.call68⟩, trivial⟩, mixed⟩ (SpecsOK_of (E := depotref06_Join.env) trivial) Tryz.call68 rfl rfl fun K x r h => by
    rw [depotref06_Join.body_eq, show depotref06_Join.r0 K = depotref06_Join.l0 K from funext (depotref06_Join.e0 K)]; exact h

def depotref15_Picks.spec : Dp.Spec := { args := (.scons (.list .str) (.scons (.list (.scons .str (.scons .str .snil))) .snil)), res := (.list (.scons .str (.scons .bool (.scons .str .snil)))), own := false, F := fun K x => depotref15_Picks K x.1 x.2.1 }
def depotref15_Picks.hint : Dp.Hint := { n := 50, loops := [(3, { regs := [(0, (.list .str)), (1, (.list (.scons .str (.scons .str .snil)))), (5, (.slw 1)), (6, (.int .i64))], heap := [(.row (.scons .str (.scons .bool (.scons .str .snil)))), (.row (.scons .str (.scons .bool (.scons .str .snil))))], app := [1] }, [(.exit 0, { regs := [(5, (.slw 1))], heap := [(.row (.scons .str (.scons .bool (.scons .str .snil)))), (.row (.scons .str (.scons .bool (.scons .str .snil))))], app := [1] })]), (8, { regs := [(0, (.list .str)), (1, (.list (.scons .str (.scons .str .snil)))), (5, (.slw 1)), (6, (.int .i64)), (7, (.list .str)), (8, (.slw 2)), (9, (.int .i64))], heap := [(.row (.scons .str (.scons .bool (.scons .str .snil)))), (.row (.scons .str (.scons .bool (.scons .str .snil)))), (.row .str)], app := [1, 2] }, [(.exit 2, { regs := [(0, (.list .str)), (1, (.list (.scons .str (.scons .str .snil)))), (5, (.slw 1)), (6, (.int .i64)), (7, (.list .str)), (8, (.slw 2))], heap := [(.row (.scons .str (.scons .bool (.scons .str .snil)))), (.row (.scons .str (.scons .bool (.scons .str .snil)))), (.row .str)], app := [1, 2] })])], own := [4, 5, 8] }
noncomputable def depotref15_Picks.env : Dp.Env := { ti := ti, gl := gl, fns := [(29, Tryz.f29, depotref15_Picks.hint)], specs := [(61, depotref09_All.spec), (78, depotref15_single.spec), (68, depotref06_Join.spec)], K := 0 }
noncomputable def depotref15_Picks.r0 (K : Nat) : Nat → (((List (List UInt8)) × ((List ((List UInt8) × ((List UInt8) × (Unit)))) × ((Unit) × ((Int) × ((List (List UInt8)) × ((Unit) × ((Int) × (Unit)))))))) × ((List ((List UInt8) × ((Bool) × ((List UInt8) × (Unit))))) × ((List ((List UInt8) × ((Bool) × ((List UInt8) × (Unit))))) × ((List (List UInt8)) × (Unit))))) → Option ((((List (List UInt8)) × ((List ((List UInt8) × ((List UInt8) × (Unit)))) × ((Unit) × ((Int) × ((List (List UInt8)) × ((Unit) × (Unit))))))) × ((List ((List UInt8) × ((Bool) × ((List UInt8) × (Unit))))) × ((List ((List UInt8) × ((Bool) × ((List UInt8) × (Unit))))) × ((List (List UInt8)) × (Unit)))))) :=
  loopV [(.exit 2, { regs := [(0, (.list .str)), (1, (.list (.scons .str (.scons .str .snil)))), (5, (.slw 1)), (6, (.int .i64)), (7, (.list .str)), (8, (.slw 2))], heap := [(.row (.scons .str (.scons .bool (.scons .str .snil)))), (.row (.scons .str (.scons .bool (.scons .str .snil)))), (.row .str)], app := [1, 2] })] { regs := [(0, (.list .str)), (1, (.list (.scons .str (.scons .str .snil)))), (5, (.slw 1)), (6, (.int .i64)), (7, (.list .str)), (8, (.slw 2)), (9, (.int .i64))], heap := [(.row (.scons .str (.scons .bool (.scons .str .snil)))), (.row (.scons .str (.scons .bool (.scons .str .snil)))), (.row .str)], app := [1, 2] } (interp (depotref15_Picks.env.at K) depotref15_Picks.hint (callF (depotref15_Picks.env.at K) 7) (Code.sub [1, 1, 0, 1, 0, 0, 1, 0, 0, 1, 1, 0, 1, 0, 0] (Tryz.f29.body.getD .skip)) _)
theorem depotref15_Picks.s0 (K n : Nat) (x : (((List (List UInt8)) × ((List ((List UInt8) × ((List UInt8) × (Unit)))) × ((Unit) × ((Int) × ((List (List UInt8)) × ((Unit) × ((Int) × (Unit)))))))) × ((List ((List UInt8) × ((Bool) × ((List UInt8) × (Unit))))) × ((List ((List UInt8) × ((Bool) × ((List UInt8) × (Unit))))) × ((List (List UInt8)) × (Unit)))))) : depotref15_Picks.r0 K (n + 1) x = depotref15_Picks.t0 K (depotref15_Picks.r0 K n) x := by kernel_rfl
theorem depotref15_Picks.e0 (K n : Nat) : depotref15_Picks.r0 K n = depotref15_Picks.l0 K n := by
  induction n with
  | zero => funext x; rfl
  | succ n ih => funext x; rw [depotref15_Picks.s0, ih]; rfl
noncomputable def depotref15_Picks.r1 (K : Nat) : Nat → (((List (List UInt8)) × ((List ((List UInt8) × ((List UInt8) × (Unit)))) × ((Unit) × ((Int) × (Unit))))) × ((List ((List UInt8) × ((Bool) × ((List UInt8) × (Unit))))) × ((List ((List UInt8) × ((Bool) × ((List UInt8) × (Unit))))) × (Unit)))) → Option ((((Unit) × (Unit)) × ((List ((List UInt8) × ((Bool) × ((List UInt8) × (Unit))))) × ((List ((List UInt8) × ((Bool) × ((List UInt8) × (Unit))))) × (Unit))))) :=
  loopV [(.exit 0, { regs := [(5, (.slw 1))], heap := [(.row (.scons .str (.scons .bool (.scons .str .snil)))), (.row (.scons .str (.scons .bool (.scons .str .snil))))], app := [1] })] { regs := [(0, (.list .str)), (1, (.list (.scons .str (.scons .str .snil)))), (5, (.slw 1)), (6, (.int .i64))], heap := [(.row (.scons .str (.scons .bool (.scons .str .snil)))), (.row (.scons .str (.scons .bool (.scons .str .snil))))], app := [1] } (interp (depotref15_Picks.env.at K) depotref15_Picks.hint (callF (depotref15_Picks.env.at K) 7) (Code.sub [1, 1, 0, 1, 0, 0] (Tryz.f29.body.getD .skip)) _)
theorem depotref15_Picks.s1 (K n : Nat) (x : (((List (List UInt8)) × ((List ((List UInt8) × ((List UInt8) × (Unit)))) × ((Unit) × ((Int) × (Unit))))) × ((List ((List UInt8) × ((Bool) × ((List UInt8) × (Unit))))) × ((List ((List UInt8) × ((Bool) × ((List UInt8) × (Unit))))) × (Unit))))) : depotref15_Picks.r1 K (n + 1) x = depotref15_Picks.t1 (depotref15_Picks.r0 K) K (depotref15_Picks.r1 K n) x := by kernel_rfl
theorem depotref15_Picks.e1 (K n : Nat) : depotref15_Picks.r1 K n = depotref15_Picks.l1 K n := by
  induction n with
  | zero => funext x; rfl
  | succ n ih => funext x; rw [depotref15_Picks.s1, ih, show depotref15_Picks.r0 K = depotref15_Picks.l0 K from funext (depotref15_Picks.e0 K)]; rfl
theorem depotref15_Picks.body_eq (K : Nat) (x : depotref15_Picks.spec.args.den) : body (depotref15_Picks.env.at K) 8 29 depotref15_Picks.spec x = depotref15_Picks.tr (depotref15_Picks.r1 K) K x.1 x.2.1 := by kernel_rfl
theorem depotref15_Picks.contract : Contract Tryz.prog gl 29 depotref15_Picks.spec :=
  contract_of (E := depotref15_Picks.env) ⟨TIok_of tiOK, FnsOK_of ⟨⟨Tryz.func29, Tryz.call29⟩, trivial⟩, mixed⟩ (SpecsOK_of (E := depotref15_Picks.env) ⟨depotref09_All.contract, depotref15_single.contract, depotref06_Join.contract, trivial⟩) Tryz.call29 rfl rfl fun K x r h => by
    rw [depotref15_Picks.body_eq, show depotref15_Picks.r1 K = depotref15_Picks.l1 K from funext (depotref15_Picks.e1 K)]; exact h

def depotref15_Match.spec : Dp.Spec := { args := (.scons (.list (.scons .str (.scons .bool (.scons .str .snil)))) (.scons (.list (.scons .str (.scons .str .snil))) .snil)), res := .bool, own := false, F := fun K x => depotref15_Match K x.1 x.2.1 }
def depotref15_Match.hint : Dp.Hint := { n := 26, loops := [(3, { regs := [(0, (.list (.scons .str (.scons .bool (.scons .str .snil))))), (1, (.list (.scons .str (.scons .str .snil)))), (5, (.slw 0)), (6, (.int .i64))], heap := [(.row .str)], app := [0] }, [(.exit 0, { regs := [(0, (.list (.scons .str (.scons .bool (.scons .str .snil))))), (1, (.list (.scons .str (.scons .str .snil)))), (5, (.slw 0))], heap := [(.row .str)], app := [0] })])], own := [5], frz := [23] }
noncomputable def depotref15_Match.env : Dp.Env := { ti := ti, gl := gl, fns := [(31, Tryz.f31, depotref15_Match.hint)], specs := [(27, depotref15_Same.spec), (29, depotref15_Picks.spec)], K := 0 }
noncomputable def depotref15_Match.r0 (K : Nat) : Nat → (((List ((List UInt8) × ((Bool) × ((List UInt8) × (Unit))))) × ((List ((List UInt8) × ((List UInt8) × (Unit)))) × ((Unit) × ((Int) × (Unit))))) × ((List (List UInt8)) × (Unit))) → Option ((((List ((List UInt8) × ((Bool) × ((List UInt8) × (Unit))))) × ((List ((List UInt8) × ((List UInt8) × (Unit)))) × ((Unit) × (Unit)))) × ((List (List UInt8)) × (Unit)))) :=
  loopV [(.exit 0, { regs := [(0, (.list (.scons .str (.scons .bool (.scons .str .snil))))), (1, (.list (.scons .str (.scons .str .snil)))), (5, (.slw 0))], heap := [(.row .str)], app := [0] })] { regs := [(0, (.list (.scons .str (.scons .bool (.scons .str .snil))))), (1, (.list (.scons .str (.scons .str .snil)))), (5, (.slw 0)), (6, (.int .i64))], heap := [(.row .str)], app := [0] } (interp (depotref15_Match.env.at K) depotref15_Match.hint (callF (depotref15_Match.env.at K) 7) (Code.sub [1, 1, 0, 1, 0, 0] (Tryz.f31.body.getD .skip)) _)
theorem depotref15_Match.s0 (K n : Nat) (x : (((List ((List UInt8) × ((Bool) × ((List UInt8) × (Unit))))) × ((List ((List UInt8) × ((List UInt8) × (Unit)))) × ((Unit) × ((Int) × (Unit))))) × ((List (List UInt8)) × (Unit)))) : depotref15_Match.r0 K (n + 1) x = depotref15_Match.t0 K (depotref15_Match.r0 K n) x := by kernel_rfl
theorem depotref15_Match.e0 (K n : Nat) : depotref15_Match.r0 K n = depotref15_Match.l0 K n := by
  induction n with
  | zero => funext x; rfl
  | succ n ih => funext x; rw [depotref15_Match.s0, ih]; rfl
theorem depotref15_Match.body_eq (K : Nat) (x : depotref15_Match.spec.args.den) : body (depotref15_Match.env.at K) 8 31 depotref15_Match.spec x = depotref15_Match.tr (depotref15_Match.r0 K) K x.1 x.2.1 := by kernel_rfl
theorem depotref15_Match.contract : Contract Tryz.prog gl 31 depotref15_Match.spec :=
  contract_of (E := depotref15_Match.env) ⟨TIok_of tiOK, FnsOK_of ⟨⟨Tryz.func31, Tryz.call31⟩, trivial⟩, mixed⟩ (SpecsOK_of (E := depotref15_Match.env) ⟨depotref15_Same.contract, depotref15_Picks.contract, trivial⟩) Tryz.call31 rfl rfl fun K x r h => by
    rw [depotref15_Match.body_eq, show depotref15_Match.r0 K = depotref15_Match.l0 K from funext (depotref15_Match.e0 K)]; exact h

def depotlaw15_VaryPicks.spec : Dp.Spec := { args := (.scons (.list .str) (.scons (.list (.scons .str (.scons .str .snil))) (.scons (.list (.scons .str (.scons .bool (.scons .str .snil)))) (.scons (.list (.scons .str (.scons .bool (.scons .str .snil)))) .snil)))), res := .bool, own := false, F := fun K x => depotlaw15_VaryPicks K x.1 x.2.1 x.2.2.1 x.2.2.2.1 }
def depotlaw15_VaryPicks.hint : Dp.Hint := { n := 56, regions := [(1, [(.normal, { regs := [(0, (.list .str)), (1, (.list (.scons .str (.scons .str .snil)))), (2, (.list (.scons .str (.scons .bool (.scons .str .snil))))), (3, (.list (.scons .str (.scons .bool (.scons .str .snil))))), (26, .bool)] })])] }
noncomputable def depotlaw15_VaryPicks.env : Dp.Env := { ti := ti, gl := gl, fns := [(6, Tryz.f6, depotlaw15_VaryPicks.hint)], specs := [(11, depotref09_Few.spec), (28, vary_Picks.spec), (27, depotref15_Same.spec), (30, vary_Match.spec), (32, vary_Same.spec), (21, depotlaw15_varies.spec), (25, depotref15_FewNames.spec), (26, depotref15_Few.spec), (29, depotref15_Picks.spec), (31, depotref15_Match.spec)], K := 0 }
theorem depotlaw15_VaryPicks.body_eq (K : Nat) (x : depotlaw15_VaryPicks.spec.args.den) : body (depotlaw15_VaryPicks.env.at K) 8 6 depotlaw15_VaryPicks.spec x = depotlaw15_VaryPicks K x.1 x.2.1 x.2.2.1 x.2.2.2.1 := by kernel_rfl
theorem depotlaw15_VaryPicks.contract : Contract Tryz.prog gl 6 depotlaw15_VaryPicks.spec :=
  contract_of (E := depotlaw15_VaryPicks.env) ⟨TIok_of tiOK, FnsOK_of ⟨⟨Tryz.func6, Tryz.call6⟩, trivial⟩, mixed⟩ (SpecsOK_of (E := depotlaw15_VaryPicks.env) ⟨depotref09_Few.contract, vary_Picks.contract, depotref15_Same.contract, vary_Match.contract, vary_Same.contract, depotlaw15_varies.contract, depotref15_FewNames.contract, depotref15_Few.contract, depotref15_Picks.contract, depotref15_Match.contract, trivial⟩) Tryz.call6 rfl rfl fun K x r h => by
    rw [depotlaw15_VaryPicks.body_eq]; exact h

end Go.Proofs.X