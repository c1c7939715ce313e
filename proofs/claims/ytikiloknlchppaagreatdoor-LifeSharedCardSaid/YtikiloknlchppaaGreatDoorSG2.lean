/- That the machine comes to the plain functions. No condition. -/
import Derived.Test.YtikiloknlchppaaGreatDoorSG1
import Derived.Test.YtikiloknlchppaaGreatDoorSS2
import Derived.Test.YtikiloknlchppaaGreatDoorChecked
import Derived.KernelRfl
import Derived.Eval
set_option linter.unusedVariables false
set_option maxRecDepth 20000
namespace Go.Proofs.X
open Go Go.Dp
abbrev Kq3 : Dp.Ty := .scons (.int .i64) .snil
abbrev Kq0 : Dp.Ty := .scons .bool (.scons .bool (.scons .bool (.scons .bool (.scons .bool (.scons .bool (.scons (.int .i64) (.scons (.int .i64) Kq3)))))))
abbrev Kq5 : Dp.Ty := .scons .str .snil
abbrev Kq2 : Dp.Ty := .scons .str Kq5
abbrev Kq1 : Dp.Ty := .scons (.scons (.int .i64) (.scons .str (.scons (.int .i64) (.scons (.list Kq2) Kq5)))) (.scons (.int .i64) (.scons (.list (.scons .str (.scons .bool Kq5))) .snil))
abbrev Kq4 : Dp.Ty := .fn 156 (.scons (.ref (.int .u8)) (.scons (.ref (.int .u8)) .snil))
def ti : List (Nat × TI) := [(1, ⟨.fn, 1, 8, .nilf⟩),
  (2, ⟨.int .i64, 1, 8, (.int .i64)⟩),
  (3, ⟨.int .i64, 1, 8, (.int .i64)⟩),
  (4, ⟨.bool, 1, 1, .bool⟩),
  (5, ⟨.int .u8, 1, 1, (.int .u8)⟩),
  (6, ⟨.int .u8, 1, 1, (.int .u8)⟩),
  (9, ⟨.str, 1, 16, .str⟩),
  (10, ⟨.str, 1, 16, .str⟩),
  (11, ⟨.str, 1, 16, .str⟩),
  (12, ⟨.int .u64, 1, 8, (.int .u64)⟩),
  (15, ⟨.ptr 226, 1, 8, .nilp⟩),
  (16, ⟨.ptr 229, 1, 8, .nilp⟩),
  (17, ⟨.ptr 236, 1, 8, .nilp⟩),
  (18, ⟨.struct [(17, 0)], 1, 8, (.scons .nilp .snil)⟩),
  (19, ⟨.struct [(17, 0)], 1, 8, (.scons .nilp .snil)⟩),
  (20, ⟨.iface false, 1, 16, .nili⟩),
  (21, ⟨.int .i32, 1, 4, (.int .i32)⟩),
  (22, ⟨.slice 58, 1, 24, (.list Kq2)⟩),
  (23, ⟨.fn, 1, 8, .nilf⟩),
  (24, ⟨.fn, 1, 8, .nilf⟩),
  (25, ⟨.struct [(4, 0), (4, 1), (4, 2), (4, 3), (4, 4), (4, 5), (3, 6), (3, 7), (3, 8)], 9, 32, Kq0⟩),
  (26, ⟨.struct [(4, 0), (4, 1), (4, 2), (4, 3), (4, 4), (4, 5), (3, 6), (3, 7), (3, 8)], 9, 32, Kq0⟩),
  (27, ⟨.fn, 1, 8, .nilf⟩),
  (28, ⟨.fn, 1, 8, .nilf⟩),
  (29, ⟨.fn, 1, 8, .nilf⟩),
  (30, ⟨.fn, 1, 8, .nilf⟩),
  (31, ⟨.fn, 1, 8, .nilf⟩),
  (32, ⟨.slice 9, 1, 24, (.list .str)⟩),
  (34, ⟨.fn, 1, 8, .nilf⟩),
  (35, ⟨.fn, 1, 8, .nilf⟩),
  (36, ⟨.slice 80, 1, 24, (.list (.scons .str (.scons .bool Kq5)))⟩),
  (37, ⟨.fn, 1, 8, .nilf⟩),
  (38, ⟨.fn, 1, 8, .nilf⟩),
  (39, ⟨.fn, 1, 8, .nilf⟩),
  (40, ⟨.fn, 1, 8, .nilf⟩),
  (41, ⟨.fn, 1, 8, .nilf⟩),
  (42, ⟨.fn, 1, 8, .nilf⟩),
  (43, ⟨.struct [(3, 0), (9, 1), (3, 2), (22, 3), (9, 4)], 5, 72, (.scons (.int .i64) (.scons .str (.scons (.int .i64) (.scons (.list Kq2) Kq5))))⟩),
  (44, ⟨.struct [(3, 0), (9, 1), (3, 2), (22, 3), (9, 4)], 5, 72, (.scons (.int .i64) (.scons .str (.scons (.int .i64) (.scons (.list Kq2) Kq5))))⟩),
  (45, ⟨.struct [(44, 0), (3, 5), (36, 6)], 7, 104, Kq1⟩),
  (46, ⟨.struct [(44, 0), (3, 5), (36, 6)], 7, 104, Kq1⟩),
  (47, ⟨.fn, 1, 8, .nilf⟩),
  (48, ⟨.fn, 1, 8, .nilf⟩),
  (49, ⟨.fn, 1, 8, .nilf⟩),
  (50, ⟨.fn, 1, 8, .nilf⟩),
  (52, ⟨.fn, 1, 8, .nilf⟩),
  (53, ⟨.fn, 1, 8, .nilf⟩),
  (54, ⟨.fn, 1, 8, .nilf⟩),
  (55, ⟨.fn, 1, 8, .nilf⟩),
  (56, ⟨.fn, 1, 8, .nilf⟩),
  (57, ⟨.struct [(9, 0), (9, 1)], 2, 32, Kq2⟩),
  (58, ⟨.struct [(9, 0), (9, 1)], 2, 32, Kq2⟩),
  (59, ⟨.fn, 1, 8, .nilf⟩),
  (60, ⟨.ptr 62, 1, 8, .nilp⟩),
  (61, ⟨.struct [(26, 0)], 9, 32, (.scons Kq0 .snil)⟩),
  (62, ⟨.struct [(26, 0)], 9, 32, (.scons Kq0 .snil)⟩),
  (63, ⟨.fn, 1, 8, .nilf⟩),
  (64, ⟨.fn, 1, 8, .nilf⟩),
  (65, ⟨.fn, 1, 8, .nilf⟩),
  (67, ⟨.fn, 1, 8, .nilf⟩),
  (68, ⟨.fn, 1, 8, .nilf⟩),
  (69, ⟨.fn, 1, 8, .nilf⟩),
  (71, ⟨.fn, 1, 8, .nilf⟩),
  (72, ⟨.fn, 1, 8, .nilf⟩),
  (73, ⟨.fn, 1, 8, .nilf⟩),
  (74, ⟨.fn, 1, 8, .nilf⟩),
  (75, ⟨.fn, 1, 8, .nilf⟩),
  (76, ⟨.fn, 1, 8, .nilf⟩),
  (77, ⟨.slice 4, 1, 24, (.list .bool)⟩),
  (78, ⟨.slice 3, 1, 24, (.list (.int .i64))⟩),
  (79, ⟨.struct [(9, 0), (4, 1), (9, 2)], 3, 40, (.scons .str (.scons .bool Kq5))⟩),
  (80, ⟨.struct [(9, 0), (4, 1), (9, 2)], 3, 40, (.scons .str (.scons .bool Kq5))⟩),
  (81, ⟨.map 9 3, 1, 8, .unk⟩),
  (82, ⟨.int .i64, 1, 8, (.int .i64)⟩),
  (84, ⟨.fn, 1, 8, .nilf⟩),
  (85, ⟨.fn, 1, 8, .nilf⟩),
  (86, ⟨.fn, 1, 8, .nilf⟩),
  (87, ⟨.fn, 1, 8, .nilf⟩),
  (89, ⟨.fn, 1, 8, .nilf⟩),
  (90, ⟨.fn, 1, 8, .nilf⟩),
  (91, ⟨.fn, 1, 8, .nilf⟩),
  (92, ⟨.fn, 1, 8, .nilf⟩),
  (93, ⟨.fn, 1, 8, .nilf⟩),
  (95, ⟨.fn, 1, 8, .nilf⟩),
  (97, ⟨.fn, 1, 8, .nilf⟩),
  (98, ⟨.fn, 1, 8, .nilf⟩),
  (99, ⟨.fn, 1, 8, .nilf⟩),
  (100, ⟨.fn, 1, 8, .nilf⟩),
  (102, ⟨.fn, 1, 8, .nilf⟩),
  (103, ⟨.slice 107, 1, 24, (.list (.scons .str (.scons .nilf .snil)))⟩),
  (104, ⟨.fn, 1, 8, .nilf⟩),
  (105, ⟨.fn, 1, 8, .nilf⟩),
  (106, ⟨.struct [(9, 0), (105, 1)], 2, 24, (.scons .str (.scons .nilf .snil))⟩),
  (107, ⟨.struct [(9, 0), (105, 1)], 2, 24, (.scons .str (.scons .nilf .snil))⟩),
  (109, ⟨.fn, 1, 8, .nilf⟩),
  (110, ⟨.fn, 1, 8, .nilf⟩),
  (111, ⟨.fn, 1, 8, .nilf⟩),
  (112, ⟨.fn, 1, 8, .nilf⟩),
  (113, ⟨.int .u64, 1, 8, (.int .u64)⟩),
  (114, ⟨.fn, 1, 8, .nilf⟩),
  (115, ⟨.fn, 1, 8, .nilf⟩),
  (116, ⟨.fn, 1, 8, .nilf⟩),
  (117, ⟨.fn, 1, 8, .nilf⟩),
  (118, ⟨.fn, 1, 8, .nilf⟩),
  (119, ⟨.slice 5, 1, 24, (.list (.int .u8))⟩),
  (120, ⟨.fn, 1, 8, .nilf⟩),
  (121, ⟨.fn, 1, 8, .nilf⟩),
  (122, ⟨.int .u64, 1, 8, (.int .u64)⟩),
  (123, ⟨.fn, 1, 8, .nilf⟩),
  (124, ⟨.fn, 1, 8, .nilf⟩),
  (125, ⟨.fn, 1, 8, .nilf⟩),
  (126, ⟨.fn, 1, 8, .nilf⟩),
  (127, ⟨.fn, 1, 8, .nilf⟩),
  (128, ⟨.fn, 1, 8, .nilf⟩),
  (129, ⟨.fn, 1, 8, .nilf⟩),
  (131, ⟨.fn, 1, 8, .nilf⟩),
  (133, ⟨.fn, 1, 8, .nilf⟩),
  (134, ⟨.fn, 1, 8, .nilf⟩),
  (136, ⟨.fn, 1, 8, .nilf⟩),
  (137, ⟨.ptr 139, 1, 8, .nilp⟩),
  (138, ⟨.struct [(137, 0), (119, 1)], 2, 32, (.scons .nilp (.scons (.list (.int .u8)) .snil))⟩),
  (139, ⟨.struct [(137, 0), (119, 1)], 2, 32, (.scons .nilp (.scons (.list (.int .u8)) .snil))⟩),
  (140, ⟨.iface true, 1, 16, .nili⟩),
  (141, ⟨.iface true, 1, 16, .nili⟩),
  (143, ⟨.fn, 1, 8, .nilf⟩),
  (144, ⟨.fn, 1, 8, .nilf⟩),
  (145, ⟨.fn, 1, 8, .nilf⟩),
  (146, ⟨.fn, 1, 8, .nilf⟩),
  (147, ⟨.fn, 1, 8, .nilf⟩),
  (148, ⟨.fn, 1, 8, .nilf⟩),
  (149, ⟨.int .i64, 1, 8, (.int .i64)⟩),
  (151, ⟨.fn, 1, 8, .nilf⟩),
  (152, ⟨.fn, 1, 8, .nilf⟩),
  (153, ⟨.fn, 1, 8, .nilf⟩),
  (154, ⟨.fn, 1, 8, .nilf⟩),
  (155, ⟨.int .u32, 1, 4, (.int .u32)⟩),
  (156, ⟨.fn, 1, 8, .nilf⟩),
  (157, ⟨.fn, 1, 8, .nilf⟩),
  (158, ⟨.fn, 1, 8, .nilf⟩),
  (159, ⟨.fn, 1, 8, .nilf⟩),
  (160, ⟨.fn, 1, 8, .nilf⟩),
  (161, ⟨.struct [(3, 0), (3, 1), (3, 2), (3, 3), (9, 4)], 5, 48, (.scons (.int .i64) (.scons (.int .i64) (.scons (.int .i64) (.scons (.int .i64) Kq5))))⟩),
  (162, ⟨.struct [(3, 0), (3, 1), (3, 2), (3, 3), (9, 4)], 5, 48, (.scons (.int .i64) (.scons (.int .i64) (.scons (.int .i64) (.scons (.int .i64) Kq5))))⟩),
  (163, ⟨.fn, 1, 8, .nilf⟩),
  (164, ⟨.arr 7 9, 7, 112, (.arr 7 .str)⟩),
  (165, ⟨.arr 12 9, 12, 192, (.arr 12 .str)⟩),
  (166, ⟨.fn, 1, 8, .nilf⟩),
  (168, ⟨.fn, 1, 8, .nilf⟩),
  (169, ⟨.fn, 1, 8, .nilf⟩),
  (170, ⟨.fn, 1, 8, .nilf⟩),
  (171, ⟨.ptr 5, 1, 8, .nilp⟩),
  (172, ⟨.fn, 1, 8, .nilf⟩),
  (173, ⟨.fn, 1, 8, .nilf⟩),
  (174, ⟨.arr 256 4, 256, 256, (.arr 256 .bool)⟩),
  (175, ⟨.arr 256 4, 256, 256, (.arr 256 .bool)⟩),
  (177, ⟨.fn, 1, 8, .nilf⟩),
  (178, ⟨.fn, 1, 8, .nilf⟩),
  (179, ⟨.ptr 175, 1, 8, .nilp⟩),
  (180, ⟨.slice 117, 1, 24, (.list .nilf)⟩),
  (181, ⟨.int .u64, 1, 8, (.int .u64)⟩),
  (182, ⟨.fn, 1, 8, .nilf⟩),
  (183, ⟨.fn, 1, 8, .nilf⟩),
  (184, ⟨.fn, 1, 8, .nilf⟩),
  (185, ⟨.ptr 3, 1, 8, .nilp⟩),
  (186, ⟨.fn, 1, 8, .nilf⟩),
  (187, ⟨.fn, 1, 8, .nilf⟩),
  (188, ⟨.fn, 1, 8, .nilf⟩),
  (189, ⟨.fn, 1, 8, .nilf⟩),
  (190, ⟨.fn, 1, 8, .nilf⟩),
  (191, ⟨.fn, 1, 8, .nilf⟩),
  (192, ⟨.fn, 1, 8, .nilf⟩),
  (194, ⟨.fn, 1, 8, .nilf⟩),
  (195, ⟨.fn, 1, 8, .nilf⟩),
  (196, ⟨.arr 24 5, 24, 24, (.arr 24 (.int .u8))⟩),
  (197, ⟨.fn, 1, 8, .nilf⟩),
  (199, ⟨.fn, 1, 8, .nilf⟩),
  (201, ⟨.fn, 1, 8, .nilf⟩),
  (202, ⟨.fn, 1, 8, .nilf⟩),
  (203, ⟨.ptr 181, 1, 8, .nilp⟩),
  (204, ⟨.fn, 1, 8, .nilf⟩),
  (205, ⟨.fn, 1, 8, .nilf⟩),
  (207, ⟨.fn, 1, 8, .nilf⟩),
  (208, ⟨.fn, 1, 8, .nilf⟩),
  (209, ⟨.fn, 1, 8, .nilf⟩),
  (210, ⟨.arr 20 113, 20, 160, (.arr 20 (.int .u64))⟩),
  (211, ⟨.arr 65 5, 65, 65, (.arr 65 (.int .u8))⟩),
  (212, ⟨.fn, 1, 8, .nilf⟩),
  (214, ⟨.fn, 1, 8, .nilf⟩),
  (216, ⟨.fn, 1, 8, .nilf⟩),
  (217, ⟨.arr 256 5, 256, 256, (.arr 256 (.int .u8))⟩),
  (218, ⟨.struct [(5, 0), (5, 1)], 2, 2, (.scons (.int .u8) (.scons (.int .u8) .snil))⟩),
  (219, ⟨.struct [(5, 0), (5, 1)], 2, 2, (.scons (.int .u8) (.scons (.int .u8) .snil))⟩),
  (220, ⟨.arr 16 219, 32, 32, (.arr 16 (.scons (.int .u8) (.scons (.int .u8) .snil)))⟩),
  (221, ⟨.fn, 1, 8, .nilf⟩),
  (222, ⟨.fn, 1, 8, .nilf⟩),
  (223, ⟨.arr 32 5, 32, 32, (.arr 32 (.int .u8))⟩),
  (224, ⟨.arr 64 5, 64, 64, (.arr 64 (.int .u8))⟩),
  (227, ⟨.arr 0 16, 0, 0, (.arr 0 .nilp)⟩),
  (230, ⟨.int .u8, 1, 1, (.int .u8)⟩),
  (231, ⟨.int .u8, 1, 1, (.int .u8)⟩),
  (232, ⟨.fn, 1, 8, .nilf⟩),
  (233, ⟨.int .i32, 1, 4, (.int .i32)⟩),
  (234, ⟨.int .i32, 1, 4, (.int .i32)⟩),
  (235, ⟨.struct [(12, 0), (12, 1), (155, 2), (230, 3), (5, 4), (5, 5), (231, 6), (232, 7), (171, 8), (233, 9), (234, 10)], 11, 48, (.scons (.int .u64) (.scons (.int .u64) (.scons (.int .u32) (.scons (.int .u8) (.scons (.int .u8) (.scons (.int .u8) (.scons (.int .u8) (.scons .nilf (.scons .nilp (.scons (.int .i32) (.scons (.int .i32) .snil)))))))))))⟩),
  (236, ⟨.struct [(12, 0), (12, 1), (155, 2), (230, 3), (5, 4), (5, 5), (231, 6), (232, 7), (171, 8), (233, 9), (234, 10)], 11, 48, (.scons (.int .u64) (.scons (.int .u64) (.scons (.int .u32) (.scons (.int .u8) (.scons (.int .u8) (.scons (.int .u8) (.scons (.int .u8) (.scons .nilf (.scons .nilp (.scons (.int .i32) (.scons (.int .i32) .snil)))))))))))⟩)]
def gl : List (Nat × TV) := [(0, ⟨.ref (.arr 7 .str), wbi⟩), (1, ⟨.ref (.arr 12 .str), wbm⟩), (3, ⟨.ref (.arr 20 (.int .u64)), wbs⟩)]
theorem tiOK : ti.all (fun p => tiOK1 Tryz.prog p.1 p.2) = true := by kernel_rfl
theorem mixed : Tryz.prog.follows .mixedOrders = true := Checked.mixed Tryz.checked
theorem kn {E : Dp.Env} (h : E.ti = ti) (hf : FnsOK Tryz.prog E) : Known0 Tryz.prog E := ⟨TIok_of (by rw [h]; exact tiOK), hf, mixed⟩
theorem eqR {α β : Type} {r l : Nat → α → Option β} (t : (α → Option β) → α → Option β) (hs : ∀ n x, r (n + 1) x = t (r n) x) (hl : ∀ n x, l (n + 1) x = t (l n) x) (h0 : ∀ x, r 0 x = l 0 x) : ∀ n, r n = l n
  | 0 => funext h0
  | n + 1 => funext fun x => by rw [hs, hl, eqR t hs hl h0 n]
def joinS.spec : Dp.Spec := joinSpec
theorem joinS.contract : Contract Tryz.prog gl 97 joinS.spec := wcD
def itoa.spec : Dp.Spec := itoaSpec
theorem itoa.contract : Contract Tryz.prog gl 101 itoa.spec := wcS (g := 3) (n := 20) (by kernel_rfl) (by kernel_rfl)
def items_Unquote.spec : Dp.Spec := unquoteSpec
theorem items_Unquote.contract : Contract Tryz.prog gl 134 items_Unquote.spec := wbD
def asciiSet.spec : Dp.Spec := asciiSetSpec
theorem asciiSet.contract : Contract Tryz.prog gl 194 asciiSet.spec := wb9
def ixb.spec : Dp.Spec := indexByteSpec
theorem ixb.contract : Contract Tryz.prog gl 208 ixb.spec := indexByte_contract Tryz.func208 (by decide +kernel) rfl (by kernel_rfl) (by kernel_rfl)
def repeatS.spec : Dp.Spec := repeatSpec
theorem repeatS.contract : Contract Tryz.prog gl 214 repeatS.spec := wck
def wk_.spec : Dp.Spec := ⟨(.scons (.list Kq2) (.scons (.int .i64) Kq3)), .bool, false, fun K x => wk_ K x.1 x.2.1 x.2.2.1⟩
def wk_.hint : Dp.Hint := { n := 41, regions := [(2, [(.normal, { regs := [(0, (.list Kq2)), (1, (.int .i64)), (2, (.int .i64)), (7, (.int .i64)), (16, .bool)] })]), (4, [(.normal, { regs := [(0, (.list Kq2)), (1, (.int .i64)), (2, (.int .i64)), (7, (.int .i64)), (36, .bool)] })])], loops := [(2, { regs := [(0, (.list Kq2)), (1, (.int .i64)), (2, (.int .i64)), (7, (.int .i64))] }, [(.exit 0, { regs := [(0, (.list Kq2)), (1, (.int .i64))] }), (.ret, { regs := [(6, .bool)] })])] }
noncomputable def wk_.env : Dp.Env := ⟨ti, gl, [], [], [(11, Tryz.f11, wk_.hint)], [], 0, 40⟩
noncomputable def wk_.r0 (K : Nat) : Nat → (((List Jq1) × ((Int) × Jq2)) × (Unit)) → Option ((((List Jq1) × Jq7) × (Unit)) ⊕ (Jq6 × (Unit))) :=
  loopV [(.exit 0, { regs := [(0, (.list Kq2)), (1, (.int .i64))] }), (.ret, { regs := [(6, .bool)] })] { regs := [(0, (.list Kq2)), (1, (.int .i64)), (2, (.int .i64)), (7, (.int .i64))] } (interp (wk_.env.at K) wk_.hint (callF (wk_.env.at K) 7) (Code.sub [1, 0, 1, 0, 0] (Tryz.f11.body.getD .skip)) _)
theorem wk_.s0 (K n : Nat) (x : (((List Jq1) × ((Int) × Jq2)) × (Unit))) : wk_.r0 K (n + 1) x = wk_.t0 K (wk_.r0 K n) x := by kernel_rfl
theorem wk_.e0 (K n : Nat) : wk_.r0 K n = wk_.l0 K n := eqR (l := wk_.l0 K) _ (wk_.s0 K) (fun _ _ => rfl) (fun _ => rfl) n
theorem wk_.body_eq (K : Nat) (x : wk_.spec.args.den) : body (wk_.env.at K) 8 11 wk_.spec x = wk_.tr (wk_.r0 K) K x.1 x.2.1 x.2.2.1 := by kernel_rfl
theorem wk_.contract : Contract Tryz.prog gl 11 wk_.spec :=
  contract_of (E := wk_.env) (kn rfl (FnsOK_of ⟨⟨Tryz.func11, Tryz.call11⟩, trivial⟩)) (SpecsOK_of trivial) Tryz.call11 rfl rfl fun K x r h => by
    rw [wk_.body_eq, show wk_.r0 K = wk_.l0 K from funext (wk_.e0 K)]; exact h
def wt_.spec : Dp.Spec := ⟨(.scons (.scons (.int .i64) (.scons .str (.scons (.int .i64) (.scons (.list Kq2) Kq5)))) Kq3), .bool, false, fun K x => wt_ K x.1 x.2.1⟩
def wt_.hint : Dp.Hint := { n := 23, imm := [2] }
noncomputable def wt_.env : Dp.Env := ⟨ti, gl, [], [], [(33, Tryz.f33, wt_.hint)], [(11, wk_.spec)], 0, 40⟩
theorem wt_.body_eq (K : Nat) (x : wt_.spec.args.den) : body (wt_.env.at K) 8 33 wt_.spec x = wt_ K x.1 x.2.1 := by kernel_rfl
theorem wt_.contract : Contract Tryz.prog gl 33 wt_.spec :=
  contract_of (E := wt_.env) (kn rfl (FnsOK_of ⟨⟨Tryz.func33, Tryz.call33⟩, trivial⟩)) (SpecsOK_of ⟨wk_.contract, trivial⟩) Tryz.call33 rfl rfl fun K x r h => by
    rw [wt_.body_eq]; exact h
def wU_.spec : Dp.Spec := ⟨Kq5, (.fn 131 (.scons (.ref .str) .snil)), false, fun K x => wU_ K x.1⟩
def wU_.hint : Dp.Hint := { n := 4, imm := [1] }
noncomputable def wU_.env : Dp.Env := ⟨ti, gl, [], [], [(93, Tryz.f93, wU_.hint)], [], 0, 40⟩
theorem wU_.body_eq (K : Nat) (x : wU_.spec.args.den) : body (wU_.env.at K) 8 93 wU_.spec x = wU_ K x.1 := by kernel_rfl
theorem wU_.contract : Contract Tryz.prog gl 93 wU_.spec :=
  contract_of (E := wU_.env) (kn rfl (FnsOK_of ⟨⟨Tryz.func93, Tryz.call93⟩, trivial⟩)) (SpecsOK_of trivial) Tryz.call93 rfl rfl fun K x r h => by
    rw [wU_.body_eq]; exact h
def wP_.spec : Dp.Spec := ⟨(.scons (.int .u8) (.scons (.int .u8) .snil)), Kq4, false, fun K x => wP_ K x.1 x.2.1⟩
def wP_.hint : Dp.Hint := { n := 6, imm := [2, 3] }
noncomputable def wP_.env : Dp.Env := ⟨ti, gl, [], [], [(107, Tryz.f107, wP_.hint)], [], 0, 40⟩
theorem wP_.body_eq (K : Nat) (x : wP_.spec.args.den) : body (wP_.env.at K) 8 107 wP_.spec x = wP_ K x.1 x.2.1 := by kernel_rfl
theorem wP_.contract : Contract Tryz.prog gl 107 wP_.spec :=
  contract_of (E := wP_.env) (kn rfl (FnsOK_of ⟨⟨Tryz.func107, Tryz.call107⟩, trivial⟩)) (SpecsOK_of trivial) Tryz.call107 rfl rfl fun K x r h => by
    rw [wP_.body_eq]; exact h
def wD_.spec : Dp.Spec := ⟨(.scons (.int .u8) (.scons (.ref (.int .u8)) (.scons (.ref (.int .u8)) .snil))), .bool, false, fun K x => wD_ K x.1 x.2.1 x.2.2.1⟩
def wD_.hint : Dp.Hint := { n := 13 }
noncomputable def wD_.env : Dp.Env := ⟨ti, gl, [], [], [(156, Tryz.f156, wD_.hint)], [], 0, 40⟩
theorem wD_.body_eq (K : Nat) (x : wD_.spec.args.den) : body (wD_.env.at K) 8 156 wD_.spec x = wD_ K x.1 x.2.1 x.2.2.1 := by kernel_rfl
theorem wD_.contract : Contract Tryz.prog gl 156 wD_.spec :=
  contract_of (E := wD_.env) (kn rfl (FnsOK_of ⟨⟨Tryz.func156, Tryz.call156⟩, trivial⟩)) (SpecsOK_of trivial) Tryz.call156 rfl rfl fun K x r h => by
    rw [wD_.body_eq]; exact h
def wp_.spec : Dp.Spec := ⟨Kq5, .str, false, fun K x => wp_ K x.1⟩
def wp_.hint : Dp.Hint := { n := 29, conds := [(19, [(.normal, { regs := [(3, Kq4), (4, (.slw 0)), (10, (.slw 0)), (11, (.int .i64)), (12, (.int .i64))], heap := [(.row (.int .u8))] })])], loops := [(4, { regs := [(3, Kq4), (4, (.slw 0)), (10, (.slw 0)), (11, (.int .i64)), (12, (.int .i64))], heap := [(.row (.int .u8))] }, [(.exit 0, { regs := [(4, (.slw 0))], heap := [(.row (.int .u8))] })])], own := [9] }
noncomputable def wp_.env : Dp.Env := ⟨ti, gl, [], [], [(71, Tryz.f71, wp_.hint)], [(107, wP_.spec), (156, wD_.spec)], 0, 40⟩
noncomputable def wp_.r0 (K : Nat) : Nat → ((Jq2 × ((Unit) × ((Unit) × Jq2))) × ((List (Int)) × (Unit))) → Option ((((Unit) × (Unit)) × ((List (Int)) × (Unit)))) :=
  loopV [(.exit 0, { regs := [(4, (.slw 0))], heap := [(.row (.int .u8))] })] { regs := [(3, Kq4), (4, (.slw 0)), (10, (.slw 0)), (11, (.int .i64)), (12, (.int .i64))], heap := [(.row (.int .u8))] } (interp (wp_.env.at K) wp_.hint (callF (wp_.env.at K) 7) (Code.sub [1, 1, 1, 0, 1, 0, 0] (Tryz.f71.body.getD .skip)) _)
theorem wp_.s0 (K n : Nat) (x : ((Jq2 × ((Unit) × ((Unit) × Jq2))) × ((List (Int)) × (Unit)))) : wp_.r0 K (n + 1) x = wp_.t0 K (wp_.r0 K n) x := by kernel_rfl
theorem wp_.e0 (K n : Nat) : wp_.r0 K n = wp_.l0 K n := eqR (l := wp_.l0 K) _ (wp_.s0 K) (fun _ _ => rfl) (fun _ => rfl) n
theorem wp_.body_eq (K : Nat) (x : wp_.spec.args.den) : body (wp_.env.at K) 8 71 wp_.spec x = wp_.tr (wp_.r0 K) K x.1 := by kernel_rfl
theorem wp_.contract : Contract Tryz.prog gl 71 wp_.spec :=
  contract_of (E := wp_.env) (kn rfl (FnsOK_of ⟨⟨Tryz.func71, Tryz.call71⟩, trivial⟩)) (SpecsOK_of ⟨wP_.contract, wD_.contract, trivial⟩) Tryz.call71 rfl rfl fun K x r h => by
    rw [wp_.body_eq, show wp_.r0 K = wp_.l0 K from funext (wp_.e0 K)]; exact h
def wba.spec : Dp.Spec := ⟨Kq2, .bool, false, fun K x => wba K x.1 x.2.1⟩
def wba.hint : Dp.Hint := { n := 17 }
noncomputable def wba.env : Dp.Env := ⟨ti, gl, [], [], [(132, Tryz.f132, wba.hint)], [(71, wp_.spec)], 0, 40⟩
theorem wba.body_eq (K : Nat) (x : wba.spec.args.den) : body (wba.env.at K) 8 132 wba.spec x = wba K x.1 x.2.1 := by kernel_rfl
theorem wba.contract : Contract Tryz.prog gl 132 wba.spec :=
  contract_of (E := wba.env) (kn rfl (FnsOK_of ⟨⟨Tryz.func132, Tryz.call132⟩, trivial⟩)) (SpecsOK_of ⟨wp_.contract, trivial⟩) Tryz.call132 rfl rfl fun K x r h => by
    rw [wba.body_eq]; exact h
def wF_.spec : Dp.Spec := ⟨(.scons Kq2 (.scons (.ref .str) .snil)), .bool, false, fun K x => wF_ K x.1 x.2.1⟩
def wF_.hint : Dp.Hint := { n := 8, imm := [2] }
noncomputable def wF_.env : Dp.Env := ⟨ti, gl, [], [], [(131, Tryz.f131, wF_.hint)], [(132, wba.spec)], 0, 40⟩
theorem wF_.body_eq (K : Nat) (x : wF_.spec.args.den) : body (wF_.env.at K) 8 131 wF_.spec x = wF_ K x.1 x.2.1 := by kernel_rfl
theorem wF_.contract : Contract Tryz.prog gl 131 wF_.spec :=
  contract_of (E := wF_.env) (kn rfl (FnsOK_of ⟨⟨Tryz.func131, Tryz.call131⟩, trivial⟩)) (SpecsOK_of ⟨wba.contract, trivial⟩) Tryz.call131 rfl rfl fun K x r h => by
    rw [wF_.body_eq]; exact h
def wc_.spec : Dp.Spec := ⟨(.scons (.list Kq2) (.scons (.fn 131 (.scons (.ref .str) .snil)) .snil)), (.list Kq2), false, fun K x => wc_ K x.1 x.2.1⟩
def wc_.hint : Dp.Hint := { n := 23, conds := [(16, [(.normal, { regs := [(1, (.fn 131 (.scons (.ref .str) .snil))), (5, (.slw 1)), (8, (.list Kq2)), (9, (.int .i64)), (10, (.int .i64))], heap := [(.row Kq2), (.row Kq2), Kq2], app := [1] })])], loops := [(3, { regs := [(1, (.fn 131 (.scons (.ref .str) .snil))), (5, (.slw 1)), (8, (.list Kq2)), (9, (.int .i64)), (10, (.int .i64))], heap := [(.row Kq2), (.row Kq2)], app := [1] }, [(.exit 0, { regs := [(5, (.slw 1))], heap := [(.row Kq2), (.row Kq2)], app := [1] })])], own := [4, 5] }
noncomputable def wc_.env : Dp.Env := ⟨ti, gl, [], [], [(92, Tryz.f92, wc_.hint)], [(131, wF_.spec)], 0, 40⟩
noncomputable def wc_.r0 (K : Nat) : Nat → ((Jq5 × ((Unit) × ((List Jq1) × Jq2))) × ((List Jq1) × ((List Jq1) × (Unit)))) → Option ((((Unit) × (Unit)) × ((List Jq1) × ((List Jq1) × (Unit))))) :=
  loopV [(.exit 0, { regs := [(5, (.slw 1))], heap := [(.row Kq2), (.row Kq2)], app := [1] })] { regs := [(1, (.fn 131 (.scons (.ref .str) .snil))), (5, (.slw 1)), (8, (.list Kq2)), (9, (.int .i64)), (10, (.int .i64))], heap := [(.row Kq2), (.row Kq2)], app := [1] } (interp (wc_.env.at K) wc_.hint (callF (wc_.env.at K) 7) (Code.sub [1, 1, 0, 1, 0, 0] (Tryz.f92.body.getD .skip)) _)
theorem wc_.s0 (K n : Nat) (x : ((Jq5 × ((Unit) × ((List Jq1) × Jq2))) × ((List Jq1) × ((List Jq1) × (Unit))))) : wc_.r0 K (n + 1) x = wc_.t0 K (wc_.r0 K n) x := by kernel_rfl
theorem wc_.e0 (K n : Nat) : wc_.r0 K n = wc_.l0 K n := eqR (l := wc_.l0 K) _ (wc_.s0 K) (fun _ _ => rfl) (fun _ => rfl) n
theorem wc_.body_eq (K : Nat) (x : wc_.spec.args.den) : body (wc_.env.at K) 8 92 wc_.spec x = wc_.tr (wc_.r0 K) K x.1 x.2.1 := by kernel_rfl
theorem wc_.contract : Contract Tryz.prog gl 92 wc_.spec :=
  contract_of (E := wc_.env) (kn rfl (FnsOK_of ⟨⟨Tryz.func92, Tryz.call92⟩, trivial⟩)) (SpecsOK_of ⟨wF_.contract, trivial⟩) Tryz.call92 rfl rfl fun K x r h => by
    rw [wc_.body_eq, show wc_.r0 K = wc_.l0 K from funext (wc_.e0 K)]; exact h
def wq_.spec : Dp.Spec := ⟨(.scons (.list Kq2) Kq5), (.list .str), false, fun K x => wq_ K x.1 x.2.1⟩
def wq_.hint : Dp.Hint := { n := 24, loops := [(3, { regs := [(5, (.slw 1)), (11, (.list Kq2)), (12, (.int .i64)), (13, (.int .i64))], heap := [(.row .str), (.row .str)], app := [1] }, [(.exit 0, { regs := [(5, (.slw 1))], heap := [(.row .str), (.row .str)], app := [1] })])], own := [4, 5] }
noncomputable def wq_.env : Dp.Env := ⟨ti, gl, [], [], [(53, Tryz.f53, wq_.hint)], [(93, wU_.spec), (92, wc_.spec)], 0, 40⟩
noncomputable def wq_.r0 (K : Nat) : Nat → (((Unit) × ((List Jq1) × Jq2)) × Jq16) → Option ((((Unit) × (Unit)) × Jq16)) :=
  loopV [(.exit 0, { regs := [(5, (.slw 1))], heap := [(.row .str), (.row .str)], app := [1] })] { regs := [(5, (.slw 1)), (11, (.list Kq2)), (12, (.int .i64)), (13, (.int .i64))], heap := [(.row .str), (.row .str)], app := [1] } (interp (wq_.env.at K) wq_.hint (callF (wq_.env.at K) 7) (Code.sub [1, 1, 0, 1, 0, 0] (Tryz.f53.body.getD .skip)) _)
theorem wq_.s0 (K n : Nat) (x : (((Unit) × ((List Jq1) × Jq2)) × Jq16)) : wq_.r0 K (n + 1) x = wq_.t0 K (wq_.r0 K n) x := by kernel_rfl
theorem wq_.e0 (K n : Nat) : wq_.r0 K n = wq_.l0 K n := eqR (l := wq_.l0 K) _ (wq_.s0 K) (fun _ _ => rfl) (fun _ => rfl) n
theorem wq_.body_eq (K : Nat) (x : wq_.spec.args.den) : body (wq_.env.at K) 8 53 wq_.spec x = wq_.tr (wq_.r0 K) K x.1 x.2.1 := by kernel_rfl
theorem wq_.contract : Contract Tryz.prog gl 53 wq_.spec :=
  contract_of (E := wq_.env) (kn rfl (FnsOK_of ⟨⟨Tryz.func53, Tryz.call53⟩, trivial⟩)) (SpecsOK_of ⟨wU_.contract, wc_.contract, trivial⟩) Tryz.call53 rfl rfl fun K x r h => by
    rw [wq_.body_eq, show wq_.r0 K = wq_.l0 K from funext (wq_.e0 K)]; exact h
def wv_.spec : Dp.Spec := ⟨(.scons .str (.scons (.int .u8) .snil)), (.int .i64), false, fun K x => wv_ K x.1 x.2.1⟩
def wv_.hint : Dp.Hint := { n := 8 }
noncomputable def wv_.env : Dp.Env := ⟨ti, gl, [], [], [(171, Tryz.f171, wv_.hint)], [(208, ixb.spec)], 0, 40⟩
theorem wv_.body_eq (K : Nat) (x : wv_.spec.args.den) : body (wv_.env.at K) 8 171 wv_.spec x = wv_ K x.1 x.2.1 := by kernel_rfl
theorem wv_.contract : Contract Tryz.prog gl 171 wv_.spec :=
  contract_of (E := wv_.env) (kn rfl (FnsOK_of ⟨⟨Tryz.func171, Tryz.call171⟩, trivial⟩)) (SpecsOK_of ⟨ixb.contract, trivial⟩) Tryz.call171 rfl rfl fun K x r h => by
    rw [wv_.body_eq]; exact h
def wu_.spec : Dp.Spec := ⟨(.scons .str (.scons (.int .u8) .snil)), (.int .i64), false, fun K x => wu_ K x.1 x.2.1⟩
def wu_.hint : Dp.Hint := { n := 8 }
noncomputable def wu_.env : Dp.Env := ⟨ti, gl, [], [], [(118, Tryz.f118, wu_.hint)], [(171, wv_.spec)], 0, 40⟩
theorem wu_.body_eq (K : Nat) (x : wu_.spec.args.den) : body (wu_.env.at K) 8 118 wu_.spec x = wu_ K x.1 x.2.1 := by kernel_rfl
theorem wu_.contract : Contract Tryz.prog gl 118 wu_.spec :=
  contract_of (E := wu_.env) (kn rfl (FnsOK_of ⟨⟨Tryz.func118, Tryz.call118⟩, trivial⟩)) (SpecsOK_of ⟨wv_.contract, trivial⟩) Tryz.call118 rfl rfl fun K x r h => by
    rw [wu_.body_eq]; exact h
def wI_.spec : Dp.Spec := ⟨(.scons (.int .i64) (.scons (.int .i64) (.scons (.ref .str) .snil))), .str, false, fun K x => wI_ K x.1 x.2.1 x.2.2.1⟩
def wI_.hint : Dp.Hint := { n := 18 }
noncomputable def wI_.env : Dp.Env := ⟨ti, gl, [], [], [(172, Tryz.f172, wI_.hint)], [], 0, 40⟩
theorem wI_.body_eq (K : Nat) (x : wI_.spec.args.den) : body (wI_.env.at K) 8 172 wI_.spec x = wI_ K x.1 x.2.1 x.2.2.1 := by kernel_rfl
theorem wI_.contract : Contract Tryz.prog gl 172 wI_.spec :=
  contract_of (E := wI_.env) (kn rfl (FnsOK_of ⟨⟨Tryz.func172, Tryz.call172⟩, trivial⟩)) (SpecsOK_of trivial) Tryz.call172 rfl rfl fun K x r h => by
    rw [wI_.body_eq]; exact h
def wf_.spec : Dp.Spec := ⟨(.scons .str (.scons (.int .u8) .snil)), .str, false, fun K x => wf_ K x.1 x.2.1⟩
def wf_.hint : Dp.Hint := { n := 17, regions := [(1, [(.normal, { regs := [(0, .str), (1, (.int .u8)), (13, .bool)] })])], loops := [(1, { regs := [(0, .str), (1, (.int .u8))] }, [(.exit 0, { regs := [(0, .str)] })])] }
noncomputable def wf_.env : Dp.Env := ⟨ti, gl, [], [], [(192, Tryz.f192, wf_.hint)], [], 0, 40⟩
noncomputable def wf_.r0 (K : Nat) : Nat → (((List UInt8) × Jq7) × (Unit)) → Option ((Jq5 × (Unit))) :=
  loopV [(.exit 0, { regs := [(0, .str)] })] { regs := [(0, .str), (1, (.int .u8))] } (interp (wf_.env.at K) wf_.hint (callF (wf_.env.at K) 7) (Code.sub [1, 0, 0, 0] (Tryz.f192.body.getD .skip)) _)
theorem wf_.s0 (K n : Nat) (x : (((List UInt8) × Jq7) × (Unit))) : wf_.r0 K (n + 1) x = wf_.t0 K (wf_.r0 K n) x := by kernel_rfl
theorem wf_.e0 (K n : Nat) : wf_.r0 K n = wf_.l0 K n := eqR (l := wf_.l0 K) _ (wf_.s0 K) (fun _ _ => rfl) (fun _ => rfl) n
theorem wf_.body_eq (K : Nat) (x : wf_.spec.args.den) : body (wf_.env.at K) 8 192 wf_.spec x = wf_.tr (wf_.r0 K) K x.1 x.2.1 := by kernel_rfl
theorem wf_.contract : Contract Tryz.prog gl 192 wf_.spec :=
  contract_of (E := wf_.env) (kn rfl (FnsOK_of ⟨⟨Tryz.func192, Tryz.call192⟩, trivial⟩)) (SpecsOK_of trivial) Tryz.call192 rfl rfl fun K x r h => by
    rw [wf_.body_eq, show wf_.r0 K = wf_.l0 K from funext (wf_.e0 K)]; exact h
def wn_.spec : Dp.Spec := ⟨(.scons (.ref (.arr 256 .bool)) (.scons (.int .u8) .snil)), .bool, false, fun K x => wn_ K x.1 x.2.1⟩
def wn_.hint : Dp.Hint := { n := 10 }
noncomputable def wn_.env : Dp.Env := ⟨ti, gl, [], [], [(224, Tryz.f224, wn_.hint)], [], 0, 40⟩
theorem wn_.body_eq (K : Nat) (x : wn_.spec.args.den) : body (wn_.env.at K) 8 224 wn_.spec x = wn_ K x.1 x.2.1 := by kernel_rfl
theorem wn_.contract : Contract Tryz.prog gl 224 wn_.spec :=
  contract_of (E := wn_.env) (kn rfl (FnsOK_of ⟨⟨Tryz.func224, Tryz.call224⟩, trivial⟩)) (SpecsOK_of trivial) Tryz.call224 rfl rfl fun K x r h => by
    rw [wn_.body_eq]; exact h
def wd_.spec : Dp.Spec := ⟨(.scons .str (.scons (.ref (.arr 256 .bool)) .snil)), .str, false, fun K x => wd_ K x.1 x.2.1⟩
def wd_.hint : Dp.Hint := { n := 16, loops := [(1, { regs := [(0, .str), (1, (.ref (.arr 256 .bool)))] }, [(.exit 0, { regs := [(0, .str)] })])] }
noncomputable def wd_.env : Dp.Env := ⟨ti, gl, [], [], [(195, Tryz.f195, wd_.hint)], [(224, wn_.spec)], 0, 40⟩
noncomputable def wd_.r0 (K : Nat) : Nat → Jq17 → Option ((Jq5 × (Unit))) :=
  loopV [(.exit 0, { regs := [(0, .str)] })] { regs := [(0, .str), (1, (.ref (.arr 256 .bool)))] } (interp (wd_.env.at K) wd_.hint (callF (wd_.env.at K) 7) (Code.sub [1, 0, 0, 0] (Tryz.f195.body.getD .skip)) _)
theorem wd_.s0 (K n : Nat) (x : Jq17) : wd_.r0 K (n + 1) x = wd_.t0 K (wd_.r0 K n) x := by kernel_rfl
theorem wd_.e0 (K n : Nat) : wd_.r0 K n = wd_.l0 K n := eqR (l := wd_.l0 K) _ (wd_.s0 K) (fun _ _ => rfl) (fun _ => rfl) n
theorem wd_.body_eq (K : Nat) (x : wd_.spec.args.den) : body (wd_.env.at K) 8 195 wd_.spec x = wd_.tr (wd_.r0 K) K x.1 x.2.1 := by kernel_rfl
theorem wd_.contract : Contract Tryz.prog gl 195 wd_.spec :=
  contract_of (E := wd_.env) (kn rfl (FnsOK_of ⟨⟨Tryz.func195, Tryz.call195⟩, trivial⟩)) (SpecsOK_of ⟨wn_.contract, trivial⟩) Tryz.call195 rfl rfl fun K x r h => by
    rw [wd_.body_eq, show wd_.r0 K = wd_.l0 K from funext (wd_.e0 K)]; exact h
def wH_.spec : Dp.Spec := ⟨Kq2, .str, false, fun K x => wH_ K x.1 x.2.1⟩
def wH_.hint : Dp.Hint := { n := 37, regions := [(1, [(.normal, { regs := [(0, .str), (1, .str), (12, .bool)] })]), (3, [(.normal, { regs := [(0, .str), (1, .str), (21, .bool)] })])] }
noncomputable def wH_.env : Dp.Env := ⟨ti, gl, [], [], [(210, Tryz.f210, wH_.hint)], [(192, wf_.spec), (195, wd_.spec), (194, asciiSet.spec)], 0, 40⟩
theorem wH_.body_eq (K : Nat) (x : wH_.spec.args.den) : body (wH_.env.at K) 8 210 wH_.spec x = wH_ K x.1 x.2.1 := by kernel_rfl
theorem wH_.contract : Contract Tryz.prog gl 210 wH_.spec :=
  contract_of (E := wH_.env) (kn rfl (FnsOK_of ⟨⟨Tryz.func210, Tryz.call210⟩, trivial⟩)) (SpecsOK_of ⟨wf_.contract, wd_.contract, asciiSet.contract, trivial⟩) Tryz.call210 rfl rfl fun K x r h => by
    rw [wH_.body_eq]; exact h
def wG_.spec : Dp.Spec := ⟨(.scons (.int .i32) Kq3), (.int .i64), false, fun K x => wG_ K x.1 x.2.1⟩
def wG_.hint : Dp.Hint := { n := 42, conds := [(6, [(.normal, { regs := [(1, (.int .i64)), (5, (.int .i64))] })]), (16, [(.normal, { regs := [(1, (.int .i64)), (5, (.int .i64))] })]), (27, [(.normal, { regs := [(1, (.int .i64)), (5, (.int .i64))] })])], regions := [(2, [(.normal, { regs := [(0, (.int .i32)), (1, (.int .i64)), (5, (.int .i64)), (6, .bool)] })]), (4, [(.normal, { regs := [(0, (.int .i32)), (1, (.int .i64)), (5, (.int .i64)), (16, .bool)] })]), (6, [(.normal, { regs := [(0, (.int .i32)), (1, (.int .i64)), (5, (.int .i64)), (27, .bool)] })])] }
noncomputable def wG_.env : Dp.Env := ⟨ti, gl, [], [], [(128, Tryz.f128, wG_.hint)], [], 0, 40⟩
theorem wG_.body_eq (K : Nat) (x : wG_.spec.args.den) : body (wG_.env.at K) 8 128 wG_.spec x = wG_ K x.1 x.2.1 := by kernel_rfl
theorem wG_.contract : Contract Tryz.prog gl 128 wG_.spec :=
  contract_of (E := wG_.env) (kn rfl (FnsOK_of ⟨⟨Tryz.func128, Tryz.call128⟩, trivial⟩)) (SpecsOK_of trivial) Tryz.call128 rfl rfl fun K x r h => by
    rw [wG_.body_eq]; exact h
def ws_.spec : Dp.Spec := ⟨(.scons .str (.scons (.int .i64) (.scons (.int .i64) Kq3))), (.tup (.scons (.int .i64) Kq3)), false, fun K x => ws_ K x.1 x.2.1 x.2.2.1 x.2.2.2.1⟩
def ws_.hint : Dp.Hint := { n := 41, regions := [(1, [(.normal, { regs := [(0, .str), (1, (.int .i64)), (3, (.int .i64)), (21, .bool)] })])], loops := [(5, { regs := [(1, (.int .i64)), (3, (.int .i64)), (10, (.int .i64)), (23, (.loc 0 false []))], heap := [.iter] }, [(.exit 0, { regs := [(3, (.int .i64)), (10, (.int .i64))], heap := [.iter] }), (.ret, { regs := [(8, (.int .i64)), (9, (.int .i64))], heap := [.iter] })])] }
noncomputable def ws_.env : Dp.Env := ⟨ti, gl, [], [], [(231, Tryz.f231, ws_.hint)], [(128, wG_.spec)], 0, 40⟩
noncomputable def ws_.r0 (K : Nat) : Nat → (((Int) × ((Int) × ((Int) × Jq11))) × Jq9) → Option ((Jq2 × Jq9) ⊕ (Jq2 × Jq9)) :=
  loopV [(.exit 0, { regs := [(3, (.int .i64)), (10, (.int .i64))], heap := [.iter] }), (.ret, { regs := [(8, (.int .i64)), (9, (.int .i64))], heap := [.iter] })] { regs := [(1, (.int .i64)), (3, (.int .i64)), (10, (.int .i64)), (23, (.loc 0 false []))], heap := [.iter] } (interp (ws_.env.at K) ws_.hint (callF (ws_.env.at K) 7) (Code.sub [1, 1, 1, 0, 1, 0, 0] (Tryz.f231.body.getD .skip)) _)
theorem ws_.s0 (K n : Nat) (x : (((Int) × ((Int) × ((Int) × Jq11))) × Jq9)) : ws_.r0 K (n + 1) x = ws_.t0 K (ws_.r0 K n) x := by kernel_rfl
theorem ws_.e0 (K n : Nat) : ws_.r0 K n = ws_.l0 K n := eqR (l := ws_.l0 K) _ (ws_.s0 K) (fun _ _ => rfl) (fun _ => rfl) n
theorem ws_.body_eq (K : Nat) (x : ws_.spec.args.den) : body (ws_.env.at K) 8 231 ws_.spec x = ws_.tr (ws_.r0 K) K x.1 x.2.1 x.2.2.1 x.2.2.2.1 := by kernel_rfl
theorem ws_.contract : Contract Tryz.prog gl 231 ws_.spec :=
  contract_of (E := ws_.env) (kn rfl (FnsOK_of ⟨⟨Tryz.func231, Tryz.call231⟩, trivial⟩)) (SpecsOK_of ⟨wG_.contract, trivial⟩) Tryz.call231 rfl rfl fun K x r h => by
    rw [ws_.body_eq, show ws_.r0 K = ws_.l0 K from funext (ws_.e0 K)]; exact h
def wN_.spec : Dp.Spec := ⟨(.scons .str Kq3), (.tup (.scons (.int .i64) Kq3)), false, fun K x => wN_ K x.1 x.2.1⟩
def wN_.hint : Dp.Hint := { n := 11 }
noncomputable def wN_.env : Dp.Env := ⟨ti, gl, [], [], [(209, Tryz.f209, wN_.hint)], [(231, ws_.spec)], 0, 40⟩
theorem wN_.body_eq (K : Nat) (x : wN_.spec.args.den) : body (wN_.env.at K) 8 209 wN_.spec x = wN_ K x.1 x.2.1 := by kernel_rfl
theorem wN_.contract : Contract Tryz.prog gl 209 wN_.spec :=
  contract_of (E := wN_.env) (kn rfl (FnsOK_of ⟨⟨Tryz.func209, Tryz.call209⟩, trivial⟩)) (SpecsOK_of ⟨ws_.contract, trivial⟩) Tryz.call209 rfl rfl fun K x r h => by
    rw [wN_.body_eq]; exact h
def wS_.spec : Dp.Spec := ⟨Kq5, (.int .i64), false, fun K x => wS_ K x.1⟩
def wS_.hint : Dp.Hint := { n := 14 }
noncomputable def wS_.env : Dp.Env := ⟨ti, gl, [], [], [(173, Tryz.f173, wS_.hint)], [(210, wH_.spec), (209, wN_.spec)], 0, 40⟩
theorem wS_.body_eq (K : Nat) (x : wS_.spec.args.den) : body (wS_.env.at K) 8 173 wS_.spec x = wS_ K x.1 := by kernel_rfl
theorem wS_.contract : Contract Tryz.prog gl 173 wS_.spec :=
  contract_of (E := wS_.env) (kn rfl (FnsOK_of ⟨⟨Tryz.func173, Tryz.call173⟩, trivial⟩)) (SpecsOK_of ⟨wH_.contract, wN_.contract, trivial⟩) Tryz.call173 rfl rfl fun K x r h => by
    rw [wS_.body_eq]; exact h
def wV_.spec : Dp.Spec := ⟨Kq3, (.int .i64), false, fun K x => wV_ K x.1⟩
def wV_.hint : Dp.Hint := { n := 9 }
noncomputable def wV_.env : Dp.Env := ⟨ti, gl, [], [], [(174, Tryz.f174, wV_.hint)], [], 0, 40⟩
theorem wV_.body_eq (K : Nat) (x : wV_.spec.args.den) : body (wV_.env.at K) 8 174 wV_.spec x = wV_ K x.1 := by kernel_rfl
theorem wV_.contract : Contract Tryz.prog gl 174 wV_.spec :=
  contract_of (E := wV_.env) (kn rfl (FnsOK_of ⟨⟨Tryz.func174, Tryz.call174⟩, trivial⟩)) (SpecsOK_of trivial) Tryz.call174 rfl rfl fun K x r h => by
    rw [wV_.body_eq]; exact h
def wy_.spec : Dp.Spec := ⟨Kq5, (.int .i64), false, fun K x => wy_ K x.1⟩
def wy_.hint : Dp.Hint := { n := 16, loops := [(2, { regs := [(0, .str), (5, (.arr 12 .str)), (6, (.int .i64))] }, [(.exit 0, { regs := [] }), (.ret, { regs := [(2, (.int .i64))] })])] }
noncomputable def wy_.env : Dp.Env := ⟨ti, gl, [], [], [(176, Tryz.f176, wy_.hint)], [], 0, 40⟩
noncomputable def wy_.r0 (K : Nat) : Nat → (((List UInt8) × ((List (List UInt8)) × Jq7)) × (Unit)) → Option (((Unit) × (Unit)) ⊕ (Jq7 × (Unit))) :=
  loopV [(.exit 0, { regs := [] }), (.ret, { regs := [(2, (.int .i64))] })] { regs := [(0, .str), (5, (.arr 12 .str)), (6, (.int .i64))] } (interp (wy_.env.at K) wy_.hint (callF (wy_.env.at K) 7) (Code.sub [1, 0, 1, 0, 0] (Tryz.f176.body.getD .skip)) _)
theorem wy_.s0 (K n : Nat) (x : (((List UInt8) × ((List (List UInt8)) × Jq7)) × (Unit))) : wy_.r0 K (n + 1) x = wy_.t0 K (wy_.r0 K n) x := by kernel_rfl
theorem wy_.e0 (K n : Nat) : wy_.r0 K n = wy_.l0 K n := eqR (l := wy_.l0 K) _ (wy_.s0 K) (fun _ _ => rfl) (fun _ => rfl) n
theorem wy_.body_eq (K : Nat) (x : wy_.spec.args.den) : body (wy_.env.at K) 8 176 wy_.spec x = wy_.tr (wy_.r0 K) K x.1 := by kernel_rfl
theorem wy_.contract : Contract Tryz.prog gl 176 wy_.spec :=
  contract_of (E := wy_.env) (kn rfl (FnsOK_of ⟨⟨Tryz.func176, Tryz.call176⟩, trivial⟩)) (SpecsOK_of trivial) Tryz.call176 rfl rfl fun K x r h => by
    rw [wy_.body_eq, show wy_.r0 K = wy_.l0 K from funext (wy_.e0 K)]; exact h
def wbe.spec : Dp.Spec := ⟨(.scons (.int .i64) (.scons (.int .i64) Kq3)), (.int .i64), false, fun K x => wbe K x.1 x.2.1 x.2.2.1⟩
def wbe.hint : Dp.Hint := { n := 34, conds := [(8, [(.normal, { regs := [(0, (.int .i64)), (1, (.int .i64)), (2, (.int .i64))] })])] }
noncomputable def wbe.env : Dp.Env := ⟨ti, gl, [], [], [(211, Tryz.f211, wbe.hint)], [], 0, 40⟩
theorem wbe.body_eq (K : Nat) (x : wbe.spec.args.den) : body (wbe.env.at K) 8 211 wbe.spec x = wbe K x.1 x.2.1 x.2.2.1 := by kernel_rfl
theorem wbe.contract : Contract Tryz.prog gl 211 wbe.spec :=
  contract_of (E := wbe.env) (kn rfl (FnsOK_of ⟨⟨Tryz.func211, Tryz.call211⟩, trivial⟩)) (SpecsOK_of trivial) Tryz.call211 rfl rfl fun K x r h => by
    rw [wbe.body_eq]; exact h
def wY_.spec : Dp.Spec := ⟨Kq3, (.tup (.scons (.int .i64) (.scons (.int .i64) (.scons (.int .i64) (.scons .bool .snil))))), false, fun K x => wY_ K x.1⟩
def wY_.hint : Dp.Hint := { n := 70, conds := [(62, [(.normal, { regs := [(8, (.int .i64)), (9, (.int .i64)), (10, (.int .i64))] })])], regions := [(1, [(.normal, { regs := [(0, (.int .i64)), (16, .bool)] })])] }
noncomputable def wY_.env : Dp.Env := ⟨ti, gl, [], [], [(212, Tryz.f212, wY_.hint)], [], 0, 40⟩
theorem wY_.body_eq (K : Nat) (x : wY_.spec.args.den) : body (wY_.env.at K) 8 212 wY_.spec x = wY_ K x.1 := by kernel_rfl
theorem wY_.contract : Contract Tryz.prog gl 212 wY_.spec :=
  contract_of (E := wY_.env) (kn rfl (FnsOK_of ⟨⟨Tryz.func212, Tryz.call212⟩, trivial⟩)) (SpecsOK_of trivial) Tryz.call212 rfl rfl fun K x r h => by
    rw [wY_.body_eq]; exact h
def wbk.spec : Dp.Spec := ⟨(.scons (.int .i64) (.scons (.int .i64) Kq3)), (.tup (.scons (.int .i64) (.scons .bool .snil))), false, fun K x => wbk K x.1 x.2.1 x.2.2.1⟩
def wbk.hint : Dp.Hint := { n := 64, regions := [(1, [(.normal, { regs := [(0, (.int .i64)), (1, (.int .i64)), (2, (.int .i64)), (34, .bool)] })]), (5, [(.normal, { regs := [(8, (.int .i64)), (62, .bool)] })])] }
noncomputable def wbk.env : Dp.Env := ⟨ti, gl, [], [], [(175, Tryz.f175, wbk.hint)], [(211, wbe.spec), (212, wY_.spec)], 0, 40⟩
theorem wbk.body_eq (K : Nat) (x : wbk.spec.args.den) : body (wbk.env.at K) 8 175 wbk.spec x = wbk K x.1 x.2.1 x.2.2.1 := by kernel_rfl
theorem wbk.contract : Contract Tryz.prog gl 175 wbk.spec :=
  contract_of (E := wbk.env) (kn rfl (FnsOK_of ⟨⟨Tryz.func175, Tryz.call175⟩, trivial⟩)) (SpecsOK_of ⟨wbe.contract, wY_.contract, trivial⟩) Tryz.call175 rfl rfl fun K x r h => by
    rw [wbk.body_eq]; exact h
def wbj.spec : Dp.Spec := ⟨(.scons .str (.scons (.int .i64) (.scons (.int .i64) (.scons (.int .i64) (.scons (.int .i64) Kq3))))), (.int .i64), false, fun K x => wbj K x.1 x.2.1 x.2.2.1 x.2.2.2.1 x.2.2.2.2.1 x.2.2.2.2.2.1⟩
def wbj.hint : Dp.Hint := { n := 97, conds := [(31, [(.normal, { regs := [(1, (.int .i64)), (2, (.int .i64)), (5, (.int .i64)), (13, (.fn 172 (.scons (.ref .str) .snil))), (14, (.int .i64))] })])], regions := [(3, [(.normal, { regs := [(1, (.int .i64)), (2, (.int .i64)), (5, (.int .i64)), (13, (.fn 172 (.scons (.ref .str) .snil))), (14, (.int .i64)), (31, .bool)] })]), (7, [(.normal, { regs := [(15, (.int .i64)), (17, (.int .i64)), (18, (.int .i64)), (19, (.int .i64)), (86, .bool)] })])], imm := [6] }
noncomputable def wbj.env : Dp.Env := ⟨ti, gl, [], [], [(119, Tryz.f119, wbj.hint)], [(172, wI_.spec), (173, wS_.spec), (174, wV_.spec), (176, wy_.spec), (175, wbk.spec)], 0, 40⟩
theorem wbj.body_eq (K : Nat) (x : wbj.spec.args.den) : body (wbj.env.at K) 8 119 wbj.spec x = wbj K x.1 x.2.1 x.2.2.1 x.2.2.2.1 x.2.2.2.2.1 x.2.2.2.2.2.1 := by kernel_rfl
theorem wbj.contract : Contract Tryz.prog gl 119 wbj.spec :=
  contract_of (E := wbj.env) (kn rfl (FnsOK_of ⟨⟨Tryz.func119, Tryz.call119⟩, trivial⟩)) (SpecsOK_of ⟨wI_.contract, wS_.contract, wV_.contract, wy_.contract, wbk.contract, trivial⟩) Tryz.call119 rfl rfl fun K x r h => by
    rw [wbj.body_eq]; exact h
def wx_.spec : Dp.Spec := ⟨Kq3, .str, false, fun K x => wx_ K x.1⟩
def wx_.hint : Dp.Hint := { n := 5 }
noncomputable def wx_.env : Dp.Env := ⟨ti, gl, [], [], [(65, Tryz.f65, wx_.hint)], [(101, itoa.spec)], 0, 40⟩
theorem wx_.body_eq (K : Nat) (x : wx_.spec.args.den) : body (wx_.env.at K) 8 65 wx_.spec x = wx_ K x.1 := by kernel_rfl
theorem wx_.contract : Contract Tryz.prog gl 65 wx_.spec :=
  contract_of (E := wx_.env) (kn rfl (FnsOK_of ⟨⟨Tryz.func65, Tryz.call65⟩, trivial⟩)) (SpecsOK_of ⟨itoa.contract, trivial⟩) Tryz.call65 rfl rfl fun K x r h => by
    rw [wx_.body_eq]; exact h
def wJ_.spec : Dp.Spec := ⟨(.scons (.int .i64) Kq3), .str, false, fun K x => wJ_ K x.1 x.2.1⟩
def wJ_.hint : Dp.Hint := { n := 28, regions := [(2, [(.normal, { regs := [(1, (.int .i64)), (5, .str), (19, .bool)] })])] }
noncomputable def wJ_.env : Dp.Env := ⟨ti, gl, [], [], [(178, Tryz.f178, wJ_.hint)], [(65, wx_.spec), (214, repeatS.spec)], 0, 40⟩
theorem wJ_.body_eq (K : Nat) (x : wJ_.spec.args.den) : body (wJ_.env.at K) 8 178 wJ_.spec x = wJ_ K x.1 x.2.1 := by kernel_rfl
theorem wJ_.contract : Contract Tryz.prog gl 178 wJ_.spec :=
  contract_of (E := wJ_.env) (kn rfl (FnsOK_of ⟨⟨Tryz.func178, Tryz.call178⟩, trivial⟩)) (SpecsOK_of ⟨wx_.contract, repeatS.contract, trivial⟩) Tryz.call178 rfl rfl fun K x r h => by
    rw [wJ_.body_eq]; exact h
def wQ_.spec : Dp.Spec := ⟨Kq3, (.int .i64), false, fun K x => wQ_ K x.1⟩
def wQ_.hint : Dp.Hint := { n := 9 }
noncomputable def wQ_.env : Dp.Env := ⟨ti, gl, [], [], [(213, Tryz.f213, wQ_.hint)], [], 0, 40⟩
theorem wQ_.body_eq (K : Nat) (x : wQ_.spec.args.den) : body (wQ_.env.at K) 8 213 wQ_.spec x = wQ_ K x.1 := by kernel_rfl
theorem wQ_.contract : Contract Tryz.prog gl 213 wQ_.spec :=
  contract_of (E := wQ_.env) (kn rfl (FnsOK_of ⟨⟨Tryz.func213, Tryz.call213⟩, trivial⟩)) (SpecsOK_of trivial) Tryz.call213 rfl rfl fun K x r h => by
    rw [wQ_.body_eq]; exact h
def wbn.spec : Dp.Spec := ⟨Kq3, (.scons (.int .i64) (.scons (.int .i64) (.scons (.int .i64) (.scons (.int .i64) Kq5)))), false, fun K x => wbn K x.1⟩
def wbn.hint : Dp.Hint := { n := 39 }
noncomputable def wbn.env : Dp.Env := ⟨ti, gl, [], [], [(177, Tryz.f177, wbn.hint)], [(212, wY_.spec), (178, wJ_.spec), (213, wQ_.spec), (97, joinS.spec)], 0, 40⟩
theorem wbn.body_eq (K : Nat) (x : wbn.spec.args.den) : body (wbn.env.at K) 8 177 wbn.spec x = wbn K x.1 := by kernel_rfl
theorem wbn.contract : Contract Tryz.prog gl 177 wbn.spec :=
  contract_of (E := wbn.env) (kn rfl (FnsOK_of ⟨⟨Tryz.func177, Tryz.call177⟩, trivial⟩)) (SpecsOK_of ⟨wY_.contract, wJ_.contract, wQ_.contract, joinS.contract, trivial⟩) Tryz.call177 rfl rfl fun K x r h => by
    rw [wbn.body_eq]; exact h
def w5_.spec : Dp.Spec := ⟨Kq3, .str, false, fun K x => w5_ K x.1⟩
def w5_.hint : Dp.Hint := { n := 33, regions := [(1, [(.normal, { regs := [(0, (.int .i64)), (9, .bool)] })])] }
noncomputable def w5_.env : Dp.Env := ⟨ti, gl, [], [], [(120, Tryz.f120, w5_.hint)], [(65, wx_.spec), (178, wJ_.spec), (177, wbn.spec), (97, joinS.spec)], 0, 40⟩
theorem w5_.body_eq (K : Nat) (x : w5_.spec.args.den) : body (w5_.env.at K) 8 120 w5_.spec x = w5_ K x.1 := by kernel_rfl
theorem w5_.contract : Contract Tryz.prog gl 120 w5_.spec :=
  contract_of (E := w5_.env) (kn rfl (FnsOK_of ⟨⟨Tryz.func120, Tryz.call120⟩, trivial⟩)) (SpecsOK_of ⟨wx_.contract, wJ_.contract, wbn.contract, joinS.contract, trivial⟩) Tryz.call120 rfl rfl fun K x r h => by
    rw [w5_.body_eq]; exact h
def wbo.spec : Dp.Spec := ⟨Kq3, .str, false, fun K x => wbo K x.1⟩
def wbo.hint : Dp.Hint := { n := 37, regions := [(1, [(.normal, { regs := [(0, (.int .i64)), (10, .bool)] })])] }
noncomputable def wbo.env : Dp.Env := ⟨ti, gl, [], [], [(121, Tryz.f121, wbo.hint)], [(178, wJ_.spec), (177, wbn.spec), (97, joinS.spec)], 0, 40⟩
theorem wbo.body_eq (K : Nat) (x : wbo.spec.args.den) : body (wbo.env.at K) 8 121 wbo.spec x = wbo K x.1 := by kernel_rfl
theorem wbo.contract : Contract Tryz.prog gl 121 wbo.spec :=
  contract_of (E := wbo.env) (kn rfl (FnsOK_of ⟨⟨Tryz.func121, Tryz.call121⟩, trivial⟩)) (SpecsOK_of ⟨wJ_.contract, wbn.contract, joinS.contract, trivial⟩) Tryz.call121 rfl rfl fun K x r h => by
    rw [wbo.body_eq]; exact h
def w0_.spec : Dp.Spec := ⟨Kq3, .str, false, fun K x => w0_ K x.1⟩
def w0_.hint : Dp.Hint := { n := 39, conds := [(18, [(.normal, { regs := [(3, (.loc 0 false [])), (4, .str)], heap := [(.scons (.int .i64) (.scons (.int .i64) (.scons (.int .i64) (.scons (.int .i64) Kq5))))] })])], regions := [(1, [(.normal, { regs := [(0, (.int .i64)), (10, .bool)] })])] }
noncomputable def w0_.env : Dp.Env := ⟨ti, gl, [], [], [(122, Tryz.f122, w0_.hint)], [(65, wx_.spec), (177, wbn.spec), (97, joinS.spec)], 0, 40⟩
theorem w0_.body_eq (K : Nat) (x : w0_.spec.args.den) : body (w0_.env.at K) 8 122 w0_.spec x = w0_ K x.1 := by kernel_rfl
theorem w0_.contract : Contract Tryz.prog gl 122 w0_.spec :=
  contract_of (E := w0_.env) (kn rfl (FnsOK_of ⟨⟨Tryz.func122, Tryz.call122⟩, trivial⟩)) (SpecsOK_of ⟨wx_.contract, wbn.contract, joinS.contract, trivial⟩) Tryz.call122 rfl rfl fun K x r h => by
    rw [w0_.body_eq]; exact h
def wbg.spec : Dp.Spec := ⟨Kq5, (.tup (.scons (.int .i64) Kq3)), false, fun K x => wbg K x.1⟩
def wbg.hint : Dp.Hint := { n := 52, regions := [(3, [(.normal, { regs := [(0, .str), (4, (.int .i64)), (5, (.int .i64)), (20, .bool)] })]), (6, [(.normal, { regs := [(0, .str), (6, (.int .i64)), (39, .bool)] })]), (9, [(.normal, { regs := [(7, (.int .i64)), (50, .bool)] })])] }
noncomputable def wbg.env : Dp.Env := ⟨ti, gl, [], [], [(88, Tryz.f88, wbg.hint)], [(118, wu_.spec), (119, wbj.spec), (120, w5_.spec), (121, wbo.spec), (122, w0_.spec)], 0, 40⟩
theorem wbg.body_eq (K : Nat) (x : wbg.spec.args.den) : body (wbg.env.at K) 8 88 wbg.spec x = wbg K x.1 := by kernel_rfl
theorem wbg.contract : Contract Tryz.prog gl 88 wbg.spec :=
  contract_of (E := wbg.env) (kn rfl (FnsOK_of ⟨⟨Tryz.func88, Tryz.call88⟩, trivial⟩)) (SpecsOK_of ⟨wu_.contract, wbj.contract, w5_.contract, wbo.contract, w0_.contract, trivial⟩) Tryz.call88 rfl rfl fun K x r h => by
    rw [wbg.body_eq]; exact h
def w8_.spec : Dp.Spec := ⟨(.scons (.list Kq2) Kq5), (.tup (.scons (.int .i64) (.scons .bool .snil))), false, fun K x => w8_ K x.1 x.2.1⟩
def w8_.hint : Dp.Hint := { n := 25 }
noncomputable def w8_.env : Dp.Env := ⟨ti, gl, [], [], [(43, Tryz.f43, w8_.hint)], [(53, wq_.spec), (88, wbg.spec)], 0, 40⟩
theorem w8_.body_eq (K : Nat) (x : w8_.spec.args.den) : body (w8_.env.at K) 8 43 w8_.spec x = w8_ K x.1 x.2.1 := by kernel_rfl
theorem w8_.contract : Contract Tryz.prog gl 43 w8_.spec :=
  contract_of (E := w8_.env) (kn rfl (FnsOK_of ⟨⟨Tryz.func43, Tryz.call43⟩, trivial⟩)) (SpecsOK_of ⟨wq_.contract, wbg.contract, trivial⟩) Tryz.call43 rfl rfl fun K x r h => by
    rw [w8_.body_eq]; exact h
def wg_.spec : Dp.Spec := ⟨(.scons .str (.scons (.int .u8) .snil)), .str, false, fun K x => wg_ K x.1 x.2.1⟩
def wg_.hint : Dp.Hint := { n := 23, regions := [(1, [(.normal, { regs := [(0, .str), (1, (.int .u8)), (16, .bool)] })])], loops := [(1, { regs := [(0, .str), (1, (.int .u8))] }, [(.exit 0, { regs := [(0, .str)] })])] }
noncomputable def wg_.env : Dp.Env := ⟨ti, gl, [], [], [(193, Tryz.f193, wg_.hint)], [], 0, 40⟩
noncomputable def wg_.r0 (K : Nat) : Nat → (((List UInt8) × Jq7) × (Unit)) → Option ((Jq5 × (Unit))) :=
  loopV [(.exit 0, { regs := [(0, .str)] })] { regs := [(0, .str), (1, (.int .u8))] } (interp (wg_.env.at K) wg_.hint (callF (wg_.env.at K) 7) (Code.sub [1, 0, 0, 0] (Tryz.f193.body.getD .skip)) _)
theorem wg_.s0 (K n : Nat) (x : (((List UInt8) × Jq7) × (Unit))) : wg_.r0 K (n + 1) x = wg_.t0 K (wg_.r0 K n) x := by kernel_rfl
theorem wg_.e0 (K n : Nat) : wg_.r0 K n = wg_.l0 K n := eqR (l := wg_.l0 K) _ (wg_.s0 K) (fun _ _ => rfl) (fun _ => rfl) n
theorem wg_.body_eq (K : Nat) (x : wg_.spec.args.den) : body (wg_.env.at K) 8 193 wg_.spec x = wg_.tr (wg_.r0 K) K x.1 x.2.1 := by kernel_rfl
theorem wg_.contract : Contract Tryz.prog gl 193 wg_.spec :=
  contract_of (E := wg_.env) (kn rfl (FnsOK_of ⟨⟨Tryz.func193, Tryz.call193⟩, trivial⟩)) (SpecsOK_of trivial) Tryz.call193 rfl rfl fun K x r h => by
    rw [wg_.body_eq, show wg_.r0 K = wg_.l0 K from funext (wg_.e0 K)]; exact h
def we_.spec : Dp.Spec := ⟨(.scons .str (.scons (.ref (.arr 256 .bool)) .snil)), .str, false, fun K x => we_ K x.1 x.2.1⟩
def we_.hint : Dp.Hint := { n := 22, loops := [(1, { regs := [(0, .str), (1, (.ref (.arr 256 .bool)))] }, [(.exit 0, { regs := [(0, .str)] })])] }
noncomputable def we_.env : Dp.Env := ⟨ti, gl, [], [], [(196, Tryz.f196, we_.hint)], [(224, wn_.spec)], 0, 40⟩
noncomputable def we_.r0 (K : Nat) : Nat → Jq17 → Option ((Jq5 × (Unit))) :=
  loopV [(.exit 0, { regs := [(0, .str)] })] { regs := [(0, .str), (1, (.ref (.arr 256 .bool)))] } (interp (we_.env.at K) we_.hint (callF (we_.env.at K) 7) (Code.sub [1, 0, 0, 0] (Tryz.f196.body.getD .skip)) _)
theorem we_.s0 (K n : Nat) (x : Jq17) : we_.r0 K (n + 1) x = we_.t0 K (we_.r0 K n) x := by kernel_rfl
theorem we_.e0 (K n : Nat) : we_.r0 K n = we_.l0 K n := eqR (l := we_.l0 K) _ (we_.s0 K) (fun _ _ => rfl) (fun _ => rfl) n
theorem we_.body_eq (K : Nat) (x : we_.spec.args.den) : body (we_.env.at K) 8 196 we_.spec x = we_.tr (we_.r0 K) K x.1 x.2.1 := by kernel_rfl
theorem we_.contract : Contract Tryz.prog gl 196 we_.spec :=
  contract_of (E := we_.env) (kn rfl (FnsOK_of ⟨⟨Tryz.func196, Tryz.call196⟩, trivial⟩)) (SpecsOK_of ⟨wn_.contract, trivial⟩) Tryz.call196 rfl rfl fun K x r h => by
    rw [we_.body_eq, show we_.r0 K = we_.l0 K from funext (we_.e0 K)]; exact h
def wT_.spec : Dp.Spec := ⟨Kq2, .str, false, fun K x => wT_ K x.1 x.2.1⟩
def wT_.hint : Dp.Hint := { n := 43, regions := [(1, [(.normal, { regs := [(0, .str), (1, .str), (12, .bool)] })]), (3, [(.normal, { regs := [(0, .str), (1, .str), (21, .bool)] })])] }
noncomputable def wT_.env : Dp.Env := ⟨ti, gl, [], [], [(152, Tryz.f152, wT_.hint)], [(192, wf_.spec), (195, wd_.spec), (193, wg_.spec), (196, we_.spec), (194, asciiSet.spec)], 0, 40⟩
theorem wT_.body_eq (K : Nat) (x : wT_.spec.args.den) : body (wT_.env.at K) 8 152 wT_.spec x = wT_ K x.1 x.2.1 := by kernel_rfl
theorem wT_.contract : Contract Tryz.prog gl 152 wT_.spec :=
  contract_of (E := wT_.env) (kn rfl (FnsOK_of ⟨⟨Tryz.func152, Tryz.call152⟩, trivial⟩)) (SpecsOK_of ⟨wf_.contract, wd_.contract, wg_.contract, we_.contract, asciiSet.contract, trivial⟩) Tryz.call152 rfl rfl fun K x r h => by
    rw [wT_.body_eq]; exact h
def w3_.spec : Dp.Spec := ⟨Kq5, .str, false, fun K x => w3_ K x.1⟩
def w3_.hint : Dp.Hint := { n := 5 }
noncomputable def w3_.env : Dp.Env := ⟨ti, gl, [], [], [(104, Tryz.f104, w3_.hint)], [(152, wT_.spec)], 0, 40⟩
theorem w3_.body_eq (K : Nat) (x : w3_.spec.args.den) : body (w3_.env.at K) 8 104 w3_.spec x = w3_ K x.1 := by kernel_rfl
theorem w3_.contract : Contract Tryz.prog gl 104 w3_.spec :=
  contract_of (E := w3_.env) (kn rfl (FnsOK_of ⟨⟨Tryz.func104, Tryz.call104⟩, trivial⟩)) (SpecsOK_of ⟨wT_.contract, trivial⟩) Tryz.call104 rfl rfl fun K x r h => by
    rw [w3_.body_eq]; exact h
def wo_.spec : Dp.Spec := ⟨Kq5, (.tup (.scons (.list .str) Kq3)), false, fun K x => wo_ K x.1⟩
def wo_.hint : Dp.Hint := { n := 49, conds := [(20, [(.exit 1, { regs := [(1, (.ref .str)), (4, (.loc 1 false [])), (6, (.fn 103 (.scons (.ref .str) (.scons (.loc 2 false []) (.scons (.loc 1 false []) .snil))))), (7, .bool), (8, (.int .i64))], heap := [(.row .str), (.slw 0), (.int .i64)], app := [0] }), (.normal, { regs := [(1, (.ref .str)), (4, (.loc 1 false [])), (6, (.fn 103 (.scons (.ref .str) (.scons (.loc 2 false []) (.scons (.loc 1 false []) .snil))))), (7, .bool), (8, (.int .i64))], heap := [(.row .str), (.slw 0), (.int .i64)], app := [0] })]), (33, [(.normal, { regs := [(1, (.ref .str)), (4, (.loc 1 false [])), (6, (.fn 103 (.scons (.ref .str) (.scons (.loc 2 false []) (.scons (.loc 1 false []) .snil))))), (7, .bool), (8, (.int .i64))], heap := [(.row .str), (.slw 0), (.int .i64)], app := [0] })])], blocks := [(1, [(.normal, { regs := [(1, (.ref .str)), (4, (.loc 1 false [])), (6, (.fn 103 (.scons (.ref .str) (.scons (.loc 2 false []) (.scons (.loc 1 false []) .snil))))), (7, .bool), (8, (.int .i64))], heap := [(.row .str), (.slw 0), (.int .i64)], app := [0] })])], regions := [(11, [(.normal, { regs := [(1, (.ref .str)), (4, (.loc 1 false [])), (6, (.fn 103 (.scons (.ref .str) (.scons (.loc 2 false []) (.scons (.loc 1 false []) .snil))))), (7, .bool), (8, (.int .i64)), (9, (.int .u8)), (25, .bool)], heap := [(.row .str), (.slw 0), (.int .i64)], app := [0] })]), (13, [(.normal, { regs := [(1, (.ref .str)), (4, (.loc 1 false [])), (6, (.fn 103 (.scons (.ref .str) (.scons (.loc 2 false []) (.scons (.loc 1 false []) .snil))))), (7, .bool), (8, (.int .i64)), (33, .bool)], heap := [(.row .str), (.slw 0), (.int .i64)], app := [0] })]), (14, [(.normal, { regs := [(1, (.ref .str)), (4, (.loc 1 false [])), (6, (.fn 103 (.scons (.ref .str) (.scons (.loc 2 false []) (.scons (.loc 1 false []) .snil))))), (7, .bool), (8, (.int .i64))], heap := [(.row .str), (.slw 0), (.int .i64)], app := [0] })])], loops := [(6, { regs := [(1, (.ref .str)), (4, (.loc 1 false [])), (6, (.fn 103 (.scons (.ref .str) (.scons (.loc 2 false []) (.scons (.loc 1 false []) .snil))))), (7, .bool), (8, (.int .i64))], heap := [(.row .str), (.slw 0), (.int .i64)], app := [0] }, [(.exit 0, { regs := [(1, (.ref .str)), (4, (.loc 1 false [])), (6, (.fn 103 (.scons (.ref .str) (.scons (.loc 2 false []) (.scons (.loc 1 false []) .snil))))), (7, .bool)], heap := [(.row .str), (.slw 0), (.int .i64)], app := [0] })])], own := [4], imm := [1] }
def wo_.hint103 : Dp.Hint := { n := 19 }
noncomputable def wo_.env : Dp.Env := ⟨ti, gl, [], [], [(69, Tryz.f69, wo_.hint), (103, Tryz.f103, wo_.hint103)], [(104, w3_.spec)], 0, 40⟩
noncomputable def wo_.r0 (K : Nat) : Nat → Jq4 → Option Jq18 :=
  loopV [(.exit 0, { regs := [(1, (.ref .str)), (4, (.loc 1 false [])), (6, (.fn 103 (.scons (.ref .str) (.scons (.loc 2 false []) (.scons (.loc 1 false []) .snil))))), (7, .bool)], heap := [(.row .str), (.slw 0), (.int .i64)], app := [0] })] { regs := [(1, (.ref .str)), (4, (.loc 1 false [])), (6, (.fn 103 (.scons (.ref .str) (.scons (.loc 2 false []) (.scons (.loc 1 false []) .snil))))), (7, .bool), (8, (.int .i64))], heap := [(.row .str), (.slw 0), (.int .i64)], app := [0] } (interp (wo_.env.at K) wo_.hint (callF (wo_.env.at K) 7) (Code.sub [1, 0, 1, 1, 1, 1, 1, 0, 1, 0, 0] (Tryz.f69.body.getD .skip)) _)
theorem wo_.s0 (K n : Nat) (x : Jq4) : wo_.r0 K (n + 1) x = wo_.t0 K (wo_.r0 K n) x := by kernel_rfl
theorem wo_.e0 (K n : Nat) : wo_.r0 K n = wo_.l0 K n := eqR (l := wo_.l0 K) _ (wo_.s0 K) (fun _ _ => rfl) (fun _ => rfl) n
theorem wo_.body_eq (K : Nat) (x : wo_.spec.args.den) : body (wo_.env.at K) 8 69 wo_.spec x = wo_.tr (wo_.r0 K) K x.1 := by kernel_rfl
theorem wo_.contract : Contract Tryz.prog gl 69 wo_.spec :=
  contract_of (E := wo_.env) (kn rfl (FnsOK_of ⟨⟨Tryz.func69, Tryz.call69⟩, ⟨Tryz.func103, Tryz.call103⟩, trivial⟩)) (SpecsOK_of ⟨w3_.contract, trivial⟩) Tryz.call69 rfl rfl fun K x r h => by
    rw [wo_.body_eq, show wo_.r0 K = wo_.l0 K from funext (wo_.e0 K)]; exact h
def wl_.spec : Dp.Spec := ⟨(.scons (.int .i64) (.scons (.list (.int .i64)) .snil)), (.int .i64), false, fun K x => wl_ K x.1 x.2.1⟩
def wl_.hint : Dp.Hint := { n := 19, conds := [(15, [(.normal, { regs := [(0, (.int .i64)), (7, (.list (.int .i64))), (8, (.int .i64)), (9, (.int .i64))] })])], loops := [(2, { regs := [(0, (.int .i64)), (7, (.list (.int .i64))), (8, (.int .i64)), (9, (.int .i64))] }, [(.exit 0, { regs := [(0, (.int .i64))] })])] }
noncomputable def wl_.env : Dp.Env := ⟨ti, gl, [], [], [(129, Tryz.f129, wl_.hint)], [], 0, 40⟩
noncomputable def wl_.r0 (K : Nat) : Nat → (((Int) × ((List (Int)) × Jq2)) × (Unit)) → Option ((Jq7 × (Unit))) :=
  loopV [(.exit 0, { regs := [(0, (.int .i64))] })] { regs := [(0, (.int .i64)), (7, (.list (.int .i64))), (8, (.int .i64)), (9, (.int .i64))] } (interp (wl_.env.at K) wl_.hint (callF (wl_.env.at K) 7) (Code.sub [1, 0, 1, 0, 0] (Tryz.f129.body.getD .skip)) _)
theorem wl_.s0 (K n : Nat) (x : (((Int) × ((List (Int)) × Jq2)) × (Unit))) : wl_.r0 K (n + 1) x = wl_.t0 K (wl_.r0 K n) x := by kernel_rfl
theorem wl_.e0 (K n : Nat) : wl_.r0 K n = wl_.l0 K n := eqR (l := wl_.l0 K) _ (wl_.s0 K) (fun _ _ => rfl) (fun _ => rfl) n
theorem wl_.body_eq (K : Nat) (x : wl_.spec.args.den) : body (wl_.env.at K) 8 129 wl_.spec x = wl_.tr (wl_.r0 K) K x.1 x.2.1 := by kernel_rfl
theorem wl_.contract : Contract Tryz.prog gl 129 wl_.spec :=
  contract_of (E := wl_.env) (kn rfl (FnsOK_of ⟨⟨Tryz.func129, Tryz.call129⟩, trivial⟩)) (SpecsOK_of trivial) Tryz.call129 rfl rfl fun K x r h => by
    rw [wl_.body_eq, show wl_.r0 K = wl_.l0 K from funext (wl_.e0 K)]; exact h
def wj_.spec : Dp.Spec := ⟨Kq5, (.tup (.scons (.int .i64) (.scons .bool .snil))), false, fun K x => wj_ K x.1⟩
def wj_.hint : Dp.Hint := { n := 26, loops := [(3, { regs := [(0, .str), (4, (.int .i64)), (9, (.loc 0 false []))], heap := [.iter] }, [(.exit 0, { regs := [(0, .str), (4, (.int .i64))], heap := [.iter] }), (.ret, { regs := [(2, (.int .i64)), (3, .bool)], heap := [.iter] })])] }
noncomputable def wj_.env : Dp.Env := ⟨ti, gl, [], [], [(90, Tryz.f90, wj_.hint)], [(128, wG_.spec), (129, wl_.spec)], 0, 40⟩
noncomputable def wj_.r0 (K : Nat) : Nat → (((List UInt8) × ((Int) × Jq11)) × Jq9) → Option ((((List UInt8) × Jq7) × Jq9) ⊕ (((Int) × Jq6) × Jq9)) :=
  loopV [(.exit 0, { regs := [(0, .str), (4, (.int .i64))], heap := [.iter] }), (.ret, { regs := [(2, (.int .i64)), (3, .bool)], heap := [.iter] })] { regs := [(0, .str), (4, (.int .i64)), (9, (.loc 0 false []))], heap := [.iter] } (interp (wj_.env.at K) wj_.hint (callF (wj_.env.at K) 7) (Code.sub [1, 1, 0, 1, 0, 0] (Tryz.f90.body.getD .skip)) _)
theorem wj_.s0 (K n : Nat) (x : (((List UInt8) × ((Int) × Jq11)) × Jq9)) : wj_.r0 K (n + 1) x = wj_.t0 K (wj_.r0 K n) x := by kernel_rfl
theorem wj_.e0 (K n : Nat) : wj_.r0 K n = wj_.l0 K n := eqR (l := wj_.l0 K) _ (wj_.s0 K) (fun _ _ => rfl) (fun _ => rfl) n
theorem wj_.body_eq (K : Nat) (x : wj_.spec.args.den) : body (wj_.env.at K) 8 90 wj_.spec x = wj_.tr (wj_.r0 K) K x.1 := by kernel_rfl
theorem wj_.contract : Contract Tryz.prog gl 90 wj_.spec :=
  contract_of (E := wj_.env) (kn rfl (FnsOK_of ⟨⟨Tryz.func90, Tryz.call90⟩, trivial⟩)) (SpecsOK_of ⟨wG_.contract, wl_.contract, trivial⟩) Tryz.call90 rfl rfl fun K x r h => by
    rw [wj_.body_eq, show wj_.r0 K = wj_.l0 K from funext (wj_.e0 K)]; exact h
def wm_.spec : Dp.Spec := ⟨(.scons (.list (.int .i64)) .snil), (.int .i64), false, fun K x => wm_ K x.1⟩
def wm_.hint : Dp.Hint := { n := 17, loops := [(3, { regs := [(3, (.int .i64)), (6, (.list (.int .i64))), (7, (.int .i64)), (8, (.int .i64))] }, [(.exit 0, { regs := [(3, (.int .i64))] })])] }
noncomputable def wm_.env : Dp.Env := ⟨ti, gl, [], [], [(81, Tryz.f81, wm_.hint)], [], 0, 40⟩
noncomputable def wm_.r0 (K : Nat) : Nat → (((Int) × ((List (Int)) × Jq2)) × (Unit)) → Option ((Jq7 × (Unit))) :=
  loopV [(.exit 0, { regs := [(3, (.int .i64))] })] { regs := [(3, (.int .i64)), (6, (.list (.int .i64))), (7, (.int .i64)), (8, (.int .i64))] } (interp (wm_.env.at K) wm_.hint (callF (wm_.env.at K) 7) (Code.sub [1, 1, 0, 1, 0, 0] (Tryz.f81.body.getD .skip)) _)
theorem wm_.s0 (K n : Nat) (x : (((Int) × ((List (Int)) × Jq2)) × (Unit))) : wm_.r0 K (n + 1) x = wm_.t0 K (wm_.r0 K n) x := by kernel_rfl
theorem wm_.e0 (K n : Nat) : wm_.r0 K n = wm_.l0 K n := eqR (l := wm_.l0 K) _ (wm_.s0 K) (fun _ _ => rfl) (fun _ => rfl) n
theorem wm_.body_eq (K : Nat) (x : wm_.spec.args.den) : body (wm_.env.at K) 8 81 wm_.spec x = wm_.tr (wm_.r0 K) K x.1 := by kernel_rfl
theorem wm_.contract : Contract Tryz.prog gl 81 wm_.spec :=
  contract_of (E := wm_.env) (kn rfl (FnsOK_of ⟨⟨Tryz.func81, Tryz.call81⟩, trivial⟩)) (SpecsOK_of trivial) Tryz.call81 rfl rfl fun K x r h => by
    rw [wm_.body_eq, show wm_.r0 K = wm_.l0 K from funext (wm_.e0 K)]; exact h
def wr_.spec : Dp.Spec := ⟨(.scons (.scons (.int .i64) (.scons .str (.scons (.int .i64) (.scons (.list Kq2) Kq5)))) .snil), (.int .i64), false, fun K x => wr_ K x.1⟩
def wr_.hint : Dp.Hint := { n := 44, conds := [(36, [(.normal, { regs := [(3, (.int .i64)), (14, (.list .str)), (15, (.int .i64)), (16, (.int .i64)), (25, (.list .str)), (26, (.int .i64)), (27, (.int .i64))] })])], loops := [(3, { regs := [(3, (.int .i64)), (14, (.list .str)), (15, (.int .i64)), (16, (.int .i64))] }, [(.exit 0, { regs := [(3, (.int .i64))] })]), (7, { regs := [(3, (.int .i64)), (14, (.list .str)), (15, (.int .i64)), (16, (.int .i64)), (25, (.list .str)), (26, (.int .i64)), (27, (.int .i64))] }, [(.exit 2, { regs := [(3, (.int .i64)), (14, (.list .str)), (15, (.int .i64)), (16, (.int .i64))] })])], imm := [1] }
noncomputable def wr_.env : Dp.Env := ⟨ti, gl, [], [], [(47, Tryz.f47, wr_.hint)], [(53, wq_.spec), (69, wo_.spec), (90, wj_.spec), (81, wm_.spec)], 0, 40⟩
noncomputable def wr_.r0 (K : Nat) : Nat → (((Int) × Jq8) × (Unit)) → Option (Jq19) :=
  loopV [(.exit 2, { regs := [(3, (.int .i64)), (14, (.list .str)), (15, (.int .i64)), (16, (.int .i64))] })] { regs := [(3, (.int .i64)), (14, (.list .str)), (15, (.int .i64)), (16, (.int .i64)), (25, (.list .str)), (26, (.int .i64)), (27, (.int .i64))] } (interp (wr_.env.at K) wr_.hint (callF (wr_.env.at K) 7) (Code.sub [1, 1, 0, 1, 0, 0, 1, 1, 0, 0, 1, 1, 1, 0, 0] (Tryz.f47.body.getD .skip)) _)
theorem wr_.s0 (K n : Nat) (x : (((Int) × Jq8) × (Unit))) : wr_.r0 K (n + 1) x = wr_.t0 K (wr_.r0 K n) x := by kernel_rfl
theorem wr_.e0 (K n : Nat) : wr_.r0 K n = wr_.l0 K n := eqR (l := wr_.l0 K) _ (wr_.s0 K) (fun _ _ => rfl) (fun _ => rfl) n
noncomputable def wr_.r1 (K : Nat) : Nat → Jq19 → Option ((Jq7 × (Unit))) :=
  loopV [(.exit 0, { regs := [(3, (.int .i64))] })] { regs := [(3, (.int .i64)), (14, (.list .str)), (15, (.int .i64)), (16, (.int .i64))] } (interp (wr_.env.at K) wr_.hint (callF (wr_.env.at K) 7) (Code.sub [1, 1, 0, 1, 0, 0] (Tryz.f47.body.getD .skip)) _)
theorem wr_.s1 (K n : Nat) (x : Jq19) : wr_.r1 K (n + 1) x = wr_.t1 (wr_.r0 K) K (wr_.r1 K n) x := by kernel_rfl
theorem wr_.e1 (K n : Nat) : wr_.r1 K n = wr_.l1 K n := by
  induction n with
  | zero => funext x; rfl
  | succ n ih => funext x; rw [wr_.s1, ih, show wr_.r0 K = wr_.l0 K from funext (wr_.e0 K)]; rfl
theorem wr_.body_eq (K : Nat) (x : wr_.spec.args.den) : body (wr_.env.at K) 8 47 wr_.spec x = wr_.tr (wr_.r1 K) K x.1 := by kernel_rfl
theorem wr_.contract : Contract Tryz.prog gl 47 wr_.spec :=
  contract_of (E := wr_.env) (kn rfl (FnsOK_of ⟨⟨Tryz.func47, Tryz.call47⟩, trivial⟩)) (SpecsOK_of ⟨wq_.contract, wo_.contract, wj_.contract, wm_.contract, trivial⟩) Tryz.call47 rfl rfl fun K x r h => by
    rw [wr_.body_eq, show wr_.r1 K = wr_.l1 K from funext (wr_.e1 K)]; exact h
def w2_.spec : Dp.Spec := ⟨(.scons Kq1 .snil), (.int .i64), false, fun K x => w2_ K x.1⟩
def w2_.hint : Dp.Hint := { n := 16, imm := [1] }
noncomputable def w2_.env : Dp.Env := ⟨ti, gl, [], [], [(45, Tryz.f45, w2_.hint)], [(43, w8_.spec)], 0, 40⟩
theorem w2_.body_eq (K : Nat) (x : w2_.spec.args.den) : body (w2_.env.at K) 8 45 w2_.spec x = w2_ K x.1 := by kernel_rfl
theorem w2_.contract : Contract Tryz.prog gl 45 w2_.spec :=
  contract_of (E := w2_.env) (kn rfl (FnsOK_of ⟨⟨Tryz.func45, Tryz.call45⟩, trivial⟩)) (SpecsOK_of ⟨w8_.contract, trivial⟩) Tryz.call45 rfl rfl fun K x r h => by
    rw [w2_.body_eq]; exact h
def wbc.spec : Dp.Spec := ⟨Kq3, (.int .i64), false, fun K x => wbc K x.1⟩
def wbc.hint : Dp.Hint := { n := 7 }
noncomputable def wbc.env : Dp.Env := ⟨ti, gl, [], [], [(115, Tryz.f115, wbc.hint)], [(81, wm_.spec)], 0, 40⟩
theorem wbc.body_eq (K : Nat) (x : wbc.spec.args.den) : body (wbc.env.at K) 8 115 wbc.spec x = wbc K x.1 := by kernel_rfl
theorem wbc.contract : Contract Tryz.prog gl 115 wbc.spec :=
  contract_of (E := wbc.env) (kn rfl (FnsOK_of ⟨⟨Tryz.func115, Tryz.call115⟩, trivial⟩)) (SpecsOK_of ⟨wm_.contract, trivial⟩) Tryz.call115 rfl rfl fun K x r h => by
    rw [wbc.body_eq]; exact h
def wX_.spec : Dp.Spec := ⟨(.scons (.int .i64) Kq3), (.int .i64), false, fun K x => wX_ K x.1 x.2.1⟩
def wX_.hint : Dp.Hint := { n := 13 }
noncomputable def wX_.env : Dp.Env := ⟨ti, gl, [], [], [(82, Tryz.f82, wX_.hint)], [(81, wm_.spec), (115, wbc.spec)], 0, 40⟩
theorem wX_.body_eq (K : Nat) (x : wX_.spec.args.den) : body (wX_.env.at K) 8 82 wX_.spec x = wX_ K x.1 x.2.1 := by kernel_rfl
theorem wX_.contract : Contract Tryz.prog gl 82 wX_.spec :=
  contract_of (E := wX_.env) (kn rfl (FnsOK_of ⟨⟨Tryz.func82, Tryz.call82⟩, trivial⟩)) (SpecsOK_of ⟨wm_.contract, wbc.contract, trivial⟩) Tryz.call82 rfl rfl fun K x r h => by
    rw [wX_.body_eq]; exact h
def wK_.spec : Dp.Spec := ⟨Kq3, (.int .i64), false, fun K x => wK_ K x.1⟩
def wK_.hint : Dp.Hint := { n := 7 }
noncomputable def wK_.env : Dp.Env := ⟨ti, gl, [], [], [(114, Tryz.f114, wK_.hint)], [(129, wl_.spec)], 0, 40⟩
theorem wK_.body_eq (K : Nat) (x : wK_.spec.args.den) : body (wK_.env.at K) 8 114 wK_.spec x = wK_ K x.1 := by kernel_rfl
theorem wK_.contract : Contract Tryz.prog gl 114 wK_.spec :=
  contract_of (E := wK_.env) (kn rfl (FnsOK_of ⟨⟨Tryz.func114, Tryz.call114⟩, trivial⟩)) (SpecsOK_of ⟨wl_.contract, trivial⟩) Tryz.call114 rfl rfl fun K x r h => by
    rw [wK_.body_eq]; exact h
def w6_.spec : Dp.Spec := ⟨(.scons (.int .i64) Kq3), (.int .i64), false, fun K x => w6_ K x.1 x.2.1⟩
def w6_.hint : Dp.Hint := { n := 11 }
noncomputable def w6_.env : Dp.Env := ⟨ti, gl, [], [], [(80, Tryz.f80, w6_.hint)], [(114, wK_.spec)], 0, 40⟩
theorem w6_.body_eq (K : Nat) (x : w6_.spec.args.den) : body (w6_.env.at K) 8 80 w6_.spec x = w6_ K x.1 x.2.1 := by kernel_rfl
theorem w6_.contract : Contract Tryz.prog gl 80 w6_.spec :=
  contract_of (E := w6_.env) (kn rfl (FnsOK_of ⟨⟨Tryz.func80, Tryz.call80⟩, trivial⟩)) (SpecsOK_of ⟨wK_.contract, trivial⟩) Tryz.call80 rfl rfl fun K x r h => by
    rw [w6_.body_eq]; exact h
def wbh.spec : Dp.Spec := ⟨(.scons Kq1 Kq3), (.int .i64), false, fun K x => wbh K x.1 x.2.1⟩
def wbh.hint : Dp.Hint := { n := 20, imm := [2] }
noncomputable def wbh.env : Dp.Env := ⟨ti, gl, [], [], [(35, Tryz.f35, wbh.hint)], [(81, wm_.spec), (47, wr_.spec), (45, w2_.spec), (82, wX_.spec), (80, w6_.spec)], 0, 40⟩
theorem wbh.body_eq (K : Nat) (x : wbh.spec.args.den) : body (wbh.env.at K) 8 35 wbh.spec x = wbh K x.1 x.2.1 := by kernel_rfl
theorem wbh.contract : Contract Tryz.prog gl 35 wbh.spec :=
  contract_of (E := wbh.env) (kn rfl (FnsOK_of ⟨⟨Tryz.func35, Tryz.call35⟩, trivial⟩)) (SpecsOK_of ⟨wm_.contract, wr_.contract, w2_.contract, wX_.contract, w6_.contract, trivial⟩) Tryz.call35 rfl rfl fun K x r h => by
    rw [wbh.body_eq]; exact h
def wbd.spec : Dp.Spec := ⟨(.scons .str (.scons (.int .u8) .snil)), (.tup (.scons .str (.scons .str (.scons .bool .snil)))), false, fun K x => wbd K x.1 x.2.1⟩
def wbd.hint : Dp.Hint := { n := 21 }
noncomputable def wbd.env : Dp.Env := ⟨ti, gl, [], [], [(133, Tryz.f133, wbd.hint)], [(118, wu_.spec)], 0, 40⟩
theorem wbd.body_eq (K : Nat) (x : wbd.spec.args.den) : body (wbd.env.at K) 8 133 wbd.spec x = wbd K x.1 x.2.1 := by kernel_rfl
theorem wbd.contract : Contract Tryz.prog gl 133 wbd.spec :=
  contract_of (E := wbd.env) (kn rfl (FnsOK_of ⟨⟨Tryz.func133, Tryz.call133⟩, trivial⟩)) (SpecsOK_of ⟨wu_.contract, trivial⟩) Tryz.call133 rfl rfl fun K x r h => by
    rw [wbd.body_eq]; exact h
def w7_.spec : Dp.Spec := ⟨Kq5, (.fn 199 (.scons (.ref .str) .snil)), false, fun K x => w7_ K x.1⟩
def w7_.hint : Dp.Hint := { n := 4, imm := [1] }
noncomputable def w7_.env : Dp.Env := ⟨ti, gl, [], [], [(155, Tryz.f155, w7_.hint)], [], 0, 40⟩
theorem w7_.body_eq (K : Nat) (x : w7_.spec.args.den) : body (w7_.env.at K) 8 155 w7_.spec x = w7_ K x.1 := by kernel_rfl
theorem w7_.contract : Contract Tryz.prog gl 155 w7_.spec :=
  contract_of (E := w7_.env) (kn rfl (FnsOK_of ⟨⟨Tryz.func155, Tryz.call155⟩, trivial⟩)) (SpecsOK_of trivial) Tryz.call155 rfl rfl fun K x r h => by
    rw [w7_.body_eq]; exact h
def wE_.spec : Dp.Spec := ⟨(.scons (.int .u8) (.scons (.hl (.scons Kq4 .snil)) .snil)), .bool, false, fun K x => wE_ K x.1 x.2.1⟩
def wE_.hint : Dp.Hint := { n := 17 }
noncomputable def wE_.env : Dp.Env := ⟨ti, gl, [], [], [(153, Tryz.f153, wE_.hint)], [(156, wD_.spec)], 0, 40⟩
theorem wE_.body_eq (K : Nat) (x : wE_.spec.args.den) : body (wE_.env.at K) 8 153 wE_.spec x = wE_ K x.1 x.2.1 := by kernel_rfl
theorem wE_.contract : Contract Tryz.prog gl 153 wE_.spec :=
  contract_of (E := wE_.env) (kn rfl (FnsOK_of ⟨⟨Tryz.func153, Tryz.call153⟩, trivial⟩)) (SpecsOK_of ⟨wD_.contract, trivial⟩) Tryz.call153 rfl rfl fun K x r h => by
    rw [wE_.body_eq]; exact h
def w4_.spec : Dp.Spec := ⟨(.scons (.int .u8) .snil), .bool, false, fun K x => w4_ K x.1⟩
def w4_.hint : Dp.Hint := { n := 7 }
noncomputable def w4_.env : Dp.Env := ⟨ti, gl, [], [], [(154, Tryz.f154, w4_.hint)], [(107, wP_.spec), (153, wE_.spec)], 0, 40⟩
theorem w4_.body_eq (K : Nat) (x : w4_.spec.args.den) : body (w4_.env.at K) 8 154 w4_.spec x = w4_ K x.1 := by kernel_rfl
theorem w4_.contract : Contract Tryz.prog gl 154 w4_.spec :=
  contract_of (E := w4_.env) (kn rfl (FnsOK_of ⟨⟨Tryz.func154, Tryz.call154⟩, trivial⟩)) (SpecsOK_of ⟨wP_.contract, wE_.contract, trivial⟩) Tryz.call154 rfl rfl fun K x r h => by
    rw [w4_.body_eq]; exact h
def wO_.spec : Dp.Spec := ⟨(.scons (.int .u8) (.scons (.ref .str) .snil)), .bool, false, fun K x => wO_ K x.1 x.2.1⟩
def wO_.hint : Dp.Hint := { n := 8 }
noncomputable def wO_.env : Dp.Env := ⟨ti, gl, [], [], [(199, Tryz.f199, wO_.hint)], [(118, wu_.spec)], 0, 40⟩
theorem wO_.body_eq (K : Nat) (x : wO_.spec.args.den) : body (wO_.env.at K) 8 199 wO_.spec x = wO_ K x.1 x.2.1 := by kernel_rfl
theorem wO_.contract : Contract Tryz.prog gl 199 wO_.spec :=
  contract_of (E := wO_.env) (kn rfl (FnsOK_of ⟨⟨Tryz.func199, Tryz.call199⟩, trivial⟩)) (SpecsOK_of ⟨wu_.contract, trivial⟩) Tryz.call199 rfl rfl fun K x r h => by
    rw [wO_.body_eq]; exact h
def wh_.spec : Dp.Spec := ⟨(.scons (.int .u8) (.scons (.hl (.scons (.fn 154 .snil) (.scons Kq4 (.scons Kq4 (.scons (.fn 199 (.scons (.ref .str) .snil)) .snil))))) .snil)), .bool, false, fun K x => wh_ K x.1 x.2.1⟩
def wh_.hint : Dp.Hint := { n := 17 }
noncomputable def wh_.env : Dp.Env := ⟨ti, gl, [], [], [(153, Tryz.f153, wh_.hint)], [(156, wD_.spec), (154, w4_.spec), (199, wO_.spec)], 0, 40⟩
theorem wh_.body_eq (K : Nat) (x : wh_.spec.args.den) : body (wh_.env.at K) 8 153 wh_.spec x = wh_ K x.1 x.2.1 := by kernel_rfl
theorem wh_.contract : Contract Tryz.prog gl 153 wh_.spec :=
  contract_of (E := wh_.env) (kn rfl (FnsOK_of ⟨⟨Tryz.func153, Tryz.call153⟩, trivial⟩)) (SpecsOK_of ⟨wD_.contract, w4_.contract, wO_.contract, trivial⟩) Tryz.call153 rfl rfl fun K x r h => by
    rw [wh_.body_eq]; exact h
def wR_.spec : Dp.Spec := ⟨(.scons (.int .u8) .snil), .bool, false, fun K x => wR_ K x.1⟩
def wR_.hint : Dp.Hint := { n := 9 }
noncomputable def wR_.env : Dp.Env := ⟨ti, gl, [], [], [(106, Tryz.f106, wR_.hint)], [(107, wP_.spec), (155, w7_.spec), (153, wh_.spec)], 0, 40⟩
theorem wR_.body_eq (K : Nat) (x : wR_.spec.args.den) : body (wR_.env.at K) 8 106 wR_.spec x = wR_ K x.1 := by kernel_rfl
theorem wR_.contract : Contract Tryz.prog gl 106 wR_.spec :=
  contract_of (E := wR_.env) (kn rfl (FnsOK_of ⟨⟨Tryz.func106, Tryz.call106⟩, trivial⟩)) (SpecsOK_of ⟨wP_.contract, w7_.contract, wh_.contract, trivial⟩) Tryz.call106 rfl rfl fun K x r h => by
    rw [wR_.body_eq]; exact h
def wi_.spec : Dp.Spec := ⟨(.scons .str (.scons (.fn 106 .snil) .snil)), .bool, false, fun K x => wi_ K x.1⟩
def wi_.hint : Dp.Hint := { n := 19, loops := [(2, { regs := [(1, (.fn 106 .snil)), (8, (.list (.int .u8))), (9, (.int .i64)), (10, (.int .i64))] }, [(.exit 0, { regs := [] }), (.ret, { regs := [(4, .bool)] })])] }
noncomputable def wi_.env : Dp.Env := ⟨ti, gl, [], [], [(105, Tryz.f105, wi_.hint)], [(106, wR_.spec)], 0, 40⟩
noncomputable def wi_.r0 (K : Nat) : Nat → (((Unit) × ((List (Int)) × Jq2)) × (Unit)) → Option (((Unit) × (Unit)) ⊕ (Jq6 × (Unit))) :=
  loopV [(.exit 0, { regs := [] }), (.ret, { regs := [(4, .bool)] })] { regs := [(1, (.fn 106 .snil)), (8, (.list (.int .u8))), (9, (.int .i64)), (10, (.int .i64))] } (interp (wi_.env.at K) wi_.hint (callF (wi_.env.at K) 7) (Code.sub [1, 0, 1, 0, 0] (Tryz.f105.body.getD .skip)) _)
theorem wi_.s0 (K n : Nat) (x : (((Unit) × ((List (Int)) × Jq2)) × (Unit))) : wi_.r0 K (n + 1) x = wi_.t0 K (wi_.r0 K n) x := by kernel_rfl
theorem wi_.e0 (K n : Nat) : wi_.r0 K n = wi_.l0 K n := eqR (l := wi_.l0 K) _ (wi_.s0 K) (fun _ _ => rfl) (fun _ => rfl) n
theorem wi_.body_eq (K : Nat) (x : wi_.spec.args.den) : body (wi_.env.at K) 8 105 wi_.spec x = wi_.tr (wi_.r0 K) K x.1 := by kernel_rfl
theorem wi_.contract : Contract Tryz.prog gl 105 wi_.spec :=
  contract_of (E := wi_.env) (kn rfl (FnsOK_of ⟨⟨Tryz.func105, Tryz.call105⟩, trivial⟩)) (SpecsOK_of ⟨wR_.contract, trivial⟩) Tryz.call105 rfl rfl fun K x r h => by
    rw [wi_.body_eq, show wi_.r0 K = wi_.l0 K from funext (wi_.e0 K)]; exact h
def wM_.spec : Dp.Spec := ⟨Kq5, .bool, false, fun K x => wM_ K x.1⟩
def wM_.hint : Dp.Hint := { n := 9 }
noncomputable def wM_.env : Dp.Env := ⟨ti, gl, [], [], [(70, Tryz.f70, wM_.hint)], [(105, wi_.spec)], 0, 40⟩
theorem wM_.body_eq (K : Nat) (x : wM_.spec.args.den) : body (wM_.env.at K) 8 70 wM_.spec x = wM_ K x.1 := by kernel_rfl
theorem wM_.contract : Contract Tryz.prog gl 70 wM_.spec :=
  contract_of (E := wM_.env) (kn rfl (FnsOK_of ⟨⟨Tryz.func70, Tryz.call70⟩, trivial⟩)) (SpecsOK_of ⟨wi_.contract, trivial⟩) Tryz.call70 rfl rfl fun K x r h => by
    rw [wM_.body_eq]; exact h
def wZ_.spec : Dp.Spec := ⟨Kq5, (.tup (.scons .str (.scons .str (.scons .bool Kq3)))), false, fun K x => wZ_ K x.1⟩
def wZ_.hint : Dp.Hint := { n := 39, conds := [(25, [(.normal, { regs := [(6, .str), (7, .str), (8, .bool)] }), (.ret, { regs := [(2, .str), (3, .str), (4, .bool), (5, (.int .i64))] })])], regions := [(4, [(.normal, { regs := [(6, .str), (7, .str), (8, .bool), (25, .bool)] })])] }
noncomputable def wZ_.env : Dp.Env := ⟨ti, gl, [], [], [(94, Tryz.f94, wZ_.hint)], [(71, wp_.spec), (133, wbd.spec), (70, wM_.spec), (134, items_Unquote.spec)], 0, 40⟩
theorem wZ_.body_eq (K : Nat) (x : wZ_.spec.args.den) : body (wZ_.env.at K) 8 94 wZ_.spec x = wZ_ K x.1 := by kernel_rfl
theorem wZ_.contract : Contract Tryz.prog gl 94 wZ_.spec :=
  contract_of (E := wZ_.env) (kn rfl (FnsOK_of ⟨⟨Tryz.func94, Tryz.call94⟩, trivial⟩)) (SpecsOK_of ⟨wp_.contract, wbd.contract, wM_.contract, items_Unquote.contract, trivial⟩) Tryz.call94 rfl rfl fun K x r h => by
    rw [wZ_.body_eq]; exact h
def wz_.spec : Dp.Spec := ⟨.snil, (.list (.scons .str (.scons (.fnu [135, 136, 137, 138, 139, 140, 141, 142, 144, 145]) .snil))), false, fun K x => wz_ K⟩
def wz_.hint : Dp.Hint := { n := 12 }
noncomputable def wz_.env : Dp.Env := ⟨ti, gl, [], [], [(95, Tryz.f95, wz_.hint)], [], 0, 40⟩
theorem wz_.body_eq (K : Nat) (x : wz_.spec.args.den) : body (wz_.env.at K) 8 95 wz_.spec x = wz_ K := by kernel_rfl
theorem wz_.contract : Contract Tryz.prog gl 95 wz_.spec :=
  contract_of (E := wz_.env) (kn rfl (FnsOK_of ⟨⟨Tryz.func95, Tryz.call95⟩, trivial⟩)) (SpecsOK_of trivial) Tryz.call95 rfl rfl fun K x r h => by
    rw [wz_.body_eq]; exact h
def wC_.spec : Dp.Spec := ⟨(.scons .str Kq3), (.int .i64), false, fun K x => wC_ K x.1 x.2.1⟩
def wC_.hint : Dp.Hint := { n := 16 }
noncomputable def wC_.env : Dp.Env := ⟨ti, gl, [], [], [(143, Tryz.f143, wC_.hint)], [(90, wj_.spec)], 0, 40⟩
theorem wC_.body_eq (K : Nat) (x : wC_.spec.args.den) : body (wC_.env.at K) 8 143 wC_.spec x = wC_ K x.1 x.2.1 := by kernel_rfl
theorem wC_.contract : Contract Tryz.prog gl 143 wC_.spec :=
  contract_of (E := wC_.env) (kn rfl (FnsOK_of ⟨⟨Tryz.func143, Tryz.call143⟩, trivial⟩)) (SpecsOK_of ⟨wj_.contract, trivial⟩) Tryz.call143 rfl rfl fun K x r h => by
    rw [wC_.body_eq]; exact h
def wL_.spec : Dp.Spec := ⟨(.scons (.int .i64) Kq3), (.int .i64), false, fun K x => wL_ K x.1 x.2.1⟩
def wL_.hint : Dp.Hint := { n := 23, regions := [(1, [(.normal, { regs := [(0, (.int .i64)), (1, (.int .i64)), (5, .bool)] })])] }
noncomputable def wL_.env : Dp.Env := ⟨ti, gl, [], [], [(19, Tryz.f19, wL_.hint)], [], 0, 40⟩
theorem wL_.body_eq (K : Nat) (x : wL_.spec.args.den) : body (wL_.env.at K) 8 19 wL_.spec x = wL_ K x.1 x.2.1 := by kernel_rfl
theorem wL_.contract : Contract Tryz.prog gl 19 wL_.spec :=
  contract_of (E := wL_.env) (kn rfl (FnsOK_of ⟨⟨Tryz.func19, Tryz.call19⟩, trivial⟩)) (SpecsOK_of trivial) Tryz.call19 rfl rfl fun K x r h => by
    rw [wL_.body_eq]; exact h
def wa_.spec : Dp.Spec := ⟨(.scons (.list Kq2) .snil), Kq0, false, fun K x => wa_ K x.1⟩
def wa_.hint : Dp.Hint := { n := 25, conds := [(12, [(.normal, { regs := [(2, (.loc 0 false [])), (3, (.loc 1 false []))], heap := [Kq0, (.scons Kq0 .snil)] })])] }
def wa_.hint52 : Dp.Hint := { n := 40, regions := [(6, [(.normal, { regs := [(1, (.bm 54 (.scons (.loc 1 false []) .snil))), (5, .bool), (8, (.list .str)), (12, (.list .str)), (13, (.int .i64)), (14, (.int .i64))], heap := [Kq0, (.scons Kq0 .snil)] })]), (10, [(.normal, { regs := [(1, (.bm 54 (.scons (.loc 1 false []) .snil))), (5, .bool), (12, (.list .str)), (13, (.int .i64)), (14, (.int .i64)), (28, (.list .str)), (29, (.int .i64)), (30, (.int .i64))], heap := [Kq0, (.scons Kq0 .snil)] })])], loops := [(3, { regs := [(1, (.bm 54 (.scons (.loc 1 false []) .snil))), (5, .bool), (12, (.list .str)), (13, (.int .i64)), (14, (.int .i64))], heap := [Kq0, (.scons Kq0 .snil)] }, [(.exit 0, { regs := [(5, .bool)], heap := [Kq0, (.scons Kq0 .snil)] })]), (8, { regs := [(1, (.bm 54 (.scons (.loc 1 false []) .snil))), (5, .bool), (12, (.list .str)), (13, (.int .i64)), (14, (.int .i64)), (28, (.list .str)), (29, (.int .i64)), (30, (.int .i64))], heap := [Kq0, (.scons Kq0 .snil)] }, [(.exit 2, { regs := [(1, (.bm 54 (.scons (.loc 1 false []) .snil))), (5, .bool), (12, (.list .str)), (13, (.int .i64)), (14, (.int .i64))], heap := [Kq0, (.scons Kq0 .snil)] })])] }
def wa_.hint54 : Dp.Hint := { n := 35, conds := [(28, [(.normal, { regs := [(0, (.loc 1 false [])), (4, .str), (5, .str), (19, (.list (.scons .str (.scons (.fnu [135, 136, 137, 138, 139, 140, 141, 142, 144, 145]) .snil)))), (20, (.int .i64)), (21, (.int .i64))], heap := [Kq0, (.scons Kq0 .snil), (.scons .str (.scons (.fnu [135, 136, 137, 138, 139, 140, 141, 142, 144, 145]) .snil))] })])], regions := [(6, [(.normal, { regs := [(0, (.loc 1 false [])), (4, .str), (5, .str), (19, (.list (.scons .str (.scons (.fnu [135, 136, 137, 138, 139, 140, 141, 142, 144, 145]) .snil)))), (20, (.int .i64)), (21, (.int .i64))], heap := [Kq0, (.scons Kq0 .snil), (.scons .str (.scons (.fnu [135, 136, 137, 138, 139, 140, 141, 142, 144, 145]) .snil))] })])], loops := [(3, { regs := [(0, (.loc 1 false [])), (4, .str), (5, .str), (19, (.list (.scons .str (.scons (.fnu [135, 136, 137, 138, 139, 140, 141, 142, 144, 145]) .snil)))), (20, (.int .i64)), (21, (.int .i64))], heap := [Kq0, (.scons Kq0 .snil)] }, [(.exit 0, { regs := [], heap := [Kq0, (.scons Kq0 .snil)] })])] }
def wa_.hint135 : Dp.Hint := { n := 8 }
def wa_.hint136 : Dp.Hint := { n := 8 }
def wa_.hint137 : Dp.Hint := { n := 8 }
def wa_.hint138 : Dp.Hint := { n := 8 }
def wa_.hint139 : Dp.Hint := { n := 8 }
def wa_.hint140 : Dp.Hint := { n := 8 }
def wa_.hint141 : Dp.Hint := { n := 8 }
def wa_.hint142 : Dp.Hint := { n := 16 }
def wa_.hint144 : Dp.Hint := { n := 16 }
def wa_.hint145 : Dp.Hint := { n := 16 }
noncomputable def wa_.env : Dp.Env := ⟨ti, gl, [], [], [(13, Tryz.f13, wa_.hint), (52, Tryz.f52, wa_.hint52), (54, Tryz.f54, wa_.hint54), (135, Tryz.f135, wa_.hint135), (136, Tryz.f136, wa_.hint136), (137, Tryz.f137, wa_.hint137), (138, Tryz.f138, wa_.hint138), (139, Tryz.f139, wa_.hint139), (140, Tryz.f140, wa_.hint140), (141, Tryz.f141, wa_.hint141), (142, Tryz.f142, wa_.hint142), (144, Tryz.f144, wa_.hint144), (145, Tryz.f145, wa_.hint145)], [(53, wq_.spec), (69, wo_.spec), (94, wZ_.spec), (95, wz_.spec), (143, wC_.spec), (19, wL_.spec)], 0, 40⟩
noncomputable def wa_.r0 (K : Nat) : Nat → (Jq14 × Jq0) → Option (((Unit) × Jq0)) :=
  loopV [(.exit 0, { regs := [], heap := [Kq0, (.scons Kq0 .snil)] })] { regs := [(0, (.loc 1 false [])), (4, .str), (5, .str), (19, (.list (.scons .str (.scons (.fnu [135, 136, 137, 138, 139, 140, 141, 142, 144, 145]) .snil)))), (20, (.int .i64)), (21, (.int .i64))], heap := [Kq0, (.scons Kq0 .snil)] } (interp (wa_.env.at K) wa_.hint54 (callF (wa_.env.at K) 5) (Code.sub [1, 1, 1, 0, 0] (Tryz.f54.body.getD .skip)) _)
theorem wa_.s0 (K n : Nat) (x : (Jq14 × Jq0)) : wa_.r0 K (n + 1) x = wa_.t0 K (wa_.r0 K n) x := by kernel_rfl
theorem wa_.e0 (K n : Nat) : wa_.r0 K n = wa_.l0 K n := eqR (l := wa_.l0 K) _ (wa_.s0 K) (fun _ _ => rfl) (fun _ => rfl) n
noncomputable def wa_.r1 (K : Nat) : Nat → ((Jq11 × ((Bool) × Jq8)) × Jq0) → Option (Jq15) :=
  loopV [(.exit 2, { regs := [(1, (.bm 54 (.scons (.loc 1 false []) .snil))), (5, .bool), (12, (.list .str)), (13, (.int .i64)), (14, (.int .i64))], heap := [Kq0, (.scons Kq0 .snil)] })] { regs := [(1, (.bm 54 (.scons (.loc 1 false []) .snil))), (5, .bool), (12, (.list .str)), (13, (.int .i64)), (14, (.int .i64)), (28, (.list .str)), (29, (.int .i64)), (30, (.int .i64))], heap := [Kq0, (.scons Kq0 .snil)] } (interp (wa_.env.at K) wa_.hint52 (callF (wa_.env.at K) 6) (Code.sub [1, 1, 0, 1, 0, 0, 1, 1, 0, 0, 1, 1, 1, 1, 0, 0] (Tryz.f52.body.getD .skip)) _)
theorem wa_.s1 (K n : Nat) (x : ((Jq11 × ((Bool) × Jq8)) × Jq0)) : wa_.r1 K (n + 1) x = wa_.t1 (wa_.r0 K) K (wa_.r1 K n) x := by kernel_rfl
theorem wa_.e1 (K n : Nat) : wa_.r1 K n = wa_.l1 K n := by
  induction n with
  | zero => funext x; rfl
  | succ n ih => funext x; rw [wa_.s1, ih, show wa_.r0 K = wa_.l0 K from funext (wa_.e0 K)]; rfl
noncomputable def wa_.r2 (K : Nat) : Nat → Jq15 → Option ((Jq6 × Jq0)) :=
  loopV [(.exit 0, { regs := [(5, .bool)], heap := [Kq0, (.scons Kq0 .snil)] })] { regs := [(1, (.bm 54 (.scons (.loc 1 false []) .snil))), (5, .bool), (12, (.list .str)), (13, (.int .i64)), (14, (.int .i64))], heap := [Kq0, (.scons Kq0 .snil)] } (interp (wa_.env.at K) wa_.hint52 (callF (wa_.env.at K) 6) (Code.sub [1, 1, 0, 1, 0, 0] (Tryz.f52.body.getD .skip)) _)
theorem wa_.s2 (K n : Nat) (x : Jq15) : wa_.r2 K (n + 1) x = wa_.t2 (wa_.r1 K) K (wa_.r2 K n) x := by kernel_rfl
theorem wa_.e2 (K n : Nat) : wa_.r2 K n = wa_.l2 K n := by
  induction n with
  | zero => funext x; rfl
  | succ n ih => funext x; rw [wa_.s2, ih, show wa_.r1 K = wa_.l1 K from funext (wa_.e1 K)]; rfl
theorem wa_.body_eq (K : Nat) (x : wa_.spec.args.den) : body (wa_.env.at K) 8 13 wa_.spec x = wa_.tr (wa_.r2 K) K x.1 := by kernel_rfl
theorem wa_.contract : Contract Tryz.prog gl 13 wa_.spec :=
  contract_of (E := wa_.env) (kn rfl (FnsOK_of ⟨⟨Tryz.func13, Tryz.call13⟩, ⟨Tryz.func52, Tryz.call52⟩, ⟨Tryz.func54, Tryz.call54⟩, ⟨Tryz.func135, Tryz.call135⟩, ⟨Tryz.func136, Tryz.call136⟩, ⟨Tryz.func137, Tryz.call137⟩, ⟨Tryz.func138, Tryz.call138⟩, ⟨Tryz.func139, Tryz.call139⟩, ⟨Tryz.func140, Tryz.call140⟩, ⟨Tryz.func141, Tryz.call141⟩, ⟨Tryz.func142, Tryz.call142⟩, ⟨Tryz.func144, Tryz.call144⟩, ⟨Tryz.func145, Tryz.call145⟩, trivial⟩)) (SpecsOK_of ⟨wq_.contract, wo_.contract, wZ_.contract, wz_.contract, wC_.contract, wL_.contract, trivial⟩) Tryz.call13 rfl rfl fun K x r h => by
    rw [wa_.body_eq, show wa_.r2 K = wa_.l2 K from funext (wa_.e2 K)]; exact h
def wbf.spec : Dp.Spec := ⟨(.scons (.list Kq2) Kq5), (.tup (.scons .str (.scons .bool .snil))), false, fun K x => wbf K x.1 x.2.1⟩
def wbf.hint : Dp.Hint := { n := 15 }
noncomputable def wbf.env : Dp.Env := ⟨ti, gl, [], [], [(59, Tryz.f59, wbf.hint)], [(53, wq_.spec), (97, joinS.spec)], 0, 40⟩
theorem wbf.body_eq (K : Nat) (x : wbf.spec.args.den) : body (wbf.env.at K) 8 59 wbf.spec x = wbf K x.1 x.2.1 := by kernel_rfl
theorem wbf.contract : Contract Tryz.prog gl 59 wbf.spec :=
  contract_of (E := wbf.env) (kn rfl (FnsOK_of ⟨⟨Tryz.func59, Tryz.call59⟩, trivial⟩)) (SpecsOK_of ⟨wq_.contract, joinS.contract, trivial⟩) Tryz.call59 rfl rfl fun K x r h => by
    rw [wbf.body_eq]; exact h
def wB_.spec : Dp.Spec := ⟨(.scons .str (.scons (.ref Kq1) .snil)), (.tup (.scons (.int .i64) (.scons .bool .snil))), false, fun K x => wB_ K x.1 x.2.1⟩
def wB_.hint : Dp.Hint := { n := 12 }
noncomputable def wB_.env : Dp.Env := ⟨ti, gl, [], [], [(85, Tryz.f85, wB_.hint)], [(43, w8_.spec)], 0, 40⟩
theorem wB_.body_eq (K : Nat) (x : wB_.spec.args.den) : body (wB_.env.at K) 8 85 wB_.spec x = wB_ K x.1 x.2.1 := by kernel_rfl
theorem wB_.contract : Contract Tryz.prog gl 85 wB_.spec :=
  contract_of (E := wB_.env) (kn rfl (FnsOK_of ⟨⟨Tryz.func85, Tryz.call85⟩, trivial⟩)) (SpecsOK_of ⟨w8_.contract, trivial⟩) Tryz.call85 rfl rfl fun K x r h => by
    rw [wB_.body_eq]; exact h
def w1_.spec : Dp.Spec := ⟨Kq3, .bool, false, fun K x => w1_ K x.1⟩
def w1_.hint : Dp.Hint := { n := 16 }
noncomputable def w1_.env : Dp.Env := ⟨ti, gl, [], [], [(49, Tryz.f49, w1_.hint)], [], 0, 40⟩
theorem w1_.body_eq (K : Nat) (x : w1_.spec.args.den) : body (w1_.env.at K) 8 49 w1_.spec x = w1_ K x.1 := by kernel_rfl
theorem w1_.contract : Contract Tryz.prog gl 49 w1_.spec :=
  contract_of (E := w1_.env) (kn rfl (FnsOK_of ⟨⟨Tryz.func49, Tryz.call49⟩, trivial⟩)) (SpecsOK_of trivial) Tryz.call49 rfl rfl fun K x r h => by
    rw [w1_.body_eq]; exact h
def ww_.spec : Dp.Spec := ⟨(.scons Kq1 .snil), (.int .i64), false, fun K x => ww_ K x.1⟩
def ww_.hint : Dp.Hint := { n := 67, regions := [(14, [(.normal, { regs := [(1, (.ref Kq1)), (9, (.int .i64)), (60, .bool)], heap := [Kq0] })])], imm := [1] }
noncomputable def ww_.env : Dp.Env := ⟨ti, gl, [], [], [(37, Tryz.f37, ww_.hint)], [(45, w2_.spec), (82, wX_.spec), (13, wa_.spec), (59, wbf.spec), (85, wB_.spec), (49, w1_.spec)], 0, 40⟩
theorem ww_.body_eq (K : Nat) (x : ww_.spec.args.den) : body (ww_.env.at K) 8 37 ww_.spec x = ww_ K x.1 := by kernel_rfl
theorem ww_.contract : Contract Tryz.prog gl 37 ww_.spec :=
  contract_of (E := ww_.env) (kn rfl (FnsOK_of ⟨⟨Tryz.func37, Tryz.call37⟩, trivial⟩)) (SpecsOK_of ⟨w2_.contract, wX_.contract, wa_.contract, wbf.contract, wB_.contract, w1_.contract, trivial⟩) Tryz.call37 rfl rfl fun K x r h => by
    rw [ww_.body_eq]; exact h
def wbb.spec : Dp.Spec := ⟨(.scons Kq1 Kq3), .bool, false, fun K x => wbb K x.1 x.2.1⟩
def wbb.hint : Dp.Hint := { n := 11, imm := [2] }
noncomputable def wbb.env : Dp.Env := ⟨ti, gl, [], [], [(39, Tryz.f39, wbb.hint)], [(35, wbh.spec), (37, ww_.spec)], 0, 40⟩
theorem wbb.body_eq (K : Nat) (x : wbb.spec.args.den) : body (wbb.env.at K) 8 39 wbb.spec x = wbb K x.1 x.2.1 := by kernel_rfl
theorem wbb.contract : Contract Tryz.prog gl 39 wbb.spec :=
  contract_of (E := wbb.env) (kn rfl (FnsOK_of ⟨⟨Tryz.func39, Tryz.call39⟩, trivial⟩)) (SpecsOK_of ⟨wbh.contract, ww_.contract, trivial⟩) Tryz.call39 rfl rfl fun K x r h => by
    rw [wbb.body_eq]; exact h
def wW_.spec : Dp.Spec := ⟨(.scons (.int .i64) Kq3), (.int .i64), false, fun K x => wW_ K x.1 x.2.1⟩
def wW_.hint : Dp.Hint := { n := 11 }
noncomputable def wW_.env : Dp.Env := ⟨ti, gl, [], [], [(86, Tryz.f86, wW_.hint)], [(114, wK_.spec)], 0, 40⟩
theorem wW_.body_eq (K : Nat) (x : wW_.spec.args.den) : body (wW_.env.at K) 8 86 wW_.spec x = wW_ K x.1 x.2.1 := by kernel_rfl
theorem wW_.contract : Contract Tryz.prog gl 86 wW_.spec :=
  contract_of (E := wW_.env) (kn rfl (FnsOK_of ⟨⟨Tryz.func86, Tryz.call86⟩, trivial⟩)) (SpecsOK_of ⟨wK_.contract, trivial⟩) Tryz.call86 rfl rfl fun K x r h => by
    rw [wW_.body_eq]; exact h
def wbl.spec : Dp.Spec := ⟨(.scons Kq1 Kq3), (.int .i64), false, fun K x => wbl K x.1 x.2.1⟩
def wbl.hint : Dp.Hint := { n := 11, imm := [2] }
noncomputable def wbl.env : Dp.Env := ⟨ti, gl, [], [], [(41, Tryz.f41, wbl.hint)], [(35, wbh.spec), (37, ww_.spec), (86, wW_.spec)], 0, 40⟩
theorem wbl.body_eq (K : Nat) (x : wbl.spec.args.den) : body (wbl.env.at K) 8 41 wbl.spec x = wbl K x.1 x.2.1 := by kernel_rfl
theorem wbl.contract : Contract Tryz.prog gl 41 wbl.spec :=
  contract_of (E := wbl.env) (kn rfl (FnsOK_of ⟨⟨Tryz.func41, Tryz.call41⟩, trivial⟩)) (SpecsOK_of ⟨wbh.contract, ww_.contract, wW_.contract, trivial⟩) Tryz.call41 rfl rfl fun K x r h => by
    rw [wbl.body_eq]; exact h
def wA_.spec : Dp.Spec := ⟨.snil, .bool, false, fun K x => wA_ K⟩
def wA_.hint : Dp.Hint := { n := 72 }
noncomputable def wA_.env : Dp.Env := ⟨ti, gl, [], [], [(34, Tryz.f34, wA_.hint)], [(43, w8_.spec), (47, wr_.spec), (45, w2_.spec), (35, wbh.spec), (49, w1_.spec), (37, ww_.spec), (39, wbb.spec), (41, wbl.spec)], 0, 40⟩
theorem wA_.body_eq (K : Nat) (x : wA_.spec.args.den) : body (wA_.env.at K) 8 34 wA_.spec x = wA_ K := by kernel_rfl
theorem wA_.contract : Contract Tryz.prog gl 34 wA_.spec :=
  contract_of (E := wA_.env) (kn rfl (FnsOK_of ⟨⟨Tryz.func34, Tryz.call34⟩, trivial⟩)) (SpecsOK_of ⟨w8_.contract, wr_.contract, w2_.contract, wbh.contract, w1_.contract, ww_.contract, wbb.contract, wbl.contract, trivial⟩) Tryz.call34 rfl rfl fun K x r h => by
    rw [wA_.body_eq]; exact h
def wb_.spec : Dp.Spec := ⟨(.scons Kq1 (.scons (.int .i64) Kq3)), .bool, false, fun K x => wb_ K x.1 x.2.1 x.2.2.1⟩
def wb_.hint : Dp.Hint := { n := 104, conds := [(58, [(.normal, { regs := [(1, (.int .i64)), (2, (.int .i64)), (3, (.ref Kq1)), (7, (.slw 0)), (8, (.int .i64))], heap := [(.row Kq2), Kq2], app := [0] })])], regions := [(1, [(.normal, { regs := [(1, (.int .i64)), (2, (.int .i64)), (3, (.ref Kq1)), (39, .bool)] })])], loops := [(5, { regs := [(1, (.int .i64)), (2, (.int .i64)), (3, (.ref Kq1)), (7, (.slw 0)), (8, (.int .i64))], heap := [(.row Kq2)], app := [0] }, [(.exit 0, { regs := [(1, (.int .i64)), (2, (.int .i64)), (3, (.ref Kq1)), (7, (.slw 0))], heap := [(.row Kq2)], app := [0] })])], own := [7, 72, 84], imm := [3] }
noncomputable def wb_.env : Dp.Env := ⟨ti, gl, [], [], [(10, Tryz.f10, wb_.hint)], [(33, wt_.spec), (37, ww_.spec), (34, wA_.spec)], 0, 40⟩
noncomputable def wb_.r0 (K : Nat) : Nat → (((Int) × ((Int) × (Jq3 × ((Unit) × Jq7)))) × ((List Jq1) × (Unit))) → Option ((((Int) × ((Int) × (Jq3 × ((Unit) × (Unit))))) × ((List Jq1) × (Unit)))) :=
  loopV [(.exit 0, { regs := [(1, (.int .i64)), (2, (.int .i64)), (3, (.ref Kq1)), (7, (.slw 0))], heap := [(.row Kq2)], app := [0] })] { regs := [(1, (.int .i64)), (2, (.int .i64)), (3, (.ref Kq1)), (7, (.slw 0)), (8, (.int .i64))], heap := [(.row Kq2)], app := [0] } (interp (wb_.env.at K) wb_.hint (callF (wb_.env.at K) 7) (Code.sub [1, 1, 1, 0, 1, 0, 0] (Tryz.f10.body.getD .skip)) _)
theorem wb_.s0 (K n : Nat) (x : (((Int) × ((Int) × (Jq3 × ((Unit) × Jq7)))) × ((List Jq1) × (Unit)))) : wb_.r0 K (n + 1) x = wb_.t0 K (wb_.r0 K n) x := by kernel_rfl
theorem wb_.e0 (K n : Nat) : wb_.r0 K n = wb_.l0 K n := eqR (l := wb_.l0 K) _ (wb_.s0 K) (fun _ _ => rfl) (fun _ => rfl) n
theorem wb_.body_eq (K : Nat) (x : wb_.spec.args.den) : body (wb_.env.at K) 8 10 wb_.spec x = wb_.tr (wb_.r0 K) K x.1 x.2.1 x.2.2.1 := by kernel_rfl
theorem wb_.contract : Contract Tryz.prog gl 10 wb_.spec :=
  contract_of (E := wb_.env) (kn rfl (FnsOK_of ⟨⟨Tryz.func10, Tryz.call10⟩, trivial⟩)) (SpecsOK_of ⟨wt_.contract, ww_.contract, wA_.contract, trivial⟩) Tryz.call10 rfl rfl fun K x r h => by
    rw [wb_.body_eq, show wb_.r0 K = wb_.l0 K from funext (wb_.e0 K)]; exact h
end Go.Proofs.X
