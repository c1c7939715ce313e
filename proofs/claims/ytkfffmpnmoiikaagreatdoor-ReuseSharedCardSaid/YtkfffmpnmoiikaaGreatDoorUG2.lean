/- That the machine comes to the plain functions. No condition. -/
import Derived.Test.YtkfffmpnmoiikaaGreatDoorUG1
import Derived.Test.YtkfffmpnmoiikaaGreatDoorUS2
import Derived.Test.YtkfffmpnmoiikaaGreatDoorUS3
import Derived.Test.YtkfffmpnmoiikaaGreatDoorChecked
import Derived.KernelRfl
import Derived.Eval
set_option linter.unusedVariables false
set_option maxRecDepth 20000
namespace Go.Proofs.X
open Go Go.Dp
abbrev Kq4 : Dp.Ty := .scons (.int .i64) .snil
abbrev Kq8 : Dp.Ty := .scons (.int .i64) Kq4
abbrev Kq0 : Dp.Ty := .scons .bool (.scons .bool (.scons .bool (.scons .bool (.scons .bool (.scons .bool (.scons (.int .i64) Kq8))))))
abbrev Kq3 : Dp.Ty := .scons .str .snil
abbrev Kq5 : Dp.Ty := .scons .str Kq3
abbrev Kq1 : Dp.Ty := .scons .str (.scons (.int .i64) (.scons (.list Kq5) Kq3))
abbrev Kq6 : Dp.Ty := .scons (.int .i64) Kq1
abbrev Kq7 : Dp.Ty := .scons .bool Kq3
abbrev Kq2 : Dp.Ty := .scons Kq6 (.scons (.int .i64) (.scons (.list (.scons .str Kq7)) .snil))
abbrev Kq9 : Dp.Ty := .fn 220 (.scons (.ref (.int .u8)) (.scons (.ref (.int .u8)) .snil))
abbrev Kq10 : Dp.Ty := .scons (.int .u8) .snil
abbrev Kq11 : Dp.Ty := .scons .str Kq1
abbrev Kq12 : Dp.Ty := .scons .bool .snil
def ti : List (Nat × TI) := [(1, ⟨.fn, 1, 8, .nilf⟩),
  (2, ⟨.int .i64, 1, 8, (.int .i64)⟩),
  (3, ⟨.int .i64, 1, 8, (.int .i64)⟩),
  (4, ⟨.bool, 1, 1, .bool⟩),
  (5, ⟨.int .u8, 1, 1, (.int .u8)⟩),
  (6, ⟨.int .u8, 1, 1, (.int .u8)⟩),
  (9, ⟨.str, 1, 16, .str⟩),
  (10, ⟨.str, 1, 16, .str⟩),
  (11, ⟨.str, 1, 16, .str⟩),
  (12, ⟨.int .u64, 1, 8, (.int .u64)⟩),
  (15, ⟨.ptr 259, 1, 8, .nilp⟩),
  (16, ⟨.ptr 262, 1, 8, .nilp⟩),
  (17, ⟨.ptr 269, 1, 8, .nilp⟩),
  (18, ⟨.struct [(17, 0)], 1, 8, (.scons .nilp .snil)⟩),
  (19, ⟨.struct [(17, 0)], 1, 8, (.scons .nilp .snil)⟩),
  (20, ⟨.iface false, 1, 16, .nili⟩),
  (21, ⟨.int .i32, 1, 4, (.int .i32)⟩),
  (22, ⟨.slice 43, 1, 24, (.list Kq5)⟩),
  (23, ⟨.struct [(9, 0), (9, 1), (3, 2), (22, 3), (9, 4)], 5, 80, Kq11⟩),
  (24, ⟨.struct [(9, 0), (9, 1), (3, 2), (22, 3), (9, 4)], 5, 80, Kq11⟩),
  (25, ⟨.struct [(3, 0), (9, 1), (3, 2), (22, 3), (9, 4)], 5, 72, Kq6⟩),
  (26, ⟨.struct [(3, 0), (9, 1), (3, 2), (22, 3), (9, 4)], 5, 72, Kq6⟩),
  (27, ⟨.fn, 1, 8, .nilf⟩),
  (28, ⟨.fn, 1, 8, .nilf⟩),
  (29, ⟨.fn, 1, 8, .nilf⟩),
  (30, ⟨.fn, 1, 8, .nilf⟩),
  (31, ⟨.fn, 1, 8, .nilf⟩),
  (32, ⟨.fn, 1, 8, .nilf⟩),
  (33, ⟨.fn, 1, 8, .nilf⟩),
  (34, ⟨.fn, 1, 8, .nilf⟩),
  (35, ⟨.slice 82, 1, 24, (.list (.scons .str Kq7))⟩),
  (36, ⟨.struct [(26, 0), (3, 5), (35, 6)], 7, 104, Kq2⟩),
  (37, ⟨.struct [(26, 0), (3, 5), (35, 6)], 7, 104, Kq2⟩),
  (38, ⟨.fn, 1, 8, .nilf⟩),
  (39, ⟨.fn, 1, 8, .nilf⟩),
  (40, ⟨.fn, 1, 8, .nilf⟩),
  (41, ⟨.fn, 1, 8, .nilf⟩),
  (42, ⟨.struct [(9, 0), (9, 1)], 2, 32, Kq5⟩),
  (43, ⟨.struct [(9, 0), (9, 1)], 2, 32, Kq5⟩),
  (44, ⟨.fn, 1, 8, .nilf⟩),
  (46, ⟨.fn, 1, 8, .nilf⟩),
  (47, ⟨.fn, 1, 8, .nilf⟩),
  (48, ⟨.struct [(4, 0), (9, 1)], 2, 24, Kq7⟩),
  (49, ⟨.struct [(4, 0), (9, 1)], 2, 24, Kq7⟩),
  (51, ⟨.fn, 1, 8, .nilf⟩),
  (52, ⟨.fn, 1, 8, .nilf⟩),
  (53, ⟨.fn, 1, 8, .nilf⟩),
  (54, ⟨.fn, 1, 8, .nilf⟩),
  (55, ⟨.fn, 1, 8, .nilf⟩),
  (56, ⟨.fn, 1, 8, .nilf⟩),
  (57, ⟨.fn, 1, 8, .nilf⟩),
  (58, ⟨.fn, 1, 8, .nilf⟩),
  (59, ⟨.struct [(4, 0), (4, 1), (4, 2), (4, 3), (4, 4), (4, 5), (3, 6), (3, 7), (3, 8)], 9, 32, Kq0⟩),
  (60, ⟨.struct [(4, 0), (4, 1), (4, 2), (4, 3), (4, 4), (4, 5), (3, 6), (3, 7), (3, 8)], 9, 32, Kq0⟩),
  (61, ⟨.fn, 1, 8, .nilf⟩),
  (62, ⟨.fn, 1, 8, .nilf⟩),
  (63, ⟨.fn, 1, 8, .nilf⟩),
  (64, ⟨.fn, 1, 8, .nilf⟩),
  (65, ⟨.fn, 1, 8, .nilf⟩),
  (66, ⟨.struct [(26, 0)], 5, 72, (.scons Kq6 .snil)⟩),
  (67, ⟨.struct [(26, 0)], 5, 72, (.scons Kq6 .snil)⟩),
  (68, ⟨.fn, 1, 8, .nilf⟩),
  (70, ⟨.fn, 1, 8, .nilf⟩),
  (71, ⟨.fn, 1, 8, .nilf⟩),
  (72, ⟨.slice 49, 1, 24, (.list Kq7)⟩),
  (74, ⟨.fn, 1, 8, .nilf⟩),
  (75, ⟨.fn, 1, 8, .nilf⟩),
  (76, ⟨.fn, 1, 8, .nilf⟩),
  (77, ⟨.fn, 1, 8, .nilf⟩),
  (78, ⟨.slice 9, 1, 24, (.list .str)⟩),
  (79, ⟨.fn, 1, 8, .nilf⟩),
  (80, ⟨.fn, 1, 8, .nilf⟩),
  (81, ⟨.struct [(9, 0), (4, 1), (9, 2)], 3, 40, (.scons .str Kq7)⟩),
  (82, ⟨.struct [(9, 0), (4, 1), (9, 2)], 3, 40, (.scons .str Kq7)⟩),
  (83, ⟨.fn, 1, 8, .nilf⟩),
  (84, ⟨.fn, 1, 8, .nilf⟩),
  (85, ⟨.fn, 1, 8, .nilf⟩),
  (86, ⟨.fn, 1, 8, .nilf⟩),
  (87, ⟨.fn, 1, 8, .nilf⟩),
  (88, ⟨.fn, 1, 8, .nilf⟩),
  (89, ⟨.fn, 1, 8, .nilf⟩),
  (90, ⟨.fn, 1, 8, .nilf⟩),
  (91, ⟨.fn, 1, 8, .nilf⟩),
  (92, ⟨.fn, 1, 8, .nilf⟩),
  (94, ⟨.fn, 1, 8, .nilf⟩),
  (95, ⟨.fn, 1, 8, .nilf⟩),
  (96, ⟨.fn, 1, 8, .nilf⟩),
  (97, ⟨.fn, 1, 8, .nilf⟩),
  (98, ⟨.ptr 100, 1, 8, .nilp⟩),
  (99, ⟨.struct [(60, 0)], 9, 32, (.scons Kq0 .snil)⟩),
  (100, ⟨.struct [(60, 0)], 9, 32, (.scons Kq0 .snil)⟩),
  (101, ⟨.fn, 1, 8, .nilf⟩),
  (102, ⟨.fn, 1, 8, .nilf⟩),
  (103, ⟨.fn, 1, 8, .nilf⟩),
  (104, ⟨.fn, 1, 8, .nilf⟩),
  (105, ⟨.fn, 1, 8, .nilf⟩),
  (106, ⟨.fn, 1, 8, .nilf⟩),
  (107, ⟨.int .i64, 1, 8, (.int .i64)⟩),
  (109, ⟨.fn, 1, 8, .nilf⟩),
  (111, ⟨.fn, 1, 8, .nilf⟩),
  (112, ⟨.fn, 1, 8, .nilf⟩),
  (113, ⟨.fn, 1, 8, .nilf⟩),
  (115, ⟨.fn, 1, 8, .nilf⟩),
  (116, ⟨.struct [(3, 0), (9, 1)], 2, 24, (.scons (.int .i64) Kq3)⟩),
  (117, ⟨.struct [(3, 0), (9, 1)], 2, 24, (.scons (.int .i64) Kq3)⟩),
  (118, ⟨.arr 5 117, 10, 120, (.arr 5 (.scons (.int .i64) Kq3))⟩),
  (119, ⟨.fn, 1, 8, .nilf⟩),
  (120, ⟨.arr 10 9, 10, 160, (.arr 10 .str)⟩),
  (121, ⟨.fn, 1, 8, .nilf⟩),
  (122, ⟨.fn, 1, 8, .nilf⟩),
  (123, ⟨.ptr 126, 1, 8, .nilp⟩),
  (124, ⟨.slice 5, 1, 24, (.list (.int .u8))⟩),
  (125, ⟨.struct [(123, 0), (124, 1)], 2, 32, (.scons .nilp (.scons (.list (.int .u8)) .snil))⟩),
  (126, ⟨.struct [(123, 0), (124, 1)], 2, 32, (.scons .nilp (.scons (.list (.int .u8)) .snil))⟩),
  (127, ⟨.fn, 1, 8, .nilf⟩),
  (128, ⟨.iface true, 1, 16, .nili⟩),
  (129, ⟨.iface true, 1, 16, .nili⟩),
  (131, ⟨.fn, 1, 8, .nilf⟩),
  (132, ⟨.fn, 1, 8, .nilf⟩),
  (133, ⟨.fn, 1, 8, .nilf⟩),
  (134, ⟨.fn, 1, 8, .nilf⟩),
  (135, ⟨.slice 29, 1, 24, (.list .nilf)⟩),
  (136, ⟨.map 9 3, 1, 8, .unk⟩),
  (138, ⟨.fn, 1, 8, .nilf⟩),
  (139, ⟨.fn, 1, 8, .nilf⟩),
  (141, ⟨.fn, 1, 8, .nilf⟩),
  (142, ⟨.fn, 1, 8, .nilf⟩),
  (143, ⟨.fn, 1, 8, .nilf⟩),
  (145, ⟨.fn, 1, 8, .nilf⟩),
  (146, ⟨.fn, 1, 8, .nilf⟩),
  (147, ⟨.slice 3, 1, 24, (.list (.int .i64))⟩),
  (149, ⟨.fn, 1, 8, .nilf⟩),
  (150, ⟨.slice 154, 1, 24, (.list (.scons .str (.scons .nilf .snil)))⟩),
  (151, ⟨.fn, 1, 8, .nilf⟩),
  (152, ⟨.fn, 1, 8, .nilf⟩),
  (153, ⟨.struct [(9, 0), (152, 1)], 2, 24, (.scons .str (.scons .nilf .snil))⟩),
  (154, ⟨.struct [(9, 0), (152, 1)], 2, 24, (.scons .str (.scons .nilf .snil))⟩),
  (155, ⟨.fn, 1, 8, .nilf⟩),
  (156, ⟨.fn, 1, 8, .nilf⟩),
  (157, ⟨.fn, 1, 8, .nilf⟩),
  (158, ⟨.fn, 1, 8, .nilf⟩),
  (159, ⟨.fn, 1, 8, .nilf⟩),
  (160, ⟨.fn, 1, 8, .nilf⟩),
  (161, ⟨.fn, 1, 8, .nilf⟩),
  (162, ⟨.fn, 1, 8, .nilf⟩),
  (163, ⟨.ptr 5, 1, 8, .nilp⟩),
  (164, ⟨.fn, 1, 8, .nilf⟩),
  (165, ⟨.fn, 1, 8, .nilf⟩),
  (166, ⟨.fn, 1, 8, .nilf⟩),
  (167, ⟨.int .u64, 1, 8, (.int .u64)⟩),
  (169, ⟨.fn, 1, 8, .nilf⟩),
  (171, ⟨.fn, 1, 8, .nilf⟩),
  (173, ⟨.fn, 1, 8, .nilf⟩),
  (174, ⟨.fn, 1, 8, .nilf⟩),
  (175, ⟨.fn, 1, 8, .nilf⟩),
  (176, ⟨.fn, 1, 8, .nilf⟩),
  (177, ⟨.fn, 1, 8, .nilf⟩),
  (178, ⟨.fn, 1, 8, .nilf⟩),
  (179, ⟨.fn, 1, 8, .nilf⟩),
  (180, ⟨.fn, 1, 8, .nilf⟩),
  (181, ⟨.struct [(3, 0), (3, 1), (3, 2), (3, 3), (9, 4)], 5, 48, (.scons (.int .i64) (.scons (.int .i64) (.scons (.int .i64) (.scons (.int .i64) Kq3))))⟩),
  (182, ⟨.struct [(3, 0), (3, 1), (3, 2), (3, 3), (9, 4)], 5, 48, (.scons (.int .i64) (.scons (.int .i64) (.scons (.int .i64) (.scons (.int .i64) Kq3))))⟩),
  (183, ⟨.fn, 1, 8, .nilf⟩),
  (184, ⟨.arr 7 9, 7, 112, (.arr 7 .str)⟩),
  (185, ⟨.arr 12 9, 12, 192, (.arr 12 .str)⟩),
  (186, ⟨.fn, 1, 8, .nilf⟩),
  (188, ⟨.fn, 1, 8, .nilf⟩),
  (190, ⟨.fn, 1, 8, .nilf⟩),
  (191, ⟨.fn, 1, 8, .nilf⟩),
  (192, ⟨.fn, 1, 8, .nilf⟩),
  (193, ⟨.fn, 1, 8, .nilf⟩),
  (194, ⟨.fn, 1, 8, .nilf⟩),
  (195, ⟨.int .i64, 1, 8, (.int .i64)⟩),
  (197, ⟨.fn, 1, 8, .nilf⟩),
  (198, ⟨.fn, 1, 8, .nilf⟩),
  (199, ⟨.fn, 1, 8, .nilf⟩),
  (200, ⟨.fn, 1, 8, .nilf⟩),
  (201, ⟨.fn, 1, 8, .nilf⟩),
  (202, ⟨.int .u32, 1, 4, (.int .u32)⟩),
  (203, ⟨.fn, 1, 8, .nilf⟩),
  (204, ⟨.int .u64, 1, 8, (.int .u64)⟩),
  (206, ⟨.fn, 1, 8, .nilf⟩),
  (207, ⟨.fn, 1, 8, .nilf⟩),
  (208, ⟨.fn, 1, 8, .nilf⟩),
  (209, ⟨.arr 256 4, 256, 256, (.arr 256 .bool)⟩),
  (210, ⟨.arr 256 4, 256, 256, (.arr 256 .bool)⟩),
  (212, ⟨.fn, 1, 8, .nilf⟩),
  (213, ⟨.fn, 1, 8, .nilf⟩),
  (214, ⟨.ptr 210, 1, 8, .nilp⟩),
  (215, ⟨.fn, 1, 8, .nilf⟩),
  (216, ⟨.fn, 1, 8, .nilf⟩),
  (217, ⟨.fn, 1, 8, .nilf⟩),
  (218, ⟨.fn, 1, 8, .nilf⟩),
  (219, ⟨.fn, 1, 8, .nilf⟩),
  (220, ⟨.slice 161, 1, 24, (.list .nilf)⟩),
  (221, ⟨.int .u64, 1, 8, (.int .u64)⟩),
  (222, ⟨.fn, 1, 8, .nilf⟩),
  (223, ⟨.fn, 1, 8, .nilf⟩),
  (224, ⟨.fn, 1, 8, .nilf⟩),
  (225, ⟨.ptr 3, 1, 8, .nilp⟩),
  (226, ⟨.fn, 1, 8, .nilf⟩),
  (227, ⟨.fn, 1, 8, .nilf⟩),
  (229, ⟨.fn, 1, 8, .nilf⟩),
  (230, ⟨.fn, 1, 8, .nilf⟩),
  (231, ⟨.fn, 1, 8, .nilf⟩),
  (233, ⟨.fn, 1, 8, .nilf⟩),
  (234, ⟨.fn, 1, 8, .nilf⟩),
  (235, ⟨.ptr 221, 1, 8, .nilp⟩),
  (236, ⟨.fn, 1, 8, .nilf⟩),
  (237, ⟨.fn, 1, 8, .nilf⟩),
  (239, ⟨.fn, 1, 8, .nilf⟩),
  (241, ⟨.fn, 1, 8, .nilf⟩),
  (242, ⟨.fn, 1, 8, .nilf⟩),
  (243, ⟨.arr 256 5, 256, 256, (.arr 256 (.int .u8))⟩),
  (244, ⟨.struct [(5, 0), (5, 1)], 2, 2, (.scons (.int .u8) Kq10)⟩),
  (245, ⟨.struct [(5, 0), (5, 1)], 2, 2, (.scons (.int .u8) Kq10)⟩),
  (246, ⟨.arr 16 245, 32, 32, (.arr 16 (.scons (.int .u8) Kq10))⟩),
  (247, ⟨.fn, 1, 8, .nilf⟩),
  (248, ⟨.fn, 1, 8, .nilf⟩),
  (249, ⟨.arr 24 5, 24, 24, (.arr 24 (.int .u8))⟩),
  (250, ⟨.fn, 1, 8, .nilf⟩),
  (252, ⟨.fn, 1, 8, .nilf⟩),
  (253, ⟨.fn, 1, 8, .nilf⟩),
  (254, ⟨.arr 20 204, 20, 160, (.arr 20 (.int .u64))⟩),
  (255, ⟨.arr 65 5, 65, 65, (.arr 65 (.int .u8))⟩),
  (256, ⟨.arr 32 5, 32, 32, (.arr 32 (.int .u8))⟩),
  (257, ⟨.arr 64 5, 64, 64, (.arr 64 (.int .u8))⟩),
  (260, ⟨.arr 0 16, 0, 0, (.arr 0 .nilp)⟩),
  (263, ⟨.int .u8, 1, 1, (.int .u8)⟩),
  (264, ⟨.int .u8, 1, 1, (.int .u8)⟩),
  (265, ⟨.fn, 1, 8, .nilf⟩),
  (266, ⟨.int .i32, 1, 4, (.int .i32)⟩),
  (267, ⟨.int .i32, 1, 4, (.int .i32)⟩),
  (268, ⟨.struct [(12, 0), (12, 1), (202, 2), (263, 3), (5, 4), (5, 5), (264, 6), (265, 7), (163, 8), (266, 9), (267, 10)], 11, 48, (.scons (.int .u64) (.scons (.int .u64) (.scons (.int .u32) (.scons (.int .u8) (.scons (.int .u8) (.scons (.int .u8) (.scons (.int .u8) (.scons .nilf (.scons .nilp (.scons (.int .i32) (.scons (.int .i32) .snil)))))))))))⟩),
  (269, ⟨.struct [(12, 0), (12, 1), (202, 2), (263, 3), (5, 4), (5, 5), (264, 6), (265, 7), (163, 8), (266, 9), (267, 10)], 11, 48, (.scons (.int .u64) (.scons (.int .u64) (.scons (.int .u32) (.scons (.int .u8) (.scons (.int .u8) (.scons (.int .u8) (.scons (.int .u8) (.scons .nilf (.scons .nilp (.scons (.int .i32) (.scons (.int .i32) .snil)))))))))))⟩)]
def gl : List (Nat × TV) := [(2, ⟨.ref (.arr 7 .str), wcY⟩), (3, ⟨.ref (.arr 12 .str), wcG⟩), (7, ⟨.ref (.arr 20 (.int .u64)), wdq⟩)]
theorem tiOK : ti.all (fun p => tiOK1 Tryz.prog p.1 p.2) = true := by kernel_rfl
theorem mixed : Tryz.prog.follows .mixedOrders = true := Checked.mixed Tryz.checked
theorem kn {E : Dp.Env} (h : E.ti = ti) (hf : FnsOK Tryz.prog E) : Known0 Tryz.prog E := ⟨TIok_of (by rw [h]; exact tiOK), hf, mixed⟩
theorem eqR {α β : Type} {r l : Nat → α → Option β} (t : (α → Option β) → α → Option β) (hs : ∀ n x, r (n + 1) x = t (r n) x) (hl : ∀ n x, l (n + 1) x = t (l n) x) (h0 : ∀ x, r 0 x = l 0 x) : ∀ n, r n = l n
  | 0 => funext h0
  | n + 1 => funext fun x => by rw [hs, hl, eqR t hs hl h0 n]
def joinS.spec : Dp.Spec := joinSpec
theorem joinS.contract : Contract Tryz.prog gl 72 joinS.spec := wge
def items_Unquote.spec : Dp.Spec := unquoteSpec
theorem items_Unquote.contract : Contract Tryz.prog gl 186 items_Unquote.spec := wdY
def asciiSet.spec : Dp.Spec := asciiSetSpec
theorem asciiSet.contract : Contract Tryz.prog gl 244 asciiSet.spec := wfa
def ixb.spec : Dp.Spec := indexByteSpec
theorem ixb.contract : Contract Tryz.prog gl 249 ixb.spec := indexByte_contract Tryz.func249 (by decide +kernel) rfl (by kernel_rfl) (by kernel_rfl)
def repeatS.spec : Dp.Spec := repeatSpec
theorem repeatS.contract : Contract Tryz.prog gl 255 repeatS.spec := wfv
def itoa.spec : Dp.Spec := itoaSpec
theorem itoa.contract : Contract Tryz.prog gl 256 itoa.spec := wgX (g := 7) (n := 20) (by kernel_rfl) (by kernel_rfl)
def sortS.mspec : MSpec := sortM
theorem sortS.turns : MContract Tryz.prog 132 sortS.mspec := wgl
def wE_.spec : Dp.Spec := ⟨(.scons (.list Kq5) Kq8), .bool, false, fun K x => wE_ K x.1 x.2.1 x.2.2.1⟩
def wE_.hint : Dp.Hint := { n := 41, regions := [(2, [(.normal, { regs := [(0, (.list Kq5)), (1, (.int .i64)), (2, (.int .i64)), (7, (.int .i64)), (16, .bool)] })]), (4, [(.normal, { regs := [(0, (.list Kq5)), (1, (.int .i64)), (2, (.int .i64)), (7, (.int .i64)), (36, .bool)] })])], loops := [(2, { regs := [(0, (.list Kq5)), (1, (.int .i64)), (2, (.int .i64)), (7, (.int .i64))] }, [(.exit 0, { regs := [(0, (.list Kq5)), (1, (.int .i64))] }), (.ret, { regs := [(6, .bool)] })])] }
noncomputable def wE_.env : Dp.Env := ⟨ti, gl, [], [], [(50, Tryz.f50, wE_.hint)], [], 0, 40⟩
noncomputable def wE_.r0 (K : Nat) : Nat → (((List Jq7) × Jq25) × (Unit)) → Option ((((List Jq7) × Jq2) × (Unit)) ⊕ Jq24) :=
  loopV [(.exit 0, { regs := [(0, (.list Kq5)), (1, (.int .i64))] }), (.ret, { regs := [(6, .bool)] })] { regs := [(0, (.list Kq5)), (1, (.int .i64)), (2, (.int .i64)), (7, (.int .i64))] } (interp (wE_.env.at K) wE_.hint (callF (wE_.env.at K) 7) (Code.sub [1, 0, 1, 0, 0] (Tryz.f50.body.getD .skip)) _)
theorem wE_.s0 (K n : Nat) (x : (((List Jq7) × Jq25) × (Unit))) : wE_.r0 K (n + 1) x = wE_.t0 K (wE_.r0 K n) x := by kernel_rfl
theorem wE_.e0 (K n : Nat) : wE_.r0 K n = wE_.l0 K n := eqR (l := wE_.l0 K) _ (wE_.s0 K) (fun _ _ => rfl) (fun _ => rfl) n
theorem wE_.body_eq (K : Nat) (x : wE_.spec.args.den) : body (wE_.env.at K) 8 50 wE_.spec x = wE_.tr (wE_.r0 K) K x.1 x.2.1 x.2.2.1 := by kernel_rfl
theorem wE_.contract : Contract Tryz.prog gl 50 wE_.spec :=
  contract_of (E := wE_.env) (kn rfl (FnsOK_of ⟨⟨Tryz.func50, Tryz.call50⟩, trivial⟩)) (SpecsOK_of trivial) Tryz.call50 rfl rfl fun K x r h => by
    rw [wE_.body_eq, show wE_.r0 K = wE_.l0 K from funext (wE_.e0 K)]; exact h
def wF_.spec : Dp.Spec := ⟨(.scons Kq11 Kq4), .bool, false, fun K x => wF_ K x.1 x.2.1⟩
def wF_.hint : Dp.Hint := { n := 30, imm := [2] }
noncomputable def wF_.env : Dp.Env := ⟨ti, gl, [], [], [(11, Tryz.f11, wF_.hint)], [(50, wE_.spec)], 0, 40⟩
theorem wF_.body_eq (K : Nat) (x : wF_.spec.args.den) : body (wF_.env.at K) 8 11 wF_.spec x = wF_ K x.1 x.2.1 := by kernel_rfl
theorem wF_.contract : Contract Tryz.prog gl 11 wF_.spec :=
  contract_of (E := wF_.env) (kn rfl (FnsOK_of ⟨⟨Tryz.func11, Tryz.call11⟩, trivial⟩)) (SpecsOK_of ⟨wE_.contract, trivial⟩) Tryz.call11 rfl rfl fun K x r h => by
    rw [wF_.body_eq]; exact h
def wN_.spec : Dp.Spec := ⟨(.scons Kq6 Kq4), .bool, false, fun K x => wN_ K x.1 x.2.1⟩
def wN_.hint : Dp.Hint := { n := 23, imm := [2] }
noncomputable def wN_.env : Dp.Env := ⟨ti, gl, [], [], [(12, Tryz.f12, wN_.hint)], [(50, wE_.spec)], 0, 40⟩
theorem wN_.body_eq (K : Nat) (x : wN_.spec.args.den) : body (wN_.env.at K) 8 12 wN_.spec x = wN_ K x.1 x.2.1 := by kernel_rfl
theorem wN_.contract : Contract Tryz.prog gl 12 wN_.spec :=
  contract_of (E := wN_.env) (kn rfl (FnsOK_of ⟨⟨Tryz.func12, Tryz.call12⟩, trivial⟩)) (SpecsOK_of ⟨wE_.contract, trivial⟩) Tryz.call12 rfl rfl fun K x r h => by
    rw [wN_.body_eq]; exact h
def wcF.spec : Dp.Spec := ⟨Kq3, (.fn 168 (.scons (.ref .str) .snil)), false, fun K x => wcF K x.1⟩
def wcF.hint : Dp.Hint := { n := 4, imm := [1] }
noncomputable def wcF.env : Dp.Env := ⟨ti, gl, [], [], [(123, Tryz.f123, wcF.hint)], [], 0, 40⟩
theorem wcF.body_eq (K : Nat) (x : wcF.spec.args.den) : body (wcF.env.at K) 8 123 wcF.spec x = wcF K x.1 := by kernel_rfl
theorem wcF.contract : Contract Tryz.prog gl 123 wcF.spec :=
  contract_of (E := wcF.env) (kn rfl (FnsOK_of ⟨⟨Tryz.func123, Tryz.call123⟩, trivial⟩)) (SpecsOK_of trivial) Tryz.call123 rfl rfl fun K x r h => by
    rw [wcF.body_eq]; exact h
def wcy.spec : Dp.Spec := ⟨(.scons (.int .u8) Kq10), Kq9, false, fun K x => wcy K x.1 x.2.1⟩
def wcy.hint : Dp.Hint := { n := 6, imm := [2, 3] }
noncomputable def wcy.env : Dp.Env := ⟨ti, gl, [], [], [(167, Tryz.f167, wcy.hint)], [], 0, 40⟩
theorem wcy.body_eq (K : Nat) (x : wcy.spec.args.den) : body (wcy.env.at K) 8 167 wcy.spec x = wcy K x.1 x.2.1 := by kernel_rfl
theorem wcy.contract : Contract Tryz.prog gl 167 wcy.spec :=
  contract_of (E := wcy.env) (kn rfl (FnsOK_of ⟨⟨Tryz.func167, Tryz.call167⟩, trivial⟩)) (SpecsOK_of trivial) Tryz.call167 rfl rfl fun K x r h => by
    rw [wcy.body_eq]; exact h
def wbV.spec : Dp.Spec := ⟨(.scons (.int .u8) (.scons (.ref (.int .u8)) (.scons (.ref (.int .u8)) .snil))), .bool, false, fun K x => wbV K x.1 x.2.1 x.2.2.1⟩
def wbV.hint : Dp.Hint := { n := 13 }
noncomputable def wbV.env : Dp.Env := ⟨ti, gl, [], [], [(220, Tryz.f220, wbV.hint)], [], 0, 40⟩
theorem wbV.body_eq (K : Nat) (x : wbV.spec.args.den) : body (wbV.env.at K) 8 220 wbV.spec x = wbV K x.1 x.2.1 x.2.2.1 := by kernel_rfl
theorem wbV.contract : Contract Tryz.prog gl 220 wbV.spec :=
  contract_of (E := wbV.env) (kn rfl (FnsOK_of ⟨⟨Tryz.func220, Tryz.call220⟩, trivial⟩)) (SpecsOK_of trivial) Tryz.call220 rfl rfl fun K x r h => by
    rw [wbV.body_eq]; exact h
def wZ_.spec : Dp.Spec := ⟨Kq3, .str, false, fun K x => wZ_ K x.1⟩
def wZ_.hint : Dp.Hint := { n := 29, conds := [(19, [(.normal, { regs := [(3, Kq9), (4, (.slw 0)), (10, (.slw 0)), (11, (.int .i64)), (12, (.int .i64))], heap := [(.row (.int .u8))] })])], loops := [(4, { regs := [(3, Kq9), (4, (.slw 0)), (10, (.slw 0)), (11, (.int .i64)), (12, (.int .i64))], heap := [(.row (.int .u8))] }, [(.exit 0, { regs := [(4, (.slw 0))], heap := [(.row (.int .u8))] })])], own := [9] }
noncomputable def wZ_.env : Dp.Env := ⟨ti, gl, [], [], [(122, Tryz.f122, wZ_.hint)], [(167, wcy.spec), (220, wbV.spec)], 0, 40⟩
noncomputable def wZ_.r0 (K : Nat) : Nat → ((Jq6 × ((Unit) × ((Unit) × Jq6))) × Jq33) → Option ((Jq14 × Jq33)) :=
  loopV [(.exit 0, { regs := [(4, (.slw 0))], heap := [(.row (.int .u8))] })] { regs := [(3, Kq9), (4, (.slw 0)), (10, (.slw 0)), (11, (.int .i64)), (12, (.int .i64))], heap := [(.row (.int .u8))] } (interp (wZ_.env.at K) wZ_.hint (callF (wZ_.env.at K) 7) (Code.sub [1, 1, 1, 0, 1, 0, 0] (Tryz.f122.body.getD .skip)) _)
theorem wZ_.s0 (K n : Nat) (x : ((Jq6 × ((Unit) × ((Unit) × Jq6))) × Jq33)) : wZ_.r0 K (n + 1) x = wZ_.t0 K (wZ_.r0 K n) x := by kernel_rfl
theorem wZ_.e0 (K n : Nat) : wZ_.r0 K n = wZ_.l0 K n := eqR (l := wZ_.l0 K) _ (wZ_.s0 K) (fun _ _ => rfl) (fun _ => rfl) n
theorem wZ_.body_eq (K : Nat) (x : wZ_.spec.args.den) : body (wZ_.env.at K) 8 122 wZ_.spec x = wZ_.tr (wZ_.r0 K) K x.1 := by kernel_rfl
theorem wZ_.contract : Contract Tryz.prog gl 122 wZ_.spec :=
  contract_of (E := wZ_.env) (kn rfl (FnsOK_of ⟨⟨Tryz.func122, Tryz.call122⟩, trivial⟩)) (SpecsOK_of ⟨wcy.contract, wbV.contract, trivial⟩) Tryz.call122 rfl rfl fun K x r h => by
    rw [wZ_.body_eq, show wZ_.r0 K = wZ_.l0 K from funext (wZ_.e0 K)]; exact h
def wcK.spec : Dp.Spec := ⟨Kq5, .bool, false, fun K x => wcK K x.1 x.2.1⟩
def wcK.hint : Dp.Hint := { n := 17 }
noncomputable def wcK.env : Dp.Env := ⟨ti, gl, [], [], [(70, Tryz.f70, wcK.hint)], [(122, wZ_.spec)], 0, 40⟩
theorem wcK.body_eq (K : Nat) (x : wcK.spec.args.den) : body (wcK.env.at K) 8 70 wcK.spec x = wcK K x.1 x.2.1 := by kernel_rfl
theorem wcK.contract : Contract Tryz.prog gl 70 wcK.spec :=
  contract_of (E := wcK.env) (kn rfl (FnsOK_of ⟨⟨Tryz.func70, Tryz.call70⟩, trivial⟩)) (SpecsOK_of ⟨wZ_.contract, trivial⟩) Tryz.call70 rfl rfl fun K x r h => by
    rw [wcK.body_eq]; exact h
def wb5.spec : Dp.Spec := ⟨(.scons Kq5 (.scons (.ref .str) .snil)), .bool, false, fun K x => wb5 K x.1 x.2.1⟩
def wb5.hint : Dp.Hint := { n := 8, imm := [2] }
noncomputable def wb5.env : Dp.Env := ⟨ti, gl, [], [], [(168, Tryz.f168, wb5.hint)], [(70, wcK.spec)], 0, 40⟩
theorem wb5.body_eq (K : Nat) (x : wb5.spec.args.den) : body (wb5.env.at K) 8 168 wb5.spec x = wb5 K x.1 x.2.1 := by kernel_rfl
theorem wb5.contract : Contract Tryz.prog gl 168 wb5.spec :=
  contract_of (E := wb5.env) (kn rfl (FnsOK_of ⟨⟨Tryz.func168, Tryz.call168⟩, trivial⟩)) (SpecsOK_of ⟨wcK.contract, trivial⟩) Tryz.call168 rfl rfl fun K x r h => by
    rw [wb5.body_eq]; exact h
def we_.spec : Dp.Spec := ⟨(.scons (.list Kq5) (.scons (.fn 168 (.scons (.ref .str) .snil)) .snil)), (.list Kq5), false, fun K x => we_ K x.1 x.2.1⟩
def we_.hint : Dp.Hint := { n := 23, conds := [(16, [(.normal, { regs := [(1, (.fn 168 (.scons (.ref .str) .snil))), (5, (.slw 1)), (8, (.list Kq5)), (9, (.int .i64)), (10, (.int .i64))], heap := [(.row Kq5), (.row Kq5), Kq5], app := [1] })])], loops := [(3, { regs := [(1, (.fn 168 (.scons (.ref .str) .snil))), (5, (.slw 1)), (8, (.list Kq5)), (9, (.int .i64)), (10, (.int .i64))], heap := [(.row Kq5), (.row Kq5)], app := [1] }, [(.exit 0, { regs := [(5, (.slw 1))], heap := [(.row Kq5), (.row Kq5)], app := [1] })])], own := [4, 5] }
noncomputable def we_.env : Dp.Env := ⟨ti, gl, [], [], [(68, Tryz.f68, we_.hint)], [(168, wb5.spec)], 0, 40⟩
noncomputable def we_.r0 (K : Nat) : Nat → ((Jq3 × ((Unit) × ((List Jq7) × Jq6))) × ((List Jq7) × ((List Jq7) × (Unit)))) → Option ((Jq14 × ((List Jq7) × ((List Jq7) × (Unit))))) :=
  loopV [(.exit 0, { regs := [(5, (.slw 1))], heap := [(.row Kq5), (.row Kq5)], app := [1] })] { regs := [(1, (.fn 168 (.scons (.ref .str) .snil))), (5, (.slw 1)), (8, (.list Kq5)), (9, (.int .i64)), (10, (.int .i64))], heap := [(.row Kq5), (.row Kq5)], app := [1] } (interp (we_.env.at K) we_.hint (callF (we_.env.at K) 7) (Code.sub [1, 1, 0, 1, 0, 0] (Tryz.f68.body.getD .skip)) _)
theorem we_.s0 (K n : Nat) (x : ((Jq3 × ((Unit) × ((List Jq7) × Jq6))) × ((List Jq7) × ((List Jq7) × (Unit))))) : we_.r0 K (n + 1) x = we_.t0 K (we_.r0 K n) x := by kernel_rfl
theorem we_.e0 (K n : Nat) : we_.r0 K n = we_.l0 K n := eqR (l := we_.l0 K) _ (we_.s0 K) (fun _ _ => rfl) (fun _ => rfl) n
theorem we_.body_eq (K : Nat) (x : we_.spec.args.den) : body (we_.env.at K) 8 68 we_.spec x = we_.tr (we_.r0 K) K x.1 x.2.1 := by kernel_rfl
theorem we_.contract : Contract Tryz.prog gl 68 we_.spec :=
  contract_of (E := we_.env) (kn rfl (FnsOK_of ⟨⟨Tryz.func68, Tryz.call68⟩, trivial⟩)) (SpecsOK_of ⟨wb5.contract, trivial⟩) Tryz.call68 rfl rfl fun K x r h => by
    rw [we_.body_eq, show we_.r0 K = we_.l0 K from funext (we_.e0 K)]; exact h
def wQ_.spec : Dp.Spec := ⟨(.scons (.list Kq5) Kq3), (.list .str), false, fun K x => wQ_ K x.1 x.2.1⟩
def wQ_.hint : Dp.Hint := { n := 24, loops := [(3, { regs := [(5, (.slw 1)), (11, (.list Kq5)), (12, (.int .i64)), (13, (.int .i64))], heap := [(.row .str), (.row .str)], app := [1] }, [(.exit 0, { regs := [(5, (.slw 1))], heap := [(.row .str), (.row .str)], app := [1] })])], own := [4, 5] }
noncomputable def wQ_.env : Dp.Env := ⟨ti, gl, [], [], [(71, Tryz.f71, wQ_.hint)], [(123, wcF.spec), (68, we_.spec)], 0, 40⟩
noncomputable def wQ_.r0 (K : Nat) : Nat → (((Unit) × ((List Jq7) × Jq6)) × Jq4) → Option ((Jq14 × Jq4)) :=
  loopV [(.exit 0, { regs := [(5, (.slw 1))], heap := [(.row .str), (.row .str)], app := [1] })] { regs := [(5, (.slw 1)), (11, (.list Kq5)), (12, (.int .i64)), (13, (.int .i64))], heap := [(.row .str), (.row .str)], app := [1] } (interp (wQ_.env.at K) wQ_.hint (callF (wQ_.env.at K) 7) (Code.sub [1, 1, 0, 1, 0, 0] (Tryz.f71.body.getD .skip)) _)
theorem wQ_.s0 (K n : Nat) (x : (((Unit) × ((List Jq7) × Jq6)) × Jq4)) : wQ_.r0 K (n + 1) x = wQ_.t0 K (wQ_.r0 K n) x := by kernel_rfl
theorem wQ_.e0 (K n : Nat) : wQ_.r0 K n = wQ_.l0 K n := eqR (l := wQ_.l0 K) _ (wQ_.s0 K) (fun _ _ => rfl) (fun _ => rfl) n
theorem wQ_.body_eq (K : Nat) (x : wQ_.spec.args.den) : body (wQ_.env.at K) 8 71 wQ_.spec x = wQ_.tr (wQ_.r0 K) K x.1 x.2.1 := by kernel_rfl
theorem wQ_.contract : Contract Tryz.prog gl 71 wQ_.spec :=
  contract_of (E := wQ_.env) (kn rfl (FnsOK_of ⟨⟨Tryz.func71, Tryz.call71⟩, trivial⟩)) (SpecsOK_of ⟨wcF.contract, we_.contract, trivial⟩) Tryz.call71 rfl rfl fun K x r h => by
    rw [wQ_.body_eq, show wQ_.r0 K = wQ_.l0 K from funext (wQ_.e0 K)]; exact h
def w5_.spec : Dp.Spec := ⟨Kq5, .bool, false, fun K x => w5_ K x.1 x.2.1⟩
def w5_.hint : Dp.Hint := { n := 18 }
noncomputable def w5_.env : Dp.Env := ⟨ti, gl, [], [], [(223, Tryz.f223, w5_.hint)], [], 0, 40⟩
theorem w5_.body_eq (K : Nat) (x : w5_.spec.args.den) : body (w5_.env.at K) 8 223 w5_.spec x = w5_ K x.1 x.2.1 := by kernel_rfl
theorem w5_.contract : Contract Tryz.prog gl 223 w5_.spec :=
  contract_of (E := w5_.env) (kn rfl (FnsOK_of ⟨⟨Tryz.func223, Tryz.call223⟩, trivial⟩)) (SpecsOK_of trivial) Tryz.call223 rfl rfl fun K x r h => by
    rw [w5_.body_eq]; exact h
def wba.spec : Dp.Spec := ⟨Kq5, (.tup (.scons .str Kq12)), false, fun K x => wba K x.1 x.2.1⟩
def wba.hint : Dp.Hint := { n := 15 }
noncomputable def wba.env : Dp.Env := ⟨ti, gl, [], [], [(171, Tryz.f171, wba.hint)], [(223, w5_.spec)], 0, 40⟩
theorem wba.body_eq (K : Nat) (x : wba.spec.args.den) : body (wba.env.at K) 8 171 wba.spec x = wba K x.1 x.2.1 := by kernel_rfl
theorem wba.contract : Contract Tryz.prog gl 171 wba.spec :=
  contract_of (E := wba.env) (kn rfl (FnsOK_of ⟨⟨Tryz.func171, Tryz.call171⟩, trivial⟩)) (SpecsOK_of ⟨w5_.contract, trivial⟩) Tryz.call171 rfl rfl fun K x r h => by
    rw [wba.body_eq]; exact h
def wbA.spec : Dp.Spec := ⟨Kq5, (.tup (.scons .str Kq12)), false, fun K x => wbA K x.1 x.2.1⟩
def wbA.hint : Dp.Hint := { n := 11 }
noncomputable def wbA.env : Dp.Env := ⟨ti, gl, [], [], [(127, Tryz.f127, wbA.hint)], [(171, wba.spec)], 0, 40⟩
theorem wbA.body_eq (K : Nat) (x : wbA.spec.args.den) : body (wbA.env.at K) 8 127 wbA.spec x = wbA K x.1 x.2.1 := by kernel_rfl
theorem wbA.contract : Contract Tryz.prog gl 127 wbA.spec :=
  contract_of (E := wbA.env) (kn rfl (FnsOK_of ⟨⟨Tryz.func127, Tryz.call127⟩, trivial⟩)) (SpecsOK_of ⟨wba.contract, trivial⟩) Tryz.call127 rfl rfl fun K x r h => by
    rw [wbA.body_eq]; exact h
def wcQ.spec : Dp.Spec := ⟨Kq10, .bool, false, fun K x => wcQ K x.1⟩
def wcQ.hint : Dp.Hint := { n := 13 }
noncomputable def wcQ.env : Dp.Env := ⟨ti, gl, [], [], [(128, Tryz.f128, wcQ.hint)], [], 0, 40⟩
theorem wcQ.body_eq (K : Nat) (x : wcQ.spec.args.den) : body (wcQ.env.at K) 8 128 wcQ.spec x = wcQ K x.1 := by kernel_rfl
theorem wcQ.contract : Contract Tryz.prog gl 128 wcQ.spec :=
  contract_of (E := wcQ.env) (kn rfl (FnsOK_of ⟨⟨Tryz.func128, Tryz.call128⟩, trivial⟩)) (SpecsOK_of trivial) Tryz.call128 rfl rfl fun K x r h => by
    rw [wcQ.body_eq]; exact h
def wbc.spec : Dp.Spec := ⟨Kq3, (.tup (.scons Kq7 Kq12)), false, fun K x => wbc K x.1⟩
def wbc.hint : Dp.Hint := { n := 51, regions := [(2, [(.normal, { regs := [(0, .str), (2, (.loc 0 false [])), (4, .bool), (28, .bool)], heap := [Kq7] })])], loops := [(6, { regs := [(2, (.loc 0 false [])), (5, (.loc 1 false [])), (39, (.list (.int .u8))), (40, (.int .i64)), (41, (.int .i64))], heap := [Kq7, Kq7] }, [(.exit 0, { regs := [(2, (.loc 0 false [])), (5, (.loc 1 false []))], heap := [Kq7, Kq7] }), (.ret, { regs := [(2, (.loc 0 false [])), (3, .bool)], heap := [Kq7, Kq7] })])] }
noncomputable def wbc.env : Dp.Env := ⟨ti, gl, [], [], [(73, Tryz.f73, wbc.hint)], [(127, wbA.spec), (128, wcQ.spec)], 0, 40⟩
noncomputable def wbc.r0 (K : Nat) : Nat → (((Nat) × ((Nat) × ((List (Int)) × Jq6))) × Jq12) → Option ((((Nat) × Jq22) × Jq12) ⊕ (((Nat) × Jq5) × Jq12)) :=
  loopV [(.exit 0, { regs := [(2, (.loc 0 false [])), (5, (.loc 1 false []))], heap := [Kq7, Kq7] }), (.ret, { regs := [(2, (.loc 0 false [])), (3, .bool)], heap := [Kq7, Kq7] })] { regs := [(2, (.loc 0 false [])), (5, (.loc 1 false [])), (39, (.list (.int .u8))), (40, (.int .i64)), (41, (.int .i64))], heap := [Kq7, Kq7] } (interp (wbc.env.at K) wbc.hint (callF (wbc.env.at K) 7) (Code.sub [1, 1, 1, 1, 0, 1, 0, 0] (Tryz.f73.body.getD .skip)) _)
theorem wbc.s0 (K n : Nat) (x : (((Nat) × ((Nat) × ((List (Int)) × Jq6))) × Jq12)) : wbc.r0 K (n + 1) x = wbc.t0 K (wbc.r0 K n) x := by kernel_rfl
theorem wbc.e0 (K n : Nat) : wbc.r0 K n = wbc.l0 K n := eqR (l := wbc.l0 K) _ (wbc.s0 K) (fun _ _ => rfl) (fun _ => rfl) n
theorem wbc.body_eq (K : Nat) (x : wbc.spec.args.den) : body (wbc.env.at K) 8 73 wbc.spec x = wbc.tr (wbc.r0 K) K x.1 := by kernel_rfl
theorem wbc.contract : Contract Tryz.prog gl 73 wbc.spec :=
  contract_of (E := wbc.env) (kn rfl (FnsOK_of ⟨⟨Tryz.func73, Tryz.call73⟩, trivial⟩)) (SpecsOK_of ⟨wbA.contract, wcQ.contract, trivial⟩) Tryz.call73 rfl rfl fun K x r h => by
    rw [wbc.body_eq, show wbc.r0 K = wbc.l0 K from funext (wbc.e0 K)]; exact h
def wcH.spec : Dp.Spec := ⟨(.scons Kq6 .snil), (.tup (.scons Kq7 Kq12)), false, fun K x => wcH K x.1⟩
def wcH.hint : Dp.Hint := { n := 18, imm := [1] }
noncomputable def wcH.env : Dp.Env := ⟨ti, gl, [], [], [(30, Tryz.f30, wcH.hint)], [(71, wQ_.spec), (73, wbc.spec)], 0, 40⟩
theorem wcH.body_eq (K : Nat) (x : wcH.spec.args.den) : body (wcH.env.at K) 8 30 wcH.spec x = wcH K x.1 := by kernel_rfl
theorem wcH.contract : Contract Tryz.prog gl 30 wcH.spec :=
  contract_of (E := wcH.env) (kn rfl (FnsOK_of ⟨⟨Tryz.func30, Tryz.call30⟩, trivial⟩)) (SpecsOK_of ⟨wQ_.contract, wbc.contract, trivial⟩) Tryz.call30 rfl rfl fun K x r h => by
    rw [wcH.body_eq]; exact h
def wo_.spec : Dp.Spec := ⟨(.scons .str Kq10), .str, false, fun K x => wo_ K x.1 x.2.1⟩
def wo_.hint : Dp.Hint := { n := 23, regions := [(1, [(.normal, { regs := [(0, .str), (1, (.int .u8)), (16, .bool)] })])], loops := [(1, { regs := [(0, .str), (1, (.int .u8))] }, [(.exit 0, { regs := [(0, .str)] })])] }
noncomputable def wo_.env : Dp.Env := ⟨ti, gl, [], [], [(243, Tryz.f243, wo_.hint)], [], 0, 40⟩
noncomputable def wo_.r0 (K : Nat) : Nat → Jq36 → Option (Jq26) :=
  loopV [(.exit 0, { regs := [(0, .str)] })] { regs := [(0, .str), (1, (.int .u8))] } (interp (wo_.env.at K) wo_.hint (callF (wo_.env.at K) 7) (Code.sub [1, 0, 0, 0] (Tryz.f243.body.getD .skip)) _)
theorem wo_.s0 (K n : Nat) (x : Jq36) : wo_.r0 K (n + 1) x = wo_.t0 K (wo_.r0 K n) x := by kernel_rfl
theorem wo_.e0 (K n : Nat) : wo_.r0 K n = wo_.l0 K n := eqR (l := wo_.l0 K) _ (wo_.s0 K) (fun _ _ => rfl) (fun _ => rfl) n
theorem wo_.body_eq (K : Nat) (x : wo_.spec.args.den) : body (wo_.env.at K) 8 243 wo_.spec x = wo_.tr (wo_.r0 K) K x.1 x.2.1 := by kernel_rfl
theorem wo_.contract : Contract Tryz.prog gl 243 wo_.spec :=
  contract_of (E := wo_.env) (kn rfl (FnsOK_of ⟨⟨Tryz.func243, Tryz.call243⟩, trivial⟩)) (SpecsOK_of trivial) Tryz.call243 rfl rfl fun K x r h => by
    rw [wo_.body_eq, show wo_.r0 K = wo_.l0 K from funext (wo_.e0 K)]; exact h
def wi_.spec : Dp.Spec := ⟨(.scons .str Kq10), .str, false, fun K x => wi_ K x.1 x.2.1⟩
def wi_.hint : Dp.Hint := { n := 17, regions := [(1, [(.normal, { regs := [(0, .str), (1, (.int .u8)), (13, .bool)] })])], loops := [(1, { regs := [(0, .str), (1, (.int .u8))] }, [(.exit 0, { regs := [(0, .str)] })])] }
noncomputable def wi_.env : Dp.Env := ⟨ti, gl, [], [], [(242, Tryz.f242, wi_.hint)], [], 0, 40⟩
noncomputable def wi_.r0 (K : Nat) : Nat → Jq36 → Option (Jq26) :=
  loopV [(.exit 0, { regs := [(0, .str)] })] { regs := [(0, .str), (1, (.int .u8))] } (interp (wi_.env.at K) wi_.hint (callF (wi_.env.at K) 7) (Code.sub [1, 0, 0, 0] (Tryz.f242.body.getD .skip)) _)
theorem wi_.s0 (K n : Nat) (x : Jq36) : wi_.r0 K (n + 1) x = wi_.t0 K (wi_.r0 K n) x := by kernel_rfl
theorem wi_.e0 (K n : Nat) : wi_.r0 K n = wi_.l0 K n := eqR (l := wi_.l0 K) _ (wi_.s0 K) (fun _ _ => rfl) (fun _ => rfl) n
theorem wi_.body_eq (K : Nat) (x : wi_.spec.args.den) : body (wi_.env.at K) 8 242 wi_.spec x = wi_.tr (wi_.r0 K) K x.1 x.2.1 := by kernel_rfl
theorem wi_.contract : Contract Tryz.prog gl 242 wi_.spec :=
  contract_of (E := wi_.env) (kn rfl (FnsOK_of ⟨⟨Tryz.func242, Tryz.call242⟩, trivial⟩)) (SpecsOK_of trivial) Tryz.call242 rfl rfl fun K x r h => by
    rw [wi_.body_eq, show wi_.r0 K = wi_.l0 K from funext (wi_.e0 K)]; exact h
def wO_.spec : Dp.Spec := ⟨(.scons (.ref (.arr 256 .bool)) Kq10), .bool, false, fun K x => wO_ K x.1 x.2.1⟩
def wO_.hint : Dp.Hint := { n := 10 }
noncomputable def wO_.env : Dp.Env := ⟨ti, gl, [], [], [(269, Tryz.f269, wO_.hint)], [], 0, 40⟩
theorem wO_.body_eq (K : Nat) (x : wO_.spec.args.den) : body (wO_.env.at K) 8 269 wO_.spec x = wO_ K x.1 x.2.1 := by kernel_rfl
theorem wO_.contract : Contract Tryz.prog gl 269 wO_.spec :=
  contract_of (E := wO_.env) (kn rfl (FnsOK_of ⟨⟨Tryz.func269, Tryz.call269⟩, trivial⟩)) (SpecsOK_of trivial) Tryz.call269 rfl rfl fun K x r h => by
    rw [wO_.body_eq]; exact h
def wg_.spec : Dp.Spec := ⟨(.scons .str (.scons (.ref (.arr 256 .bool)) .snil)), .str, false, fun K x => wg_ K x.1 x.2.1⟩
def wg_.hint : Dp.Hint := { n := 22, loops := [(1, { regs := [(0, .str), (1, (.ref (.arr 256 .bool)))] }, [(.exit 0, { regs := [(0, .str)] })])] }
noncomputable def wg_.env : Dp.Env := ⟨ti, gl, [], [], [(246, Tryz.f246, wg_.hint)], [(269, wO_.spec)], 0, 40⟩
noncomputable def wg_.r0 (K : Nat) : Nat → Jq35 → Option (Jq26) :=
  loopV [(.exit 0, { regs := [(0, .str)] })] { regs := [(0, .str), (1, (.ref (.arr 256 .bool)))] } (interp (wg_.env.at K) wg_.hint (callF (wg_.env.at K) 7) (Code.sub [1, 0, 0, 0] (Tryz.f246.body.getD .skip)) _)
theorem wg_.s0 (K n : Nat) (x : Jq35) : wg_.r0 K (n + 1) x = wg_.t0 K (wg_.r0 K n) x := by kernel_rfl
theorem wg_.e0 (K n : Nat) : wg_.r0 K n = wg_.l0 K n := eqR (l := wg_.l0 K) _ (wg_.s0 K) (fun _ _ => rfl) (fun _ => rfl) n
theorem wg_.body_eq (K : Nat) (x : wg_.spec.args.den) : body (wg_.env.at K) 8 246 wg_.spec x = wg_.tr (wg_.r0 K) K x.1 x.2.1 := by kernel_rfl
theorem wg_.contract : Contract Tryz.prog gl 246 wg_.spec :=
  contract_of (E := wg_.env) (kn rfl (FnsOK_of ⟨⟨Tryz.func246, Tryz.call246⟩, trivial⟩)) (SpecsOK_of ⟨wO_.contract, trivial⟩) Tryz.call246 rfl rfl fun K x r h => by
    rw [wg_.body_eq, show wg_.r0 K = wg_.l0 K from funext (wg_.e0 K)]; exact h
def wf_.spec : Dp.Spec := ⟨(.scons .str (.scons (.ref (.arr 256 .bool)) .snil)), .str, false, fun K x => wf_ K x.1 x.2.1⟩
def wf_.hint : Dp.Hint := { n := 16, loops := [(1, { regs := [(0, .str), (1, (.ref (.arr 256 .bool)))] }, [(.exit 0, { regs := [(0, .str)] })])] }
noncomputable def wf_.env : Dp.Env := ⟨ti, gl, [], [], [(245, Tryz.f245, wf_.hint)], [(269, wO_.spec)], 0, 40⟩
noncomputable def wf_.r0 (K : Nat) : Nat → Jq35 → Option (Jq26) :=
  loopV [(.exit 0, { regs := [(0, .str)] })] { regs := [(0, .str), (1, (.ref (.arr 256 .bool)))] } (interp (wf_.env.at K) wf_.hint (callF (wf_.env.at K) 7) (Code.sub [1, 0, 0, 0] (Tryz.f245.body.getD .skip)) _)
theorem wf_.s0 (K n : Nat) (x : Jq35) : wf_.r0 K (n + 1) x = wf_.t0 K (wf_.r0 K n) x := by kernel_rfl
theorem wf_.e0 (K n : Nat) : wf_.r0 K n = wf_.l0 K n := eqR (l := wf_.l0 K) _ (wf_.s0 K) (fun _ _ => rfl) (fun _ => rfl) n
theorem wf_.body_eq (K : Nat) (x : wf_.spec.args.den) : body (wf_.env.at K) 8 245 wf_.spec x = wf_.tr (wf_.r0 K) K x.1 x.2.1 := by kernel_rfl
theorem wf_.contract : Contract Tryz.prog gl 245 wf_.spec :=
  contract_of (E := wf_.env) (kn rfl (FnsOK_of ⟨⟨Tryz.func245, Tryz.call245⟩, trivial⟩)) (SpecsOK_of ⟨wO_.contract, trivial⟩) Tryz.call245 rfl rfl fun K x r h => by
    rw [wf_.body_eq, show wf_.r0 K = wf_.l0 K from funext (wf_.e0 K)]; exact h
def wcE.spec : Dp.Spec := ⟨Kq5, .str, false, fun K x => wcE K x.1 x.2.1⟩
def wcE.hint : Dp.Hint := { n := 43, regions := [(1, [(.normal, { regs := [(0, .str), (1, .str), (12, .bool)] })]), (3, [(.normal, { regs := [(0, .str), (1, .str), (21, .bool)] })])] }
noncomputable def wcE.env : Dp.Env := ⟨ti, gl, [], [], [(201, Tryz.f201, wcE.hint)], [(243, wo_.spec), (242, wi_.spec), (246, wg_.spec), (245, wf_.spec), (244, asciiSet.spec)], 0, 40⟩
theorem wcE.body_eq (K : Nat) (x : wcE.spec.args.den) : body (wcE.env.at K) 8 201 wcE.spec x = wcE K x.1 x.2.1 := by kernel_rfl
theorem wcE.contract : Contract Tryz.prog gl 201 wcE.spec :=
  contract_of (E := wcE.env) (kn rfl (FnsOK_of ⟨⟨Tryz.func201, Tryz.call201⟩, trivial⟩)) (SpecsOK_of ⟨wo_.contract, wi_.contract, wg_.contract, wf_.contract, asciiSet.contract, trivial⟩) Tryz.call201 rfl rfl fun K x r h => by
    rw [wcE.body_eq]; exact h
def wcR.spec : Dp.Spec := ⟨Kq3, .str, false, fun K x => wcR K x.1⟩
def wcR.hint : Dp.Hint := { n := 5 }
noncomputable def wcR.env : Dp.Env := ⟨ti, gl, [], [], [(155, Tryz.f155, wcR.hint)], [(201, wcE.spec)], 0, 40⟩
theorem wcR.body_eq (K : Nat) (x : wcR.spec.args.den) : body (wcR.env.at K) 8 155 wcR.spec x = wcR K x.1 := by kernel_rfl
theorem wcR.contract : Contract Tryz.prog gl 155 wcR.spec :=
  contract_of (E := wcR.env) (kn rfl (FnsOK_of ⟨⟨Tryz.func155, Tryz.call155⟩, trivial⟩)) (SpecsOK_of ⟨wcE.contract, trivial⟩) Tryz.call155 rfl rfl fun K x r h => by
    rw [wcR.body_eq]; exact h
def wS_.spec : Dp.Spec := ⟨Kq3, (.tup (.scons (.list .str) Kq4)), false, fun K x => wS_ K x.1⟩
def wS_.hint : Dp.Hint := { n := 49, conds := [(20, [(.exit 1, { regs := [(1, (.ref .str)), (4, (.loc 1 false [])), (6, (.fn 172 (.scons (.ref .str) (.scons (.loc 2 false []) (.scons (.loc 1 false []) .snil))))), (7, .bool), (8, (.int .i64))], heap := [(.row .str), (.slw 0), (.int .i64)], app := [0] }), (.normal, { regs := [(1, (.ref .str)), (4, (.loc 1 false [])), (6, (.fn 172 (.scons (.ref .str) (.scons (.loc 2 false []) (.scons (.loc 1 false []) .snil))))), (7, .bool), (8, (.int .i64))], heap := [(.row .str), (.slw 0), (.int .i64)], app := [0] })]), (33, [(.normal, { regs := [(1, (.ref .str)), (4, (.loc 1 false [])), (6, (.fn 172 (.scons (.ref .str) (.scons (.loc 2 false []) (.scons (.loc 1 false []) .snil))))), (7, .bool), (8, (.int .i64))], heap := [(.row .str), (.slw 0), (.int .i64)], app := [0] })])], blocks := [(1, [(.normal, { regs := [(1, (.ref .str)), (4, (.loc 1 false [])), (6, (.fn 172 (.scons (.ref .str) (.scons (.loc 2 false []) (.scons (.loc 1 false []) .snil))))), (7, .bool), (8, (.int .i64))], heap := [(.row .str), (.slw 0), (.int .i64)], app := [0] })])], regions := [(11, [(.normal, { regs := [(1, (.ref .str)), (4, (.loc 1 false [])), (6, (.fn 172 (.scons (.ref .str) (.scons (.loc 2 false []) (.scons (.loc 1 false []) .snil))))), (7, .bool), (8, (.int .i64)), (9, (.int .u8)), (25, .bool)], heap := [(.row .str), (.slw 0), (.int .i64)], app := [0] })]), (13, [(.normal, { regs := [(1, (.ref .str)), (4, (.loc 1 false [])), (6, (.fn 172 (.scons (.ref .str) (.scons (.loc 2 false []) (.scons (.loc 1 false []) .snil))))), (7, .bool), (8, (.int .i64)), (33, .bool)], heap := [(.row .str), (.slw 0), (.int .i64)], app := [0] })]), (14, [(.normal, { regs := [(1, (.ref .str)), (4, (.loc 1 false [])), (6, (.fn 172 (.scons (.ref .str) (.scons (.loc 2 false []) (.scons (.loc 1 false []) .snil))))), (7, .bool), (8, (.int .i64))], heap := [(.row .str), (.slw 0), (.int .i64)], app := [0] })])], loops := [(6, { regs := [(1, (.ref .str)), (4, (.loc 1 false [])), (6, (.fn 172 (.scons (.ref .str) (.scons (.loc 2 false []) (.scons (.loc 1 false []) .snil))))), (7, .bool), (8, (.int .i64))], heap := [(.row .str), (.slw 0), (.int .i64)], app := [0] }, [(.exit 0, { regs := [(1, (.ref .str)), (4, (.loc 1 false [])), (6, (.fn 172 (.scons (.ref .str) (.scons (.loc 2 false []) (.scons (.loc 1 false []) .snil))))), (7, .bool)], heap := [(.row .str), (.slw 0), (.int .i64)], app := [0] })])], own := [4], imm := [1] }
def wS_.hint172 : Dp.Hint := { n := 19 }
noncomputable def wS_.env : Dp.Env := ⟨ti, gl, [], [], [(130, Tryz.f130, wS_.hint), (172, Tryz.f172, wS_.hint172)], [(155, wcR.spec)], 0, 40⟩
noncomputable def wS_.r0 (K : Nat) : Nat → Jq13 → Option Jq37 :=
  loopV [(.exit 0, { regs := [(1, (.ref .str)), (4, (.loc 1 false [])), (6, (.fn 172 (.scons (.ref .str) (.scons (.loc 2 false []) (.scons (.loc 1 false []) .snil))))), (7, .bool)], heap := [(.row .str), (.slw 0), (.int .i64)], app := [0] })] { regs := [(1, (.ref .str)), (4, (.loc 1 false [])), (6, (.fn 172 (.scons (.ref .str) (.scons (.loc 2 false []) (.scons (.loc 1 false []) .snil))))), (7, .bool), (8, (.int .i64))], heap := [(.row .str), (.slw 0), (.int .i64)], app := [0] } (interp (wS_.env.at K) wS_.hint (callF (wS_.env.at K) 7) (Code.sub [1, 0, 1, 1, 1, 1, 1, 0, 1, 0, 0] (Tryz.f130.body.getD .skip)) _)
theorem wS_.s0 (K n : Nat) (x : Jq13) : wS_.r0 K (n + 1) x = wS_.t0 K (wS_.r0 K n) x := by kernel_rfl
theorem wS_.e0 (K n : Nat) : wS_.r0 K n = wS_.l0 K n := eqR (l := wS_.l0 K) _ (wS_.s0 K) (fun _ _ => rfl) (fun _ => rfl) n
theorem wS_.body_eq (K : Nat) (x : wS_.spec.args.den) : body (wS_.env.at K) 8 130 wS_.spec x = wS_.tr (wS_.r0 K) K x.1 := by kernel_rfl
theorem wS_.contract : Contract Tryz.prog gl 130 wS_.spec :=
  contract_of (E := wS_.env) (kn rfl (FnsOK_of ⟨⟨Tryz.func130, Tryz.call130⟩, ⟨Tryz.func172, Tryz.call172⟩, trivial⟩)) (SpecsOK_of ⟨wcR.contract, trivial⟩) Tryz.call130 rfl rfl fun K x r h => by
    rw [wS_.body_eq, show wS_.r0 K = wS_.l0 K from funext (wS_.e0 K)]; exact h
def wbh.spec : Dp.Spec := ⟨(.scons .str Kq10), (.int .i64), false, fun K x => wbh K x.1 x.2.1⟩
def wbh.hint : Dp.Hint := { n := 8 }
noncomputable def wbh.env : Dp.Env := ⟨ti, gl, [], [], [(202, Tryz.f202, wbh.hint)], [(249, ixb.spec)], 0, 40⟩
theorem wbh.body_eq (K : Nat) (x : wbh.spec.args.den) : body (wbh.env.at K) 8 202 wbh.spec x = wbh K x.1 x.2.1 := by kernel_rfl
theorem wbh.contract : Contract Tryz.prog gl 202 wbh.spec :=
  contract_of (E := wbh.env) (kn rfl (FnsOK_of ⟨⟨Tryz.func202, Tryz.call202⟩, trivial⟩)) (SpecsOK_of ⟨ixb.contract, trivial⟩) Tryz.call202 rfl rfl fun K x r h => by
    rw [wbh.body_eq]; exact h
def w9_.spec : Dp.Spec := ⟨(.scons .str Kq10), (.int .i64), false, fun K x => w9_ K x.1 x.2.1⟩
def w9_.hint : Dp.Hint := { n := 8 }
noncomputable def w9_.env : Dp.Env := ⟨ti, gl, [], [], [(156, Tryz.f156, w9_.hint)], [(202, wbh.spec)], 0, 40⟩
theorem w9_.body_eq (K : Nat) (x : w9_.spec.args.den) : body (w9_.env.at K) 8 156 w9_.spec x = w9_ K x.1 x.2.1 := by kernel_rfl
theorem w9_.contract : Contract Tryz.prog gl 156 w9_.spec :=
  contract_of (E := w9_.env) (kn rfl (FnsOK_of ⟨⟨Tryz.func156, Tryz.call156⟩, trivial⟩)) (SpecsOK_of ⟨wbh.contract, trivial⟩) Tryz.call156 rfl rfl fun K x r h => by
    rw [w9_.body_eq]; exact h
def wc0.spec : Dp.Spec := ⟨(.scons .str Kq10), (.tup (.scons .str (.scons .str Kq12))), false, fun K x => wc0 K x.1 x.2.1⟩
def wc0.hint : Dp.Hint := { n := 21 }
noncomputable def wc0.env : Dp.Env := ⟨ti, gl, [], [], [(185, Tryz.f185, wc0.hint)], [(156, w9_.spec)], 0, 40⟩
theorem wc0.body_eq (K : Nat) (x : wc0.spec.args.den) : body (wc0.env.at K) 8 185 wc0.spec x = wc0 K x.1 x.2.1 := by kernel_rfl
theorem wc0.contract : Contract Tryz.prog gl 185 wc0.spec :=
  contract_of (E := wc0.env) (kn rfl (FnsOK_of ⟨⟨Tryz.func185, Tryz.call185⟩, trivial⟩)) (SpecsOK_of ⟨w9_.contract, trivial⟩) Tryz.call185 rfl rfl fun K x r h => by
    rw [wc0.body_eq]; exact h
def wcU.spec : Dp.Spec := ⟨Kq3, (.fn 261 (.scons (.ref .str) .snil)), false, fun K x => wcU K x.1⟩
def wcU.hint : Dp.Hint := { n := 4, imm := [1] }
noncomputable def wcU.env : Dp.Env := ⟨ti, gl, [], [], [(226, Tryz.f226, wcU.hint)], [], 0, 40⟩
theorem wcU.body_eq (K : Nat) (x : wcU.spec.args.den) : body (wcU.env.at K) 8 226 wcU.spec x = wcU K x.1 := by kernel_rfl
theorem wcU.contract : Contract Tryz.prog gl 226 wcU.spec :=
  contract_of (E := wcU.env) (kn rfl (FnsOK_of ⟨⟨Tryz.func226, Tryz.call226⟩, trivial⟩)) (SpecsOK_of trivial) Tryz.call226 rfl rfl fun K x r h => by
    rw [wcU.body_eq]; exact h
def wb0.spec : Dp.Spec := ⟨(.scons (.int .u8) (.scons (.hl (.scons Kq9 .snil)) .snil)), .bool, false, fun K x => wb0 K x.1 x.2.1⟩
def wb0.hint : Dp.Hint := { n := 17 }
noncomputable def wb0.env : Dp.Env := ⟨ti, gl, [], [], [(224, Tryz.f224, wb0.hint)], [(220, wbV.spec)], 0, 40⟩
theorem wb0.body_eq (K : Nat) (x : wb0.spec.args.den) : body (wb0.env.at K) 8 224 wb0.spec x = wb0 K x.1 x.2.1 := by kernel_rfl
theorem wb0.contract : Contract Tryz.prog gl 224 wb0.spec :=
  contract_of (E := wb0.env) (kn rfl (FnsOK_of ⟨⟨Tryz.func224, Tryz.call224⟩, trivial⟩)) (SpecsOK_of ⟨wbV.contract, trivial⟩) Tryz.call224 rfl rfl fun K x r h => by
    rw [wb0.body_eq]; exact h
def wcV.spec : Dp.Spec := ⟨Kq10, .bool, false, fun K x => wcV K x.1⟩
def wcV.hint : Dp.Hint := { n := 7 }
noncomputable def wcV.env : Dp.Env := ⟨ti, gl, [], [], [(225, Tryz.f225, wcV.hint)], [(167, wcy.spec), (224, wb0.spec)], 0, 40⟩
theorem wcV.body_eq (K : Nat) (x : wcV.spec.args.den) : body (wcV.env.at K) 8 225 wcV.spec x = wcV K x.1 := by kernel_rfl
theorem wcV.contract : Contract Tryz.prog gl 225 wcV.spec :=
  contract_of (E := wcV.env) (kn rfl (FnsOK_of ⟨⟨Tryz.func225, Tryz.call225⟩, trivial⟩)) (SpecsOK_of ⟨wcy.contract, wb0.contract, trivial⟩) Tryz.call225 rfl rfl fun K x r h => by
    rw [wcV.body_eq]; exact h
def wcu.spec : Dp.Spec := ⟨(.scons (.int .u8) (.scons (.ref .str) .snil)), .bool, false, fun K x => wcu K x.1 x.2.1⟩
def wcu.hint : Dp.Hint := { n := 8 }
noncomputable def wcu.env : Dp.Env := ⟨ti, gl, [], [], [(261, Tryz.f261, wcu.hint)], [(156, w9_.spec)], 0, 40⟩
theorem wcu.body_eq (K : Nat) (x : wcu.spec.args.den) : body (wcu.env.at K) 8 261 wcu.spec x = wcu K x.1 x.2.1 := by kernel_rfl
theorem wcu.contract : Contract Tryz.prog gl 261 wcu.spec :=
  contract_of (E := wcu.env) (kn rfl (FnsOK_of ⟨⟨Tryz.func261, Tryz.call261⟩, trivial⟩)) (SpecsOK_of ⟨w9_.contract, trivial⟩) Tryz.call261 rfl rfl fun K x r h => by
    rw [wcu.body_eq]; exact h
def wx_.spec : Dp.Spec := ⟨(.scons (.int .u8) (.scons (.hl (.scons (.fn 225 .snil) (.scons Kq9 (.scons Kq9 (.scons (.fn 261 (.scons (.ref .str) .snil)) .snil))))) .snil)), .bool, false, fun K x => wx_ K x.1 x.2.1⟩
def wx_.hint : Dp.Hint := { n := 17 }
noncomputable def wx_.env : Dp.Env := ⟨ti, gl, [], [], [(224, Tryz.f224, wx_.hint)], [(220, wbV.spec), (225, wcV.spec), (261, wcu.spec)], 0, 40⟩
theorem wx_.body_eq (K : Nat) (x : wx_.spec.args.den) : body (wx_.env.at K) 8 224 wx_.spec x = wx_ K x.1 x.2.1 := by kernel_rfl
theorem wx_.contract : Contract Tryz.prog gl 224 wx_.spec :=
  contract_of (E := wx_.env) (kn rfl (FnsOK_of ⟨⟨Tryz.func224, Tryz.call224⟩, trivial⟩)) (SpecsOK_of ⟨wbV.contract, wcV.contract, wcu.contract, trivial⟩) Tryz.call224 rfl rfl fun K x r h => by
    rw [wx_.body_eq]; exact h
def wcB.spec : Dp.Spec := ⟨Kq10, .bool, false, fun K x => wcB K x.1⟩
def wcB.hint : Dp.Hint := { n := 9 }
noncomputable def wcB.env : Dp.Env := ⟨ti, gl, [], [], [(174, Tryz.f174, wcB.hint)], [(167, wcy.spec), (226, wcU.spec), (224, wx_.spec)], 0, 40⟩
theorem wcB.body_eq (K : Nat) (x : wcB.spec.args.den) : body (wcB.env.at K) 8 174 wcB.spec x = wcB K x.1 := by kernel_rfl
theorem wcB.contract : Contract Tryz.prog gl 174 wcB.spec :=
  contract_of (E := wcB.env) (kn rfl (FnsOK_of ⟨⟨Tryz.func174, Tryz.call174⟩, trivial⟩)) (SpecsOK_of ⟨wcy.contract, wcU.contract, wx_.contract, trivial⟩) Tryz.call174 rfl rfl fun K x r h => by
    rw [wcB.body_eq]; exact h
def wB_.spec : Dp.Spec := ⟨(.scons .str (.scons (.fn 174 .snil) .snil)), .bool, false, fun K x => wB_ K x.1⟩
def wB_.hint : Dp.Hint := { n := 19, loops := [(2, { regs := [(1, (.fn 174 .snil)), (8, (.list (.int .u8))), (9, (.int .i64)), (10, (.int .i64))] }, [(.exit 0, { regs := [] }), (.ret, { regs := [(4, .bool)] })])] }
noncomputable def wB_.env : Dp.Env := ⟨ti, gl, [], [], [(173, Tryz.f173, wB_.hint)], [(174, wcB.spec)], 0, 40⟩
noncomputable def wB_.r0 (K : Nat) : Nat → (((Unit) × ((List (Int)) × Jq6)) × (Unit)) → Option (Jq14 ⊕ Jq24) :=
  loopV [(.exit 0, { regs := [] }), (.ret, { regs := [(4, .bool)] })] { regs := [(1, (.fn 174 .snil)), (8, (.list (.int .u8))), (9, (.int .i64)), (10, (.int .i64))] } (interp (wB_.env.at K) wB_.hint (callF (wB_.env.at K) 7) (Code.sub [1, 0, 1, 0, 0] (Tryz.f173.body.getD .skip)) _)
theorem wB_.s0 (K n : Nat) (x : (((Unit) × ((List (Int)) × Jq6)) × (Unit))) : wB_.r0 K (n + 1) x = wB_.t0 K (wB_.r0 K n) x := by kernel_rfl
theorem wB_.e0 (K n : Nat) : wB_.r0 K n = wB_.l0 K n := eqR (l := wB_.l0 K) _ (wB_.s0 K) (fun _ _ => rfl) (fun _ => rfl) n
theorem wB_.body_eq (K : Nat) (x : wB_.spec.args.den) : body (wB_.env.at K) 8 173 wB_.spec x = wB_.tr (wB_.r0 K) K x.1 := by kernel_rfl
theorem wB_.contract : Contract Tryz.prog gl 173 wB_.spec :=
  contract_of (E := wB_.env) (kn rfl (FnsOK_of ⟨⟨Tryz.func173, Tryz.call173⟩, trivial⟩)) (SpecsOK_of ⟨wcB.contract, trivial⟩) Tryz.call173 rfl rfl fun K x r h => by
    rw [wB_.body_eq, show wB_.r0 K = wB_.l0 K from funext (wB_.e0 K)]; exact h
def wb8.spec : Dp.Spec := ⟨Kq3, .bool, false, fun K x => wb8 K x.1⟩
def wb8.hint : Dp.Hint := { n := 9 }
noncomputable def wb8.env : Dp.Env := ⟨ti, gl, [], [], [(131, Tryz.f131, wb8.hint)], [(173, wB_.spec)], 0, 40⟩
theorem wb8.body_eq (K : Nat) (x : wb8.spec.args.den) : body (wb8.env.at K) 8 131 wb8.spec x = wb8 K x.1 := by kernel_rfl
theorem wb8.contract : Contract Tryz.prog gl 131 wb8.spec :=
  contract_of (E := wb8.env) (kn rfl (FnsOK_of ⟨⟨Tryz.func131, Tryz.call131⟩, trivial⟩)) (SpecsOK_of ⟨wB_.contract, trivial⟩) Tryz.call131 rfl rfl fun K x r h => by
    rw [wb8.body_eq]; exact h
def wcM.spec : Dp.Spec := ⟨Kq3, (.tup (.scons .str (.scons .str (.scons .bool Kq4)))), false, fun K x => wcM K x.1⟩
def wcM.hint : Dp.Hint := { n := 39, conds := [(25, [(.normal, { regs := [(6, .str), (7, .str), (8, .bool)] }), (.ret, { regs := [(2, .str), (3, .str), (4, .bool), (5, (.int .i64))] })])], regions := [(4, [(.normal, { regs := [(6, .str), (7, .str), (8, .bool), (25, .bool)] })])] }
noncomputable def wcM.env : Dp.Env := ⟨ti, gl, [], [], [(149, Tryz.f149, wcM.hint)], [(122, wZ_.spec), (185, wc0.spec), (131, wb8.spec), (186, items_Unquote.spec)], 0, 40⟩
theorem wcM.body_eq (K : Nat) (x : wcM.spec.args.den) : body (wcM.env.at K) 8 149 wcM.spec x = wcM K x.1 := by kernel_rfl
theorem wcM.contract : Contract Tryz.prog gl 149 wcM.spec :=
  contract_of (E := wcM.env) (kn rfl (FnsOK_of ⟨⟨Tryz.func149, Tryz.call149⟩, trivial⟩)) (SpecsOK_of ⟨wZ_.contract, wc0.contract, wb8.contract, items_Unquote.contract, trivial⟩) Tryz.call149 rfl rfl fun K x r h => by
    rw [wcM.body_eq]; exact h
def wbD.spec : Dp.Spec := ⟨.snil, (.list (.scons .str (.scons (.fnu [187, 188, 189, 190, 191, 192, 193, 194, 197, 198]) .snil))), false, fun K x => wbD K⟩
def wbD.hint : Dp.Hint := { n := 12 }
noncomputable def wbD.env : Dp.Env := ⟨ti, gl, [], [], [(150, Tryz.f150, wbD.hint)], [], 0, 40⟩
theorem wbD.body_eq (K : Nat) (x : wbD.spec.args.den) : body (wbD.env.at K) 8 150 wbD.spec x = wbD K := by kernel_rfl
theorem wbD.contract : Contract Tryz.prog gl 150 wbD.spec :=
  contract_of (E := wbD.env) (kn rfl (FnsOK_of ⟨⟨Tryz.func150, Tryz.call150⟩, trivial⟩)) (SpecsOK_of trivial) Tryz.call150 rfl rfl fun K x r h => by
    rw [wbD.body_eq]; exact h
def wb6.spec : Dp.Spec := ⟨(.scons (.int .i32) Kq4), (.int .i64), false, fun K x => wb6 K x.1 x.2.1⟩
def wb6.hint : Dp.Hint := { n := 42, conds := [(6, [(.normal, { regs := [(1, (.int .i64)), (5, (.int .i64))] })]), (16, [(.normal, { regs := [(1, (.int .i64)), (5, (.int .i64))] })]), (27, [(.normal, { regs := [(1, (.int .i64)), (5, (.int .i64))] })])], regions := [(2, [(.normal, { regs := [(0, (.int .i32)), (1, (.int .i64)), (5, (.int .i64)), (6, .bool)] })]), (4, [(.normal, { regs := [(0, (.int .i32)), (1, (.int .i64)), (5, (.int .i64)), (16, .bool)] })]), (6, [(.normal, { regs := [(0, (.int .i32)), (1, (.int .i64)), (5, (.int .i64)), (27, .bool)] })])] }
noncomputable def wb6.env : Dp.Env := ⟨ti, gl, [], [], [(200, Tryz.f200, wb6.hint)], [], 0, 40⟩
theorem wb6.body_eq (K : Nat) (x : wb6.spec.args.den) : body (wb6.env.at K) 8 200 wb6.spec x = wb6 K x.1 x.2.1 := by kernel_rfl
theorem wb6.contract : Contract Tryz.prog gl 200 wb6.spec :=
  contract_of (E := wb6.env) (kn rfl (FnsOK_of ⟨⟨Tryz.func200, Tryz.call200⟩, trivial⟩)) (SpecsOK_of trivial) Tryz.call200 rfl rfl fun K x r h => by
    rw [wb6.body_eq]; exact h
def wI_.spec : Dp.Spec := ⟨(.scons (.int .i64) (.scons (.list (.int .i64)) .snil)), (.int .i64), false, fun K x => wI_ K x.1 x.2.1⟩
def wI_.hint : Dp.Hint := { n := 19, conds := [(15, [(.normal, { regs := [(0, (.int .i64)), (7, (.list (.int .i64))), (8, (.int .i64)), (9, (.int .i64))] })])], loops := [(2, { regs := [(0, (.int .i64)), (7, (.list (.int .i64))), (8, (.int .i64)), (9, (.int .i64))] }, [(.exit 0, { regs := [(0, (.int .i64))] })])] }
noncomputable def wI_.env : Dp.Env := ⟨ti, gl, [], [], [(199, Tryz.f199, wI_.hint)], [], 0, 40⟩
noncomputable def wI_.r0 (K : Nat) : Nat → (((Int) × ((List (Int)) × Jq6)) × (Unit)) → Option (Jq31) :=
  loopV [(.exit 0, { regs := [(0, (.int .i64))] })] { regs := [(0, (.int .i64)), (7, (.list (.int .i64))), (8, (.int .i64)), (9, (.int .i64))] } (interp (wI_.env.at K) wI_.hint (callF (wI_.env.at K) 7) (Code.sub [1, 0, 1, 0, 0] (Tryz.f199.body.getD .skip)) _)
theorem wI_.s0 (K n : Nat) (x : (((Int) × ((List (Int)) × Jq6)) × (Unit))) : wI_.r0 K (n + 1) x = wI_.t0 K (wI_.r0 K n) x := by kernel_rfl
theorem wI_.e0 (K n : Nat) : wI_.r0 K n = wI_.l0 K n := eqR (l := wI_.l0 K) _ (wI_.s0 K) (fun _ _ => rfl) (fun _ => rfl) n
theorem wI_.body_eq (K : Nat) (x : wI_.spec.args.den) : body (wI_.env.at K) 8 199 wI_.spec x = wI_.tr (wI_.r0 K) K x.1 x.2.1 := by kernel_rfl
theorem wI_.contract : Contract Tryz.prog gl 199 wI_.spec :=
  contract_of (E := wI_.env) (kn rfl (FnsOK_of ⟨⟨Tryz.func199, Tryz.call199⟩, trivial⟩)) (SpecsOK_of trivial) Tryz.call199 rfl rfl fun K x r h => by
    rw [wI_.body_eq, show wI_.r0 K = wI_.l0 K from funext (wI_.e0 K)]; exact h
def wD_.spec : Dp.Spec := ⟨Kq3, (.tup (.scons (.int .i64) Kq12)), false, fun K x => wD_ K x.1⟩
def wD_.hint : Dp.Hint := { n := 26, loops := [(3, { regs := [(0, .str), (4, (.int .i64)), (9, (.loc 0 false []))], heap := [.iter] }, [(.exit 0, { regs := [(0, .str), (4, (.int .i64))], heap := [.iter] }), (.ret, { regs := [(2, (.int .i64)), (3, .bool)], heap := [.iter] })])] }
noncomputable def wD_.env : Dp.Env := ⟨ti, gl, [], [], [(153, Tryz.f153, wD_.hint)], [(200, wb6.spec), (199, wI_.spec)], 0, 40⟩
noncomputable def wD_.r0 (K : Nat) : Nat → (((List UInt8) × ((Int) × Jq22)) × Jq21) → Option ((Jq15 × Jq21) ⊕ (Jq18 × Jq21)) :=
  loopV [(.exit 0, { regs := [(0, .str), (4, (.int .i64))], heap := [.iter] }), (.ret, { regs := [(2, (.int .i64)), (3, .bool)], heap := [.iter] })] { regs := [(0, .str), (4, (.int .i64)), (9, (.loc 0 false []))], heap := [.iter] } (interp (wD_.env.at K) wD_.hint (callF (wD_.env.at K) 7) (Code.sub [1, 1, 0, 1, 0, 0] (Tryz.f153.body.getD .skip)) _)
theorem wD_.s0 (K n : Nat) (x : (((List UInt8) × ((Int) × Jq22)) × Jq21)) : wD_.r0 K (n + 1) x = wD_.t0 K (wD_.r0 K n) x := by kernel_rfl
theorem wD_.e0 (K n : Nat) : wD_.r0 K n = wD_.l0 K n := eqR (l := wD_.l0 K) _ (wD_.s0 K) (fun _ _ => rfl) (fun _ => rfl) n
theorem wD_.body_eq (K : Nat) (x : wD_.spec.args.den) : body (wD_.env.at K) 8 153 wD_.spec x = wD_.tr (wD_.r0 K) K x.1 := by kernel_rfl
theorem wD_.contract : Contract Tryz.prog gl 153 wD_.spec :=
  contract_of (E := wD_.env) (kn rfl (FnsOK_of ⟨⟨Tryz.func153, Tryz.call153⟩, trivial⟩)) (SpecsOK_of ⟨wb6.contract, wI_.contract, trivial⟩) Tryz.call153 rfl rfl fun K x r h => by
    rw [wD_.body_eq, show wD_.r0 K = wD_.l0 K from funext (wD_.e0 K)]; exact h
def wbS.spec : Dp.Spec := ⟨(.scons .str Kq4), (.int .i64), false, fun K x => wbS K x.1 x.2.1⟩
def wbS.hint : Dp.Hint := { n := 16 }
noncomputable def wbS.env : Dp.Env := ⟨ti, gl, [], [], [(196, Tryz.f196, wbS.hint)], [(153, wD_.spec)], 0, 40⟩
theorem wbS.body_eq (K : Nat) (x : wbS.spec.args.den) : body (wbS.env.at K) 8 196 wbS.spec x = wbS K x.1 x.2.1 := by kernel_rfl
theorem wbS.contract : Contract Tryz.prog gl 196 wbS.spec :=
  contract_of (E := wbS.env) (kn rfl (FnsOK_of ⟨⟨Tryz.func196, Tryz.call196⟩, trivial⟩)) (SpecsOK_of ⟨wD_.contract, trivial⟩) Tryz.call196 rfl rfl fun K x r h => by
    rw [wbS.body_eq]; exact h
def wcp.spec : Dp.Spec := ⟨Kq8, (.int .i64), false, fun K x => wcp K x.1 x.2.1⟩
def wcp.hint : Dp.Hint := { n := 23, regions := [(1, [(.normal, { regs := [(0, (.int .i64)), (1, (.int .i64)), (5, .bool)] })])] }
noncomputable def wcp.env : Dp.Env := ⟨ti, gl, [], [], [(195, Tryz.f195, wcp.hint)], [], 0, 40⟩
theorem wcp.body_eq (K : Nat) (x : wcp.spec.args.den) : body (wcp.env.at K) 8 195 wcp.spec x = wcp K x.1 x.2.1 := by kernel_rfl
theorem wcp.contract : Contract Tryz.prog gl 195 wcp.spec :=
  contract_of (E := wcp.env) (kn rfl (FnsOK_of ⟨⟨Tryz.func195, Tryz.call195⟩, trivial⟩)) (SpecsOK_of trivial) Tryz.call195 rfl rfl fun K x r h => by
    rw [wcp.body_eq]; exact h
def wb_.spec : Dp.Spec := ⟨(.scons (.list Kq5) .snil), Kq0, false, fun K x => wb_ K x.1⟩
def wb_.hint : Dp.Hint := { n := 25, conds := [(12, [(.normal, { regs := [(2, (.loc 0 false [])), (3, (.loc 1 false []))], heap := [Kq0, (.scons Kq0 .snil)] })])] }
def wb_.hint102 : Dp.Hint := { n := 40, regions := [(6, [(.normal, { regs := [(1, (.bm 103 (.scons (.loc 1 false []) .snil))), (5, .bool), (8, (.list .str)), (12, (.list .str)), (13, (.int .i64)), (14, (.int .i64))], heap := [Kq0, (.scons Kq0 .snil)] })]), (10, [(.normal, { regs := [(1, (.bm 103 (.scons (.loc 1 false []) .snil))), (5, .bool), (12, (.list .str)), (13, (.int .i64)), (14, (.int .i64)), (28, (.list .str)), (29, (.int .i64)), (30, (.int .i64))], heap := [Kq0, (.scons Kq0 .snil)] })])], loops := [(3, { regs := [(1, (.bm 103 (.scons (.loc 1 false []) .snil))), (5, .bool), (12, (.list .str)), (13, (.int .i64)), (14, (.int .i64))], heap := [Kq0, (.scons Kq0 .snil)] }, [(.exit 0, { regs := [(5, .bool)], heap := [Kq0, (.scons Kq0 .snil)] })]), (8, { regs := [(1, (.bm 103 (.scons (.loc 1 false []) .snil))), (5, .bool), (12, (.list .str)), (13, (.int .i64)), (14, (.int .i64)), (28, (.list .str)), (29, (.int .i64)), (30, (.int .i64))], heap := [Kq0, (.scons Kq0 .snil)] }, [(.exit 2, { regs := [(1, (.bm 103 (.scons (.loc 1 false []) .snil))), (5, .bool), (12, (.list .str)), (13, (.int .i64)), (14, (.int .i64))], heap := [Kq0, (.scons Kq0 .snil)] })])] }
def wb_.hint103 : Dp.Hint := { n := 35, conds := [(28, [(.normal, { regs := [(0, (.loc 1 false [])), (4, .str), (5, .str), (19, (.list (.scons .str (.scons (.fnu [187, 188, 189, 190, 191, 192, 193, 194, 197, 198]) .snil)))), (20, (.int .i64)), (21, (.int .i64))], heap := [Kq0, (.scons Kq0 .snil), (.scons .str (.scons (.fnu [187, 188, 189, 190, 191, 192, 193, 194, 197, 198]) .snil))] })])], regions := [(6, [(.normal, { regs := [(0, (.loc 1 false [])), (4, .str), (5, .str), (19, (.list (.scons .str (.scons (.fnu [187, 188, 189, 190, 191, 192, 193, 194, 197, 198]) .snil)))), (20, (.int .i64)), (21, (.int .i64))], heap := [Kq0, (.scons Kq0 .snil), (.scons .str (.scons (.fnu [187, 188, 189, 190, 191, 192, 193, 194, 197, 198]) .snil))] })])], loops := [(3, { regs := [(0, (.loc 1 false [])), (4, .str), (5, .str), (19, (.list (.scons .str (.scons (.fnu [187, 188, 189, 190, 191, 192, 193, 194, 197, 198]) .snil)))), (20, (.int .i64)), (21, (.int .i64))], heap := [Kq0, (.scons Kq0 .snil)] }, [(.exit 0, { regs := [], heap := [Kq0, (.scons Kq0 .snil)] })])] }
def wb_.hint187 : Dp.Hint := { n := 8 }
def wb_.hint188 : Dp.Hint := { n := 8 }
def wb_.hint189 : Dp.Hint := { n := 8 }
def wb_.hint190 : Dp.Hint := { n := 8 }
def wb_.hint191 : Dp.Hint := { n := 8 }
def wb_.hint192 : Dp.Hint := { n := 8 }
def wb_.hint193 : Dp.Hint := { n := 8 }
def wb_.hint194 : Dp.Hint := { n := 16 }
def wb_.hint197 : Dp.Hint := { n := 16 }
def wb_.hint198 : Dp.Hint := { n := 16 }
noncomputable def wb_.env : Dp.Env := ⟨ti, gl, [], [], [(46, Tryz.f46, wb_.hint), (102, Tryz.f102, wb_.hint102), (103, Tryz.f103, wb_.hint103), (187, Tryz.f187, wb_.hint187), (188, Tryz.f188, wb_.hint188), (189, Tryz.f189, wb_.hint189), (190, Tryz.f190, wb_.hint190), (191, Tryz.f191, wb_.hint191), (192, Tryz.f192, wb_.hint192), (193, Tryz.f193, wb_.hint193), (194, Tryz.f194, wb_.hint194), (197, Tryz.f197, wb_.hint197), (198, Tryz.f198, wb_.hint198)], [(71, wQ_.spec), (130, wS_.spec), (149, wcM.spec), (150, wbD.spec), (196, wbS.spec), (195, wcp.spec)], 0, 40⟩
noncomputable def wb_.r0 (K : Nat) : Nat → (Jq29 × Jq17) → Option (((Unit) × Jq17)) :=
  loopV [(.exit 0, { regs := [], heap := [Kq0, (.scons Kq0 .snil)] })] { regs := [(0, (.loc 1 false [])), (4, .str), (5, .str), (19, (.list (.scons .str (.scons (.fnu [187, 188, 189, 190, 191, 192, 193, 194, 197, 198]) .snil)))), (20, (.int .i64)), (21, (.int .i64))], heap := [Kq0, (.scons Kq0 .snil)] } (interp (wb_.env.at K) wb_.hint103 (callF (wb_.env.at K) 5) (Code.sub [1, 1, 1, 0, 0] (Tryz.f103.body.getD .skip)) _)
theorem wb_.s0 (K n : Nat) (x : (Jq29 × Jq17)) : wb_.r0 K (n + 1) x = wb_.t0 K (wb_.r0 K n) x := by kernel_rfl
theorem wb_.e0 (K n : Nat) : wb_.r0 K n = wb_.l0 K n := eqR (l := wb_.l0 K) _ (wb_.s0 K) (fun _ _ => rfl) (fun _ => rfl) n
noncomputable def wb_.r1 (K : Nat) : Nat → ((Jq22 × ((Bool) × Jq20)) × Jq17) → Option (((Jq22 × ((Bool) × Jq11)) × Jq17)) :=
  loopV [(.exit 2, { regs := [(1, (.bm 103 (.scons (.loc 1 false []) .snil))), (5, .bool), (12, (.list .str)), (13, (.int .i64)), (14, (.int .i64))], heap := [Kq0, (.scons Kq0 .snil)] })] { regs := [(1, (.bm 103 (.scons (.loc 1 false []) .snil))), (5, .bool), (12, (.list .str)), (13, (.int .i64)), (14, (.int .i64)), (28, (.list .str)), (29, (.int .i64)), (30, (.int .i64))], heap := [Kq0, (.scons Kq0 .snil)] } (interp (wb_.env.at K) wb_.hint102 (callF (wb_.env.at K) 6) (Code.sub [1, 1, 0, 1, 0, 0, 1, 1, 0, 0, 1, 1, 1, 1, 0, 0] (Tryz.f102.body.getD .skip)) _)
theorem wb_.s1 (K n : Nat) (x : ((Jq22 × ((Bool) × Jq20)) × Jq17)) : wb_.r1 K (n + 1) x = wb_.t1 (wb_.r0 K) K (wb_.r1 K n) x := by kernel_rfl
theorem wb_.e1 (K n : Nat) : wb_.r1 K n = wb_.l1 K n := by
  induction n with
  | zero => funext x; rfl
  | succ n ih => funext x; rw [wb_.s1, ih, show wb_.r0 K = wb_.l0 K from funext (wb_.e0 K)]; rfl
noncomputable def wb_.r2 (K : Nat) : Nat → ((Jq22 × ((Bool) × Jq11)) × Jq17) → Option ((Jq5 × Jq17)) :=
  loopV [(.exit 0, { regs := [(5, .bool)], heap := [Kq0, (.scons Kq0 .snil)] })] { regs := [(1, (.bm 103 (.scons (.loc 1 false []) .snil))), (5, .bool), (12, (.list .str)), (13, (.int .i64)), (14, (.int .i64))], heap := [Kq0, (.scons Kq0 .snil)] } (interp (wb_.env.at K) wb_.hint102 (callF (wb_.env.at K) 6) (Code.sub [1, 1, 0, 1, 0, 0] (Tryz.f102.body.getD .skip)) _)
theorem wb_.s2 (K n : Nat) (x : ((Jq22 × ((Bool) × Jq11)) × Jq17)) : wb_.r2 K (n + 1) x = wb_.t2 (wb_.r1 K) K (wb_.r2 K n) x := by kernel_rfl
theorem wb_.e2 (K n : Nat) : wb_.r2 K n = wb_.l2 K n := by
  induction n with
  | zero => funext x; rfl
  | succ n ih => funext x; rw [wb_.s2, ih, show wb_.r1 K = wb_.l1 K from funext (wb_.e1 K)]; rfl
theorem wb_.body_eq (K : Nat) (x : wb_.spec.args.den) : body (wb_.env.at K) 8 46 wb_.spec x = wb_.tr (wb_.r2 K) K x.1 := by kernel_rfl
theorem wb_.contract : Contract Tryz.prog gl 46 wb_.spec :=
  contract_of (E := wb_.env) (kn rfl (FnsOK_of ⟨⟨Tryz.func46, Tryz.call46⟩, ⟨Tryz.func102, Tryz.call102⟩, ⟨Tryz.func103, Tryz.call103⟩, ⟨Tryz.func187, Tryz.call187⟩, ⟨Tryz.func188, Tryz.call188⟩, ⟨Tryz.func189, Tryz.call189⟩, ⟨Tryz.func190, Tryz.call190⟩, ⟨Tryz.func191, Tryz.call191⟩, ⟨Tryz.func192, Tryz.call192⟩, ⟨Tryz.func193, Tryz.call193⟩, ⟨Tryz.func194, Tryz.call194⟩, ⟨Tryz.func197, Tryz.call197⟩, ⟨Tryz.func198, Tryz.call198⟩, trivial⟩)) (SpecsOK_of ⟨wQ_.contract, wS_.contract, wcM.contract, wbD.contract, wbS.contract, wcp.contract, trivial⟩) Tryz.call46 rfl rfl fun K x r h => by
    rw [wb_.body_eq, show wb_.r2 K = wb_.l2 K from funext (wb_.e2 K)]; exact h
def wcv.spec : Dp.Spec := ⟨(.scons (.list Kq5) Kq3), (.tup (.scons .str Kq12)), false, fun K x => wcv K x.1 x.2.1⟩
def wcv.hint : Dp.Hint := { n := 15 }
noncomputable def wcv.env : Dp.Env := ⟨ti, gl, [], [], [(29, Tryz.f29, wcv.hint)], [(71, wQ_.spec), (72, joinS.spec)], 0, 40⟩
theorem wcv.body_eq (K : Nat) (x : wcv.spec.args.den) : body (wcv.env.at K) 8 29 wcv.spec x = wcv K x.1 x.2.1 := by kernel_rfl
theorem wcv.contract : Contract Tryz.prog gl 29 wcv.spec :=
  contract_of (E := wcv.env) (kn rfl (FnsOK_of ⟨⟨Tryz.func29, Tryz.call29⟩, trivial⟩)) (SpecsOK_of ⟨wQ_.contract, joinS.contract, trivial⟩) Tryz.call29 rfl rfl fun K x r h => by
    rw [wcv.body_eq]; exact h
def wbv.spec : Dp.Spec := ⟨Kq5, .bool, false, fun K x => wbv K x.1 x.2.1⟩
def wbv.hint : Dp.Hint := { n := 24, loops := [(3, { regs := [(1, .str), (14, (.list .str)), (15, (.int .i64)), (16, (.int .i64))] }, [(.exit 0, { regs := [] }), (.ret, { regs := [(4, .bool)] })])] }
noncomputable def wbv.env : Dp.Env := ⟨ti, gl, [], [], [(148, Tryz.f148, wbv.hint)], [(70, wcK.spec), (130, wS_.spec)], 0, 40⟩
noncomputable def wbv.r0 (K : Nat) : Nat → (((List UInt8) × Jq11) × (Unit)) → Option (Jq14 ⊕ Jq24) :=
  loopV [(.exit 0, { regs := [] }), (.ret, { regs := [(4, .bool)] })] { regs := [(1, .str), (14, (.list .str)), (15, (.int .i64)), (16, (.int .i64))] } (interp (wbv.env.at K) wbv.hint (callF (wbv.env.at K) 7) (Code.sub [1, 1, 0, 1, 0, 0] (Tryz.f148.body.getD .skip)) _)
theorem wbv.s0 (K n : Nat) (x : (((List UInt8) × Jq11) × (Unit))) : wbv.r0 K (n + 1) x = wbv.t0 K (wbv.r0 K n) x := by kernel_rfl
theorem wbv.e0 (K n : Nat) : wbv.r0 K n = wbv.l0 K n := eqR (l := wbv.l0 K) _ (wbv.s0 K) (fun _ _ => rfl) (fun _ => rfl) n
theorem wbv.body_eq (K : Nat) (x : wbv.spec.args.den) : body (wbv.env.at K) 8 148 wbv.spec x = wbv.tr (wbv.r0 K) K x.1 x.2.1 := by kernel_rfl
theorem wbv.contract : Contract Tryz.prog gl 148 wbv.spec :=
  contract_of (E := wbv.env) (kn rfl (FnsOK_of ⟨⟨Tryz.func148, Tryz.call148⟩, trivial⟩)) (SpecsOK_of ⟨wcK.contract, wS_.contract, trivial⟩) Tryz.call148 rfl rfl fun K x r h => by
    rw [wbv.body_eq, show wbv.r0 K = wbv.l0 K from funext (wbv.e0 K)]; exact h
def wbg.spec : Dp.Spec := ⟨(.scons (.list Kq5) Kq5), .bool, false, fun K x => wbg K x.1 x.2.1 x.2.2.1⟩
def wbg.hint : Dp.Hint := { n := 21, loops := [(2, { regs := [(2, .str), (11, (.list .str)), (12, (.int .i64)), (13, (.int .i64))] }, [(.exit 0, { regs := [] }), (.ret, { regs := [(6, .bool)] })])] }
noncomputable def wbg.env : Dp.Env := ⟨ti, gl, [], [], [(101, Tryz.f101, wbg.hint)], [(71, wQ_.spec), (148, wbv.spec)], 0, 40⟩
noncomputable def wbg.r0 (K : Nat) : Nat → (((List UInt8) × Jq11) × (Unit)) → Option (Jq14 ⊕ Jq24) :=
  loopV [(.exit 0, { regs := [] }), (.ret, { regs := [(6, .bool)] })] { regs := [(2, .str), (11, (.list .str)), (12, (.int .i64)), (13, (.int .i64))] } (interp (wbg.env.at K) wbg.hint (callF (wbg.env.at K) 7) (Code.sub [1, 0, 1, 0, 0] (Tryz.f101.body.getD .skip)) _)
theorem wbg.s0 (K n : Nat) (x : (((List UInt8) × Jq11) × (Unit))) : wbg.r0 K (n + 1) x = wbg.t0 K (wbg.r0 K n) x := by kernel_rfl
theorem wbg.e0 (K n : Nat) : wbg.r0 K n = wbg.l0 K n := eqR (l := wbg.l0 K) _ (wbg.s0 K) (fun _ _ => rfl) (fun _ => rfl) n
theorem wbg.body_eq (K : Nat) (x : wbg.spec.args.den) : body (wbg.env.at K) 8 101 wbg.spec x = wbg.tr (wbg.r0 K) K x.1 x.2.1 x.2.2.1 := by kernel_rfl
theorem wbg.contract : Contract Tryz.prog gl 101 wbg.spec :=
  contract_of (E := wbg.env) (kn rfl (FnsOK_of ⟨⟨Tryz.func101, Tryz.call101⟩, trivial⟩)) (SpecsOK_of ⟨wQ_.contract, wbv.contract, trivial⟩) Tryz.call101 rfl rfl fun K x r h => by
    rw [wbg.body_eq, show wbg.r0 K = wbg.l0 K from funext (wbg.e0 K)]; exact h
def wbX.spec : Dp.Spec := ⟨(.scons (.list Kq5) .snil), Kq0, false, fun K x => wbX K x.1⟩
def wbX.hint : Dp.Hint := { n := 21, regions := [(3, [(.normal, { regs := [(2, (.loc 0 false [])), (3, (.loc 1 false [])), (18, .bool)], heap := [Kq0, Kq0] })])] }
noncomputable def wbX.env : Dp.Env := ⟨ti, gl, [], [], [(45, Tryz.f45, wbX.hint)], [(46, wb_.spec), (29, wcv.spec), (101, wbg.spec)], 0, 40⟩
theorem wbX.body_eq (K : Nat) (x : wbX.spec.args.den) : body (wbX.env.at K) 8 45 wbX.spec x = wbX K x.1 := by kernel_rfl
theorem wbX.contract : Contract Tryz.prog gl 45 wbX.spec :=
  contract_of (E := wbX.env) (kn rfl (FnsOK_of ⟨⟨Tryz.func45, Tryz.call45⟩, trivial⟩)) (SpecsOK_of ⟨wb_.contract, wcv.contract, wbg.contract, trivial⟩) Tryz.call45 rfl rfl fun K x r h => by
    rw [wbX.body_eq]; exact h
def wbd.spec : Dp.Spec := ⟨(.scons (.list Kq5) (.scons (.list .str) .snil)), .bool, false, fun K x => wbd K x.1 x.2.1⟩
def wbd.hint : Dp.Hint := { n := 23, loops := [(2, { regs := [(0, (.list Kq5)), (9, (.list .str)), (10, (.int .i64)), (11, (.int .i64))] }, [(.exit 0, { regs := [] }), (.ret, { regs := [(4, .bool)] })])] }
noncomputable def wbd.env : Dp.Env := ⟨ti, gl, [], [], [(80, Tryz.f80, wbd.hint)], [(29, wcv.spec)], 0, 40⟩
noncomputable def wbd.r0 (K : Nat) : Nat → (((List Jq7) × Jq11) × (Unit)) → Option (Jq14 ⊕ Jq24) :=
  loopV [(.exit 0, { regs := [] }), (.ret, { regs := [(4, .bool)] })] { regs := [(0, (.list Kq5)), (9, (.list .str)), (10, (.int .i64)), (11, (.int .i64))] } (interp (wbd.env.at K) wbd.hint (callF (wbd.env.at K) 7) (Code.sub [1, 0, 1, 0, 0] (Tryz.f80.body.getD .skip)) _)
theorem wbd.s0 (K n : Nat) (x : (((List Jq7) × Jq11) × (Unit))) : wbd.r0 K (n + 1) x = wbd.t0 K (wbd.r0 K n) x := by kernel_rfl
theorem wbd.e0 (K n : Nat) : wbd.r0 K n = wbd.l0 K n := eqR (l := wbd.l0 K) _ (wbd.s0 K) (fun _ _ => rfl) (fun _ => rfl) n
theorem wbd.body_eq (K : Nat) (x : wbd.spec.args.den) : body (wbd.env.at K) 8 80 wbd.spec x = wbd.tr (wbd.r0 K) K x.1 x.2.1 := by kernel_rfl
theorem wbd.contract : Contract Tryz.prog gl 80 wbd.spec :=
  contract_of (E := wbd.env) (kn rfl (FnsOK_of ⟨⟨Tryz.func80, Tryz.call80⟩, trivial⟩)) (SpecsOK_of ⟨wcv.contract, trivial⟩) Tryz.call80 rfl rfl fun K x r h => by
    rw [wbd.body_eq, show wbd.r0 K = wbd.l0 K from funext (wbd.e0 K)]; exact h
def wb3.spec : Dp.Spec := ⟨(.scons Kq11 .snil), .bool, false, fun K x => wb3 K x.1⟩
def wb3.hint : Dp.Hint := { n := 7, imm := [1] }
noncomputable def wb3.env : Dp.Env := ⟨ti, gl, [], [], [(37, Tryz.f37, wb3.hint)], [(80, wbd.spec)], 0, 40⟩
theorem wb3.body_eq (K : Nat) (x : wb3.spec.args.den) : body (wb3.env.at K) 8 37 wb3.spec x = wb3 K x.1 := by kernel_rfl
theorem wb3.contract : Contract Tryz.prog gl 37 wb3.spec :=
  contract_of (E := wb3.env) (kn rfl (FnsOK_of ⟨⟨Tryz.func37, Tryz.call37⟩, trivial⟩)) (SpecsOK_of ⟨wbd.contract, trivial⟩) Tryz.call37 rfl rfl fun K x r h => by
    rw [wb3.body_eq]; exact h
def wbF.spec : Dp.Spec := ⟨(.scons (.ref Kq11) .snil), .bool, false, fun K x => wbF K x.1⟩
def wbF.hint : Dp.Hint := { n := 10 }
noncomputable def wbF.env : Dp.Env := ⟨ti, gl, [], [], [(77, Tryz.f77, wbF.hint)], [(37, wb3.spec)], 0, 40⟩
theorem wbF.body_eq (K : Nat) (x : wbF.spec.args.den) : body (wbF.env.at K) 8 77 wbF.spec x = wbF K x.1 := by kernel_rfl
theorem wbF.contract : Contract Tryz.prog gl 77 wbF.spec :=
  contract_of (E := wbF.env) (kn rfl (FnsOK_of ⟨⟨Tryz.func77, Tryz.call77⟩, trivial⟩)) (SpecsOK_of ⟨wb3.contract, trivial⟩) Tryz.call77 rfl rfl fun K x r h => by
    rw [wbF.body_eq]; exact h
def wbx.spec : Dp.Spec := ⟨(.scons (.ref Kq0) (.scons (.ref Kq0) .snil)), .bool, false, fun K x => wbx K x.1 x.2.1⟩
def wbx.hint : Dp.Hint := { n := 16 }
noncomputable def wbx.env : Dp.Env := ⟨ti, gl, [], [], [(78, Tryz.f78, wbx.hint)], [], 0, 40⟩
theorem wbx.body_eq (K : Nat) (x : wbx.spec.args.den) : body (wbx.env.at K) 8 78 wbx.spec x = wbx K x.1 x.2.1 := by kernel_rfl
theorem wbx.contract : Contract Tryz.prog gl 78 wbx.spec :=
  contract_of (E := wbx.env) (kn rfl (FnsOK_of ⟨⟨Tryz.func78, Tryz.call78⟩, trivial⟩)) (SpecsOK_of trivial) Tryz.call78 rfl rfl fun K x r h => by
    rw [wbx.body_eq]; exact h
def wbw.spec : Dp.Spec := ⟨(.scons (.ref Kq11) (.scons (.ref Kq0) .snil)), .bool, false, fun K x => wbw K x.1 x.2.1⟩
def wbw.hint : Dp.Hint := { n := 21 }
noncomputable def wbw.env : Dp.Env := ⟨ti, gl, [], [], [(79, Tryz.f79, wbw.hint)], [(80, wbd.spec)], 0, 40⟩
theorem wbw.body_eq (K : Nat) (x : wbw.spec.args.den) : body (wbw.env.at K) 8 79 wbw.spec x = wbw K x.1 x.2.1 := by kernel_rfl
theorem wbw.contract : Contract Tryz.prog gl 79 wbw.spec :=
  contract_of (E := wbw.env) (kn rfl (FnsOK_of ⟨⟨Tryz.func79, Tryz.call79⟩, trivial⟩)) (SpecsOK_of ⟨wbd.contract, trivial⟩) Tryz.call79 rfl rfl fun K x r h => by
    rw [wbw.body_eq]; exact h
def wbH.spec : Dp.Spec := ⟨(.scons (.ref Kq6) .snil), .bool, false, fun K x => wbH K x.1⟩
def wbH.hint : Dp.Hint := { n := 10 }
noncomputable def wbH.env : Dp.Env := ⟨ti, gl, [], [], [(81, Tryz.f81, wbH.hint)], [], 0, 40⟩
theorem wbH.body_eq (K : Nat) (x : wbH.spec.args.den) : body (wbH.env.at K) 8 81 wbH.spec x = wbH K x.1 := by kernel_rfl
theorem wbH.contract : Contract Tryz.prog gl 81 wbH.spec :=
  contract_of (E := wbH.env) (kn rfl (FnsOK_of ⟨⟨Tryz.func81, Tryz.call81⟩, trivial⟩)) (SpecsOK_of trivial) Tryz.call81 rfl rfl fun K x r h => by
    rw [wbH.body_eq]; exact h
def wz_.spec : Dp.Spec := ⟨(.scons (.list Kq5) .snil), (.tup (.scons (.list .str) Kq12)), false, fun K x => wz_ K x.1⟩
def wz_.hint : Dp.Hint := { n := 59, conds := [(49, [(.normal, { regs := [(4, (.mapp 1)), (5, (.slw 2)), (14, (.list .str)), (15, (.int .i64)), (16, (.int .i64)), (27, (.list .str)), (28, (.int .i64)), (29, (.int .i64))], heap := [(.row .str), (.mobj .str (.int .i64)), (.row .str)], app := [2] })])], regions := [(12, [(.normal, { regs := [(4, (.mapp 1)), (5, (.slw 2)), (11, .str), (14, (.list .str)), (15, (.int .i64)), (16, (.int .i64)), (27, (.list .str)), (28, (.int .i64)), (29, (.int .i64)), (39, .bool)], heap := [(.row .str), (.mobj .str (.int .i64)), (.row .str)], app := [2] })])], loops := [(4, { regs := [(4, (.mapp 1)), (5, (.slw 2)), (14, (.list .str)), (15, (.int .i64)), (16, (.int .i64))], heap := [(.row .str), (.mobj .str (.int .i64)), (.row .str)], app := [2] }, [(.exit 0, { regs := [(5, (.slw 2))], heap := [(.row .str), (.mobj .str (.int .i64)), (.row .str)], app := [2] }), (.ret, { regs := [(2, (.slw 3)), (3, .bool)], heap := [(.row .str), (.mobj .str (.int .i64)), (.row .str), (.row .str)], app := [2] })]), (10, { regs := [(4, (.mapp 1)), (5, (.slw 2)), (14, (.list .str)), (15, (.int .i64)), (16, (.int .i64)), (27, (.list .str)), (28, (.int .i64)), (29, (.int .i64))], heap := [(.row .str), (.mobj .str (.int .i64)), (.row .str)], app := [2] }, [(.exit 2, { regs := [(4, (.mapp 1)), (5, (.slw 2)), (14, (.list .str)), (15, (.int .i64)), (16, (.int .i64))], heap := [(.row .str), (.mobj .str (.int .i64)), (.row .str)], app := [2] }), (.ret, { regs := [(2, (.slw 3)), (3, .bool)], heap := [(.row .str), (.mobj .str (.int .i64)), (.row .str), (.row .str)], app := [2] })])], own := [2, 2, 2, 5], frz := [57] }
noncomputable def wz_.env : Dp.Env := ⟨ti, gl, [(132, sortS.mspec)], [], [(83, Tryz.f83, wz_.hint)], [(122, wZ_.spec), (71, wQ_.spec), (130, wS_.spec), (131, wb8.spec)], 0, 40⟩
noncomputable def wz_.r0 (K : Nat) : Nat → (((Unit) × ((Unit) × Jq20)) × Jq9) → Option ((((Unit) × ((Unit) × Jq11)) × Jq9) ⊕ Jq23) :=
  loopV [(.exit 2, { regs := [(4, (.mapp 1)), (5, (.slw 2)), (14, (.list .str)), (15, (.int .i64)), (16, (.int .i64))], heap := [(.row .str), (.mobj .str (.int .i64)), (.row .str)], app := [2] }), (.ret, { regs := [(2, (.slw 3)), (3, .bool)], heap := [(.row .str), (.mobj .str (.int .i64)), (.row .str), (.row .str)], app := [2] })] { regs := [(4, (.mapp 1)), (5, (.slw 2)), (14, (.list .str)), (15, (.int .i64)), (16, (.int .i64)), (27, (.list .str)), (28, (.int .i64)), (29, (.int .i64))], heap := [(.row .str), (.mobj .str (.int .i64)), (.row .str)], app := [2] } (interp (wz_.env.at K) wz_.hint (callF (wz_.env.at K) 7) (Code.sub [1, 1, 1, 0, 1, 0, 0, 1, 1, 0, 0, 1, 1, 1, 1, 0, 0] (Tryz.f83.body.getD .skip)) _)
theorem wz_.s0 (K n : Nat) (x : (((Unit) × ((Unit) × Jq20)) × Jq9)) : wz_.r0 K (n + 1) x = wz_.t0 K (wz_.r0 K n) x := by kernel_rfl
theorem wz_.e0 (K n : Nat) : wz_.r0 K n = wz_.l0 K n := eqR (l := wz_.l0 K) _ (wz_.s0 K) (fun _ _ => rfl) (fun _ => rfl) n
noncomputable def wz_.r1 (K : Nat) : Nat → (((Unit) × ((Unit) × Jq11)) × Jq9) → Option ((Jq14 × Jq9) ⊕ Jq23) :=
  loopV [(.exit 0, { regs := [(5, (.slw 2))], heap := [(.row .str), (.mobj .str (.int .i64)), (.row .str)], app := [2] }), (.ret, { regs := [(2, (.slw 3)), (3, .bool)], heap := [(.row .str), (.mobj .str (.int .i64)), (.row .str), (.row .str)], app := [2] })] { regs := [(4, (.mapp 1)), (5, (.slw 2)), (14, (.list .str)), (15, (.int .i64)), (16, (.int .i64))], heap := [(.row .str), (.mobj .str (.int .i64)), (.row .str)], app := [2] } (interp (wz_.env.at K) wz_.hint (callF (wz_.env.at K) 7) (Code.sub [1, 1, 1, 0, 1, 0, 0] (Tryz.f83.body.getD .skip)) _)
theorem wz_.s1 (K n : Nat) (x : (((Unit) × ((Unit) × Jq11)) × Jq9)) : wz_.r1 K (n + 1) x = wz_.t1 (wz_.r0 K) K (wz_.r1 K n) x := by kernel_rfl
theorem wz_.e1 (K n : Nat) : wz_.r1 K n = wz_.l1 K n := by
  induction n with
  | zero => funext x; rfl
  | succ n ih => funext x; rw [wz_.s1, ih, show wz_.r0 K = wz_.l0 K from funext (wz_.e0 K)]; rfl
theorem wz_.body_eq (K : Nat) (x : wz_.spec.args.den) : body (wz_.env.at K) 8 83 wz_.spec x = wz_.tr (wz_.r1 K) K x.1 := by kernel_rfl
theorem wz_.contract : Contract Tryz.prog gl 83 wz_.spec :=
  contract_of (E := wz_.env) (kn rfl (FnsOK_of ⟨⟨Tryz.func83, Tryz.call83⟩, trivial⟩)) (SpecsOK_of ⟨wZ_.contract, wQ_.contract, wS_.contract, wb8.contract, trivial⟩ ⟨sortS.turns, trivial⟩) Tryz.call83 rfl rfl fun K x r h => by
    rw [wz_.body_eq, show wz_.r1 K = wz_.l1 K from funext (wz_.e1 K)]; exact h
def wbG.spec : Dp.Spec := ⟨(.scons (.ref Kq6) .snil), .bool, false, fun K x => wbG K x.1⟩
def wbG.hint : Dp.Hint := { n := 11 }
noncomputable def wbG.env : Dp.Env := ⟨ti, gl, [], [], [(82, Tryz.f82, wbG.hint)], [(83, wz_.spec)], 0, 40⟩
theorem wbG.body_eq (K : Nat) (x : wbG.spec.args.den) : body (wbG.env.at K) 8 82 wbG.spec x = wbG K x.1 := by kernel_rfl
theorem wbG.contract : Contract Tryz.prog gl 82 wbG.spec :=
  contract_of (E := wbG.env) (kn rfl (FnsOK_of ⟨⟨Tryz.func82, Tryz.call82⟩, trivial⟩)) (SpecsOK_of ⟨wz_.contract, trivial⟩) Tryz.call82 rfl rfl fun K x r h => by
    rw [wbG.body_eq]; exact h
def wcJ.spec : Dp.Spec := ⟨Kq4, .bool, false, fun K x => wcJ K x.1⟩
def wcJ.hint : Dp.Hint := { n := 16 }
noncomputable def wcJ.env : Dp.Env := ⟨ti, gl, [], [], [(85, Tryz.f85, wcJ.hint)], [], 0, 40⟩
theorem wcJ.body_eq (K : Nat) (x : wcJ.spec.args.den) : body (wcJ.env.at K) 8 85 wcJ.spec x = wcJ K x.1 := by kernel_rfl
theorem wcJ.contract : Contract Tryz.prog gl 85 wcJ.spec :=
  contract_of (E := wcJ.env) (kn rfl (FnsOK_of ⟨⟨Tryz.func85, Tryz.call85⟩, trivial⟩)) (SpecsOK_of trivial) Tryz.call85 rfl rfl fun K x r h => by
    rw [wcJ.body_eq]; exact h
def wbz.spec : Dp.Spec := ⟨(.scons (.ref Kq0) (.scons (.ref Kq6) .snil)), .bool, false, fun K x => wbz K x.1 x.2.1⟩
def wbz.hint : Dp.Hint := { n := 28, regions := [(1, [(.normal, { regs := [(0, (.ref Kq0)), (1, (.ref Kq6)), (3, .bool)] })])] }
noncomputable def wbz.env : Dp.Env := ⟨ti, gl, [], [], [(84, Tryz.f84, wbz.hint)], [(80, wbd.spec), (85, wcJ.spec)], 0, 40⟩
theorem wbz.body_eq (K : Nat) (x : wbz.spec.args.den) : body (wbz.env.at K) 8 84 wbz.spec x = wbz K x.1 x.2.1 := by kernel_rfl
theorem wbz.contract : Contract Tryz.prog gl 84 wbz.spec :=
  contract_of (E := wbz.env) (kn rfl (FnsOK_of ⟨⟨Tryz.func84, Tryz.call84⟩, trivial⟩)) (SpecsOK_of ⟨wbd.contract, wcJ.contract, trivial⟩) Tryz.call84 rfl rfl fun K x r h => by
    rw [wbz.body_eq]; exact h
def wbn.spec : Dp.Spec := ⟨(.scons (.int .i64) (.scons (.int .i64) (.scons (.ref .str) .snil))), .str, false, fun K x => wbn K x.1 x.2.1 x.2.2.1⟩
def wbn.hint : Dp.Hint := { n := 18 }
noncomputable def wbn.env : Dp.Env := ⟨ti, gl, [], [], [(203, Tryz.f203, wbn.hint)], [], 0, 40⟩
theorem wbn.body_eq (K : Nat) (x : wbn.spec.args.den) : body (wbn.env.at K) 8 203 wbn.spec x = wbn K x.1 x.2.1 x.2.2.1 := by kernel_rfl
theorem wbn.contract : Contract Tryz.prog gl 203 wbn.spec :=
  contract_of (E := wbn.env) (kn rfl (FnsOK_of ⟨⟨Tryz.func203, Tryz.call203⟩, trivial⟩)) (SpecsOK_of trivial) Tryz.call203 rfl rfl fun K x r h => by
    rw [wbn.body_eq]; exact h
def wbW.spec : Dp.Spec := ⟨Kq5, .str, false, fun K x => wbW K x.1 x.2.1⟩
def wbW.hint : Dp.Hint := { n := 37, regions := [(1, [(.normal, { regs := [(0, .str), (1, .str), (12, .bool)] })]), (3, [(.normal, { regs := [(0, .str), (1, .str), (21, .bool)] })])] }
noncomputable def wbW.env : Dp.Env := ⟨ti, gl, [], [], [(251, Tryz.f251, wbW.hint)], [(242, wi_.spec), (245, wf_.spec), (244, asciiSet.spec)], 0, 40⟩
theorem wbW.body_eq (K : Nat) (x : wbW.spec.args.den) : body (wbW.env.at K) 8 251 wbW.spec x = wbW K x.1 x.2.1 := by kernel_rfl
theorem wbW.contract : Contract Tryz.prog gl 251 wbW.spec :=
  contract_of (E := wbW.env) (kn rfl (FnsOK_of ⟨⟨Tryz.func251, Tryz.call251⟩, trivial⟩)) (SpecsOK_of ⟨wi_.contract, wf_.contract, asciiSet.contract, trivial⟩) Tryz.call251 rfl rfl fun K x r h => by
    rw [wbW.body_eq]; exact h
def w0_.spec : Dp.Spec := ⟨(.scons .str (.scons (.int .i64) Kq8)), (.tup Kq8), false, fun K x => w0_ K x.1 x.2.1 x.2.2.1 x.2.2.2.1⟩
def w0_.hint : Dp.Hint := { n := 41, regions := [(1, [(.normal, { regs := [(0, .str), (1, (.int .i64)), (3, (.int .i64)), (21, .bool)] })])], loops := [(5, { regs := [(1, (.int .i64)), (3, (.int .i64)), (10, (.int .i64)), (23, (.loc 0 false []))], heap := [.iter] }, [(.exit 0, { regs := [(3, (.int .i64)), (10, (.int .i64))], heap := [.iter] }), (.ret, { regs := [(8, (.int .i64)), (9, (.int .i64))], heap := [.iter] })])] }
noncomputable def w0_.env : Dp.Env := ⟨ti, gl, [], [], [(273, Tryz.f273, w0_.hint)], [(200, wb6.spec)], 0, 40⟩
noncomputable def w0_.r0 (K : Nat) : Nat → (((Int) × ((Int) × ((Int) × Jq22))) × Jq21) → Option ((Jq6 × Jq21) ⊕ (Jq6 × Jq21)) :=
  loopV [(.exit 0, { regs := [(3, (.int .i64)), (10, (.int .i64))], heap := [.iter] }), (.ret, { regs := [(8, (.int .i64)), (9, (.int .i64))], heap := [.iter] })] { regs := [(1, (.int .i64)), (3, (.int .i64)), (10, (.int .i64)), (23, (.loc 0 false []))], heap := [.iter] } (interp (w0_.env.at K) w0_.hint (callF (w0_.env.at K) 7) (Code.sub [1, 1, 1, 0, 1, 0, 0] (Tryz.f273.body.getD .skip)) _)
theorem w0_.s0 (K n : Nat) (x : (((Int) × ((Int) × ((Int) × Jq22))) × Jq21)) : w0_.r0 K (n + 1) x = w0_.t0 K (w0_.r0 K n) x := by kernel_rfl
theorem w0_.e0 (K n : Nat) : w0_.r0 K n = w0_.l0 K n := eqR (l := w0_.l0 K) _ (w0_.s0 K) (fun _ _ => rfl) (fun _ => rfl) n
theorem w0_.body_eq (K : Nat) (x : w0_.spec.args.den) : body (w0_.env.at K) 8 273 w0_.spec x = w0_.tr (w0_.r0 K) K x.1 x.2.1 x.2.2.1 x.2.2.2.1 := by kernel_rfl
theorem w0_.contract : Contract Tryz.prog gl 273 w0_.spec :=
  contract_of (E := w0_.env) (kn rfl (FnsOK_of ⟨⟨Tryz.func273, Tryz.call273⟩, trivial⟩)) (SpecsOK_of ⟨wb6.contract, trivial⟩) Tryz.call273 rfl rfl fun K x r h => by
    rw [w0_.body_eq, show w0_.r0 K = w0_.l0 K from funext (w0_.e0 K)]; exact h
def wck.spec : Dp.Spec := ⟨(.scons .str Kq4), (.tup Kq8), false, fun K x => wck K x.1 x.2.1⟩
def wck.hint : Dp.Hint := { n := 11 }
noncomputable def wck.env : Dp.Env := ⟨ti, gl, [], [], [(250, Tryz.f250, wck.hint)], [(273, w0_.spec)], 0, 40⟩
theorem wck.body_eq (K : Nat) (x : wck.spec.args.den) : body (wck.env.at K) 8 250 wck.spec x = wck K x.1 x.2.1 := by kernel_rfl
theorem wck.contract : Contract Tryz.prog gl 250 wck.spec :=
  contract_of (E := wck.env) (kn rfl (FnsOK_of ⟨⟨Tryz.func250, Tryz.call250⟩, trivial⟩)) (SpecsOK_of ⟨w0_.contract, trivial⟩) Tryz.call250 rfl rfl fun K x r h => by
    rw [wck.body_eq]; exact h
def wcr.spec : Dp.Spec := ⟨Kq3, (.int .i64), false, fun K x => wcr K x.1⟩
def wcr.hint : Dp.Hint := { n := 14 }
noncomputable def wcr.env : Dp.Env := ⟨ti, gl, [], [], [(204, Tryz.f204, wcr.hint)], [(251, wbW.spec), (250, wck.spec)], 0, 40⟩
theorem wcr.body_eq (K : Nat) (x : wcr.spec.args.den) : body (wcr.env.at K) 8 204 wcr.spec x = wcr K x.1 := by kernel_rfl
theorem wcr.contract : Contract Tryz.prog gl 204 wcr.spec :=
  contract_of (E := wcr.env) (kn rfl (FnsOK_of ⟨⟨Tryz.func204, Tryz.call204⟩, trivial⟩)) (SpecsOK_of ⟨wbW.contract, wck.contract, trivial⟩) Tryz.call204 rfl rfl fun K x r h => by
    rw [wcr.body_eq]; exact h
def wct.spec : Dp.Spec := ⟨Kq4, (.int .i64), false, fun K x => wct K x.1⟩
def wct.hint : Dp.Hint := { n := 9 }
noncomputable def wct.env : Dp.Env := ⟨ti, gl, [], [], [(205, Tryz.f205, wct.hint)], [], 0, 40⟩
theorem wct.body_eq (K : Nat) (x : wct.spec.args.den) : body (wct.env.at K) 8 205 wct.spec x = wct K x.1 := by kernel_rfl
theorem wct.contract : Contract Tryz.prog gl 205 wct.spec :=
  contract_of (E := wct.env) (kn rfl (FnsOK_of ⟨⟨Tryz.func205, Tryz.call205⟩, trivial⟩)) (SpecsOK_of trivial) Tryz.call205 rfl rfl fun K x r h => by
    rw [wct.body_eq]; exact h
def w8_.spec : Dp.Spec := ⟨Kq3, (.int .i64), false, fun K x => w8_ K x.1⟩
def w8_.hint : Dp.Hint := { n := 16, loops := [(2, { regs := [(0, .str), (5, (.arr 12 .str)), (6, (.int .i64))] }, [(.exit 0, { regs := [] }), (.ret, { regs := [(2, (.int .i64))] })])] }
noncomputable def w8_.env : Dp.Env := ⟨ti, gl, [], [], [(207, Tryz.f207, w8_.hint)], [], 0, 40⟩
noncomputable def w8_.r0 (K : Nat) : Nat → Jq39 → Option (Jq14 ⊕ Jq31) :=
  loopV [(.exit 0, { regs := [] }), (.ret, { regs := [(2, (.int .i64))] })] { regs := [(0, .str), (5, (.arr 12 .str)), (6, (.int .i64))] } (interp (w8_.env.at K) w8_.hint (callF (w8_.env.at K) 7) (Code.sub [1, 0, 1, 0, 0] (Tryz.f207.body.getD .skip)) _)
theorem w8_.s0 (K n : Nat) (x : Jq39) : w8_.r0 K (n + 1) x = w8_.t0 K (w8_.r0 K n) x := by kernel_rfl
theorem w8_.e0 (K n : Nat) : w8_.r0 K n = w8_.l0 K n := eqR (l := w8_.l0 K) _ (w8_.s0 K) (fun _ _ => rfl) (fun _ => rfl) n
theorem w8_.body_eq (K : Nat) (x : w8_.spec.args.den) : body (w8_.env.at K) 8 207 w8_.spec x = w8_.tr (w8_.r0 K) K x.1 := by kernel_rfl
theorem w8_.contract : Contract Tryz.prog gl 207 w8_.spec :=
  contract_of (E := w8_.env) (kn rfl (FnsOK_of ⟨⟨Tryz.func207, Tryz.call207⟩, trivial⟩)) (SpecsOK_of trivial) Tryz.call207 rfl rfl fun K x r h => by
    rw [w8_.body_eq, show w8_.r0 K = w8_.l0 K from funext (w8_.e0 K)]; exact h
def wcS.spec : Dp.Spec := ⟨(.scons (.int .i64) Kq8), (.int .i64), false, fun K x => wcS K x.1 x.2.1 x.2.2.1⟩
def wcS.hint : Dp.Hint := { n := 34, conds := [(8, [(.normal, { regs := [(0, (.int .i64)), (1, (.int .i64)), (2, (.int .i64))] })])] }
noncomputable def wcS.env : Dp.Env := ⟨ti, gl, [], [], [(252, Tryz.f252, wcS.hint)], [], 0, 40⟩
theorem wcS.body_eq (K : Nat) (x : wcS.spec.args.den) : body (wcS.env.at K) 8 252 wcS.spec x = wcS K x.1 x.2.1 x.2.2.1 := by kernel_rfl
theorem wcS.contract : Contract Tryz.prog gl 252 wcS.spec :=
  contract_of (E := wcS.env) (kn rfl (FnsOK_of ⟨⟨Tryz.func252, Tryz.call252⟩, trivial⟩)) (SpecsOK_of trivial) Tryz.call252 rfl rfl fun K x r h => by
    rw [wcS.body_eq]; exact h
def wcC.spec : Dp.Spec := ⟨Kq4, (.tup (.scons (.int .i64) (.scons (.int .i64) (.scons (.int .i64) Kq12)))), false, fun K x => wcC K x.1⟩
def wcC.hint : Dp.Hint := { n := 70, conds := [(62, [(.normal, { regs := [(8, (.int .i64)), (9, (.int .i64)), (10, (.int .i64))] })])], regions := [(1, [(.normal, { regs := [(0, (.int .i64)), (16, .bool)] })])] }
noncomputable def wcC.env : Dp.Env := ⟨ti, gl, [], [], [(253, Tryz.f253, wcC.hint)], [], 0, 40⟩
theorem wcC.body_eq (K : Nat) (x : wcC.spec.args.den) : body (wcC.env.at K) 8 253 wcC.spec x = wcC K x.1 := by kernel_rfl
theorem wcC.contract : Contract Tryz.prog gl 253 wcC.spec :=
  contract_of (E := wcC.env) (kn rfl (FnsOK_of ⟨⟨Tryz.func253, Tryz.call253⟩, trivial⟩)) (SpecsOK_of trivial) Tryz.call253 rfl rfl fun K x r h => by
    rw [wcC.body_eq]; exact h
def wc1.spec : Dp.Spec := ⟨(.scons (.int .i64) Kq8), (.tup (.scons (.int .i64) Kq12)), false, fun K x => wc1 K x.1 x.2.1 x.2.2.1⟩
def wc1.hint : Dp.Hint := { n := 64, regions := [(1, [(.normal, { regs := [(0, (.int .i64)), (1, (.int .i64)), (2, (.int .i64)), (34, .bool)] })]), (5, [(.normal, { regs := [(8, (.int .i64)), (62, .bool)] })])] }
noncomputable def wc1.env : Dp.Env := ⟨ti, gl, [], [], [(206, Tryz.f206, wc1.hint)], [(252, wcS.spec), (253, wcC.spec)], 0, 40⟩
theorem wc1.body_eq (K : Nat) (x : wc1.spec.args.den) : body (wc1.env.at K) 8 206 wc1.spec x = wc1 K x.1 x.2.1 x.2.2.1 := by kernel_rfl
theorem wc1.contract : Contract Tryz.prog gl 206 wc1.spec :=
  contract_of (E := wc1.env) (kn rfl (FnsOK_of ⟨⟨Tryz.func206, Tryz.call206⟩, trivial⟩)) (SpecsOK_of ⟨wcS.contract, wcC.contract, trivial⟩) Tryz.call206 rfl rfl fun K x r h => by
    rw [wc1.body_eq]; exact h
def wcz.spec : Dp.Spec := ⟨(.scons .str (.scons (.int .i64) (.scons (.int .i64) (.scons (.int .i64) Kq8)))), (.int .i64), false, fun K x => wcz K x.1 x.2.1 x.2.2.1 x.2.2.2.1 x.2.2.2.2.1 x.2.2.2.2.2.1⟩
def wcz.hint : Dp.Hint := { n := 97, conds := [(31, [(.normal, { regs := [(1, (.int .i64)), (2, (.int .i64)), (5, (.int .i64)), (13, (.fn 203 (.scons (.ref .str) .snil))), (14, (.int .i64))] })])], regions := [(3, [(.normal, { regs := [(1, (.int .i64)), (2, (.int .i64)), (5, (.int .i64)), (13, (.fn 203 (.scons (.ref .str) .snil))), (14, (.int .i64)), (31, .bool)] })]), (7, [(.normal, { regs := [(15, (.int .i64)), (17, (.int .i64)), (18, (.int .i64)), (19, (.int .i64)), (86, .bool)] })])], imm := [6] }
noncomputable def wcz.env : Dp.Env := ⟨ti, gl, [], [], [(157, Tryz.f157, wcz.hint)], [(203, wbn.spec), (204, wcr.spec), (205, wct.spec), (207, w8_.spec), (206, wc1.spec)], 0, 40⟩
theorem wcz.body_eq (K : Nat) (x : wcz.spec.args.den) : body (wcz.env.at K) 8 157 wcz.spec x = wcz K x.1 x.2.1 x.2.2.1 x.2.2.2.1 x.2.2.2.2.1 x.2.2.2.2.2.1 := by kernel_rfl
theorem wcz.contract : Contract Tryz.prog gl 157 wcz.spec :=
  contract_of (E := wcz.env) (kn rfl (FnsOK_of ⟨⟨Tryz.func157, Tryz.call157⟩, trivial⟩)) (SpecsOK_of ⟨wbn.contract, wcr.contract, wct.contract, w8_.contract, wc1.contract, trivial⟩) Tryz.call157 rfl rfl fun K x r h => by
    rw [wcz.body_eq]; exact h
def wbp.spec : Dp.Spec := ⟨Kq4, .str, false, fun K x => wbp K x.1⟩
def wbp.hint : Dp.Hint := { n := 5 }
noncomputable def wbp.env : Dp.Env := ⟨ti, gl, [], [], [(210, Tryz.f210, wbp.hint)], [(256, itoa.spec)], 0, 40⟩
theorem wbp.body_eq (K : Nat) (x : wbp.spec.args.den) : body (wbp.env.at K) 8 210 wbp.spec x = wbp K x.1 := by kernel_rfl
theorem wbp.contract : Contract Tryz.prog gl 210 wbp.spec :=
  contract_of (E := wbp.env) (kn rfl (FnsOK_of ⟨⟨Tryz.func210, Tryz.call210⟩, trivial⟩)) (SpecsOK_of ⟨itoa.contract, trivial⟩) Tryz.call210 rfl rfl fun K x r h => by
    rw [wbp.body_eq]; exact h
def wci.spec : Dp.Spec := ⟨Kq8, .str, false, fun K x => wci K x.1 x.2.1⟩
def wci.hint : Dp.Hint := { n := 28, regions := [(2, [(.normal, { regs := [(1, (.int .i64)), (5, .str), (19, .bool)] })])] }
noncomputable def wci.env : Dp.Env := ⟨ti, gl, [], [], [(209, Tryz.f209, wci.hint)], [(210, wbp.spec), (255, repeatS.spec)], 0, 40⟩
theorem wci.body_eq (K : Nat) (x : wci.spec.args.den) : body (wci.env.at K) 8 209 wci.spec x = wci K x.1 x.2.1 := by kernel_rfl
theorem wci.contract : Contract Tryz.prog gl 209 wci.spec :=
  contract_of (E := wci.env) (kn rfl (FnsOK_of ⟨⟨Tryz.func209, Tryz.call209⟩, trivial⟩)) (SpecsOK_of ⟨wbp.contract, repeatS.contract, trivial⟩) Tryz.call209 rfl rfl fun K x r h => by
    rw [wci.body_eq]; exact h
def wcw.spec : Dp.Spec := ⟨Kq4, (.int .i64), false, fun K x => wcw K x.1⟩
def wcw.hint : Dp.Hint := { n := 9 }
noncomputable def wcw.env : Dp.Env := ⟨ti, gl, [], [], [(254, Tryz.f254, wcw.hint)], [], 0, 40⟩
theorem wcw.body_eq (K : Nat) (x : wcw.spec.args.den) : body (wcw.env.at K) 8 254 wcw.spec x = wcw K x.1 := by kernel_rfl
theorem wcw.contract : Contract Tryz.prog gl 254 wcw.spec :=
  contract_of (E := wcw.env) (kn rfl (FnsOK_of ⟨⟨Tryz.func254, Tryz.call254⟩, trivial⟩)) (SpecsOK_of trivial) Tryz.call254 rfl rfl fun K x r h => by
    rw [wcw.body_eq]; exact h
def wc3.spec : Dp.Spec := ⟨Kq4, (.scons (.int .i64) (.scons (.int .i64) (.scons (.int .i64) (.scons (.int .i64) Kq3)))), false, fun K x => wc3 K x.1⟩
def wc3.hint : Dp.Hint := { n := 39 }
noncomputable def wc3.env : Dp.Env := ⟨ti, gl, [], [], [(208, Tryz.f208, wc3.hint)], [(253, wcC.spec), (209, wci.spec), (254, wcw.spec), (72, joinS.spec)], 0, 40⟩
theorem wc3.body_eq (K : Nat) (x : wc3.spec.args.den) : body (wc3.env.at K) 8 208 wc3.spec x = wc3 K x.1 := by kernel_rfl
theorem wc3.contract : Contract Tryz.prog gl 208 wc3.spec :=
  contract_of (E := wc3.env) (kn rfl (FnsOK_of ⟨⟨Tryz.func208, Tryz.call208⟩, trivial⟩)) (SpecsOK_of ⟨wcC.contract, wci.contract, wcw.contract, joinS.contract, trivial⟩) Tryz.call208 rfl rfl fun K x r h => by
    rw [wc3.body_eq]; exact h
def wcq.spec : Dp.Spec := ⟨Kq4, .str, false, fun K x => wcq K x.1⟩
def wcq.hint : Dp.Hint := { n := 33, regions := [(1, [(.normal, { regs := [(0, (.int .i64)), (9, .bool)] })])] }
noncomputable def wcq.env : Dp.Env := ⟨ti, gl, [], [], [(158, Tryz.f158, wcq.hint)], [(210, wbp.spec), (209, wci.spec), (208, wc3.spec), (72, joinS.spec)], 0, 40⟩
theorem wcq.body_eq (K : Nat) (x : wcq.spec.args.den) : body (wcq.env.at K) 8 158 wcq.spec x = wcq K x.1 := by kernel_rfl
theorem wcq.contract : Contract Tryz.prog gl 158 wcq.spec :=
  contract_of (E := wcq.env) (kn rfl (FnsOK_of ⟨⟨Tryz.func158, Tryz.call158⟩, trivial⟩)) (SpecsOK_of ⟨wbp.contract, wci.contract, wc3.contract, joinS.contract, trivial⟩) Tryz.call158 rfl rfl fun K x r h => by
    rw [wcq.body_eq]; exact h
def wcZ.spec : Dp.Spec := ⟨Kq4, .str, false, fun K x => wcZ K x.1⟩
def wcZ.hint : Dp.Hint := { n := 37, regions := [(1, [(.normal, { regs := [(0, (.int .i64)), (10, .bool)] })])] }
noncomputable def wcZ.env : Dp.Env := ⟨ti, gl, [], [], [(159, Tryz.f159, wcZ.hint)], [(209, wci.spec), (208, wc3.spec), (72, joinS.spec)], 0, 40⟩
theorem wcZ.body_eq (K : Nat) (x : wcZ.spec.args.den) : body (wcZ.env.at K) 8 159 wcZ.spec x = wcZ K x.1 := by kernel_rfl
theorem wcZ.contract : Contract Tryz.prog gl 159 wcZ.spec :=
  contract_of (E := wcZ.env) (kn rfl (FnsOK_of ⟨⟨Tryz.func159, Tryz.call159⟩, trivial⟩)) (SpecsOK_of ⟨wci.contract, wc3.contract, joinS.contract, trivial⟩) Tryz.call159 rfl rfl fun K x r h => by
    rw [wcZ.body_eq]; exact h
def wcx.spec : Dp.Spec := ⟨Kq4, .str, false, fun K x => wcx K x.1⟩
def wcx.hint : Dp.Hint := { n := 39, conds := [(18, [(.normal, { regs := [(3, (.loc 0 false [])), (4, .str)], heap := [(.scons (.int .i64) (.scons (.int .i64) (.scons (.int .i64) (.scons (.int .i64) Kq3))))] })])], regions := [(1, [(.normal, { regs := [(0, (.int .i64)), (10, .bool)] })])] }
noncomputable def wcx.env : Dp.Env := ⟨ti, gl, [], [], [(160, Tryz.f160, wcx.hint)], [(210, wbp.spec), (208, wc3.spec), (72, joinS.spec)], 0, 40⟩
theorem wcx.body_eq (K : Nat) (x : wcx.spec.args.den) : body (wcx.env.at K) 8 160 wcx.spec x = wcx K x.1 := by kernel_rfl
theorem wcx.contract : Contract Tryz.prog gl 160 wcx.spec :=
  contract_of (E := wcx.env) (kn rfl (FnsOK_of ⟨⟨Tryz.func160, Tryz.call160⟩, trivial⟩)) (SpecsOK_of ⟨wbp.contract, wc3.contract, joinS.contract, trivial⟩) Tryz.call160 rfl rfl fun K x r h => by
    rw [wcx.body_eq]; exact h
def wcP.spec : Dp.Spec := ⟨Kq3, (.tup Kq8), false, fun K x => wcP K x.1⟩
def wcP.hint : Dp.Hint := { n := 52, regions := [(3, [(.normal, { regs := [(0, .str), (4, (.int .i64)), (5, (.int .i64)), (20, .bool)] })]), (6, [(.normal, { regs := [(0, .str), (6, (.int .i64)), (39, .bool)] })]), (9, [(.normal, { regs := [(7, (.int .i64)), (50, .bool)] })])] }
noncomputable def wcP.env : Dp.Env := ⟨ti, gl, [], [], [(113, Tryz.f113, wcP.hint)], [(156, w9_.spec), (157, wcz.spec), (158, wcq.spec), (159, wcZ.spec), (160, wcx.spec)], 0, 40⟩
theorem wcP.body_eq (K : Nat) (x : wcP.spec.args.den) : body (wcP.env.at K) 8 113 wcP.spec x = wcP K x.1 := by kernel_rfl
theorem wcP.contract : Contract Tryz.prog gl 113 wcP.spec :=
  contract_of (E := wcP.env) (kn rfl (FnsOK_of ⟨⟨Tryz.func113, Tryz.call113⟩, trivial⟩)) (SpecsOK_of ⟨w9_.contract, wcz.contract, wcq.contract, wcZ.contract, wcx.contract, trivial⟩) Tryz.call113 rfl rfl fun K x r h => by
    rw [wcP.body_eq]; exact h
def wcA.spec : Dp.Spec := ⟨(.scons (.list Kq5) Kq3), (.tup (.scons (.int .i64) Kq12)), false, fun K x => wcA K x.1 x.2.1⟩
def wcA.hint : Dp.Hint := { n := 25 }
noncomputable def wcA.env : Dp.Env := ⟨ti, gl, [], [], [(52, Tryz.f52, wcA.hint)], [(71, wQ_.spec), (113, wcP.spec)], 0, 40⟩
theorem wcA.body_eq (K : Nat) (x : wcA.spec.args.den) : body (wcA.env.at K) 8 52 wcA.spec x = wcA K x.1 x.2.1 := by kernel_rfl
theorem wcA.contract : Contract Tryz.prog gl 52 wcA.spec :=
  contract_of (E := wcA.env) (kn rfl (FnsOK_of ⟨⟨Tryz.func52, Tryz.call52⟩, trivial⟩)) (SpecsOK_of ⟨wQ_.contract, wcP.contract, trivial⟩) Tryz.call52 rfl rfl fun K x r h => by
    rw [wcA.body_eq]; exact h
def w7_.spec : Dp.Spec := ⟨(.scons Kq6 .snil), .bool, false, fun K x => w7_ K x.1⟩
def w7_.hint : Dp.Hint := { n := 20, imm := [1] }
noncomputable def w7_.env : Dp.Env := ⟨ti, gl, [], [], [(39, Tryz.f39, w7_.hint)], [(30, wcH.spec), (52, wcA.spec)], 0, 40⟩
theorem w7_.body_eq (K : Nat) (x : w7_.spec.args.den) : body (w7_.env.at K) 8 39 w7_.spec x = w7_ K x.1 := by kernel_rfl
theorem w7_.contract : Contract Tryz.prog gl 39 w7_.spec :=
  contract_of (E := w7_.env) (kn rfl (FnsOK_of ⟨⟨Tryz.func39, Tryz.call39⟩, trivial⟩)) (SpecsOK_of ⟨wcH.contract, wcA.contract, trivial⟩) Tryz.call39 rfl rfl fun K x r h => by
    rw [w7_.body_eq]; exact h
def wbU.spec : Dp.Spec := ⟨(.scons .str (.scons (.ref Kq2) .snil)), (.tup (.scons (.int .i64) Kq12)), false, fun K x => wbU K x.1 x.2.1⟩
def wbU.hint : Dp.Hint := { n := 12 }
noncomputable def wbU.env : Dp.Env := ⟨ti, gl, [], [], [(151, Tryz.f151, wbU.hint)], [(52, wcA.spec)], 0, 40⟩
theorem wbU.body_eq (K : Nat) (x : wbU.spec.args.den) : body (wbU.env.at K) 8 151 wbU.spec x = wbU K x.1 x.2.1 := by kernel_rfl
theorem wbU.contract : Contract Tryz.prog gl 151 wbU.spec :=
  contract_of (E := wbU.env) (kn rfl (FnsOK_of ⟨⟨Tryz.func151, Tryz.call151⟩, trivial⟩)) (SpecsOK_of ⟨wcA.contract, trivial⟩) Tryz.call151 rfl rfl fun K x r h => by
    rw [wbU.body_eq]; exact h
def wcN.spec : Dp.Spec := ⟨(.scons Kq2 .snil), (.int .i64), false, fun K x => wcN K x.1⟩
def wcN.hint : Dp.Hint := { n := 16, imm := [1] }
noncomputable def wcN.env : Dp.Env := ⟨ti, gl, [], [], [(109, Tryz.f109, wcN.hint)], [(52, wcA.spec)], 0, 40⟩
theorem wcN.body_eq (K : Nat) (x : wcN.spec.args.den) : body (wcN.env.at K) 8 109 wcN.spec x = wcN K x.1 := by kernel_rfl
theorem wcN.contract : Contract Tryz.prog gl 109 wcN.spec :=
  contract_of (E := wcN.env) (kn rfl (FnsOK_of ⟨⟨Tryz.func109, Tryz.call109⟩, trivial⟩)) (SpecsOK_of ⟨wcA.contract, trivial⟩) Tryz.call109 rfl rfl fun K x r h => by
    rw [wcN.body_eq]; exact h
def wu_.spec : Dp.Spec := ⟨(.scons (.list (.int .i64)) .snil), (.int .i64), false, fun K x => wu_ K x.1⟩
def wu_.hint : Dp.Hint := { n := 17, loops := [(3, { regs := [(3, (.int .i64)), (6, (.list (.int .i64))), (7, (.int .i64)), (8, (.int .i64))] }, [(.exit 0, { regs := [(3, (.int .i64))] })])] }
noncomputable def wu_.env : Dp.Env := ⟨ti, gl, [], [], [(106, Tryz.f106, wu_.hint)], [], 0, 40⟩
noncomputable def wu_.r0 (K : Nat) : Nat → (((Int) × ((List (Int)) × Jq6)) × (Unit)) → Option (Jq31) :=
  loopV [(.exit 0, { regs := [(3, (.int .i64))] })] { regs := [(3, (.int .i64)), (6, (.list (.int .i64))), (7, (.int .i64)), (8, (.int .i64))] } (interp (wu_.env.at K) wu_.hint (callF (wu_.env.at K) 7) (Code.sub [1, 1, 0, 1, 0, 0] (Tryz.f106.body.getD .skip)) _)
theorem wu_.s0 (K n : Nat) (x : (((Int) × ((List (Int)) × Jq6)) × (Unit))) : wu_.r0 K (n + 1) x = wu_.t0 K (wu_.r0 K n) x := by kernel_rfl
theorem wu_.e0 (K n : Nat) : wu_.r0 K n = wu_.l0 K n := eqR (l := wu_.l0 K) _ (wu_.s0 K) (fun _ _ => rfl) (fun _ => rfl) n
theorem wu_.body_eq (K : Nat) (x : wu_.spec.args.den) : body (wu_.env.at K) 8 106 wu_.spec x = wu_.tr (wu_.r0 K) K x.1 := by kernel_rfl
theorem wu_.contract : Contract Tryz.prog gl 106 wu_.spec :=
  contract_of (E := wu_.env) (kn rfl (FnsOK_of ⟨⟨Tryz.func106, Tryz.call106⟩, trivial⟩)) (SpecsOK_of trivial) Tryz.call106 rfl rfl fun K x r h => by
    rw [wu_.body_eq, show wu_.r0 K = wu_.l0 K from funext (wu_.e0 K)]; exact h
def wcT.spec : Dp.Spec := ⟨Kq4, (.int .i64), false, fun K x => wcT K x.1⟩
def wcT.hint : Dp.Hint := { n := 7 }
noncomputable def wcT.env : Dp.Env := ⟨ti, gl, [], [], [(154, Tryz.f154, wcT.hint)], [(106, wu_.spec)], 0, 40⟩
theorem wcT.body_eq (K : Nat) (x : wcT.spec.args.den) : body (wcT.env.at K) 8 154 wcT.spec x = wcT K x.1 := by kernel_rfl
theorem wcT.contract : Contract Tryz.prog gl 154 wcT.spec :=
  contract_of (E := wcT.env) (kn rfl (FnsOK_of ⟨⟨Tryz.func154, Tryz.call154⟩, trivial⟩)) (SpecsOK_of ⟨wu_.contract, trivial⟩) Tryz.call154 rfl rfl fun K x r h => by
    rw [wcT.body_eq]; exact h
def wcD.spec : Dp.Spec := ⟨Kq8, (.int .i64), false, fun K x => wcD K x.1 x.2.1⟩
def wcD.hint : Dp.Hint := { n := 13 }
noncomputable def wcD.env : Dp.Env := ⟨ti, gl, [], [], [(108, Tryz.f108, wcD.hint)], [(106, wu_.spec), (154, wcT.spec)], 0, 40⟩
theorem wcD.body_eq (K : Nat) (x : wcD.spec.args.den) : body (wcD.env.at K) 8 108 wcD.spec x = wcD K x.1 x.2.1 := by kernel_rfl
theorem wcD.contract : Contract Tryz.prog gl 108 wcD.spec :=
  contract_of (E := wcD.env) (kn rfl (FnsOK_of ⟨⟨Tryz.func108, Tryz.call108⟩, trivial⟩)) (SpecsOK_of ⟨wu_.contract, wcT.contract, trivial⟩) Tryz.call108 rfl rfl fun K x r h => by
    rw [wcD.body_eq]; exact h
def wb7.spec : Dp.Spec := ⟨(.scons Kq2 .snil), (.int .i64), false, fun K x => wb7 K x.1⟩
def wb7.hint : Dp.Hint := { n := 67, regions := [(14, [(.normal, { regs := [(1, (.ref Kq2)), (9, (.int .i64)), (60, .bool)], heap := [Kq0] })])], imm := [1] }
noncomputable def wb7.env : Dp.Env := ⟨ti, gl, [], [], [(104, Tryz.f104, wb7.hint)], [(46, wb_.spec), (29, wcv.spec), (85, wcJ.spec), (151, wbU.spec), (109, wcN.spec), (108, wcD.spec)], 0, 40⟩
theorem wb7.body_eq (K : Nat) (x : wb7.spec.args.den) : body (wb7.env.at K) 8 104 wb7.spec x = wb7 K x.1 := by kernel_rfl
theorem wb7.contract : Contract Tryz.prog gl 104 wb7.spec :=
  contract_of (E := wb7.env) (kn rfl (FnsOK_of ⟨⟨Tryz.func104, Tryz.call104⟩, trivial⟩)) (SpecsOK_of ⟨wb_.contract, wcv.contract, wcJ.contract, wbU.contract, wcN.contract, wcD.contract, trivial⟩) Tryz.call104 rfl rfl fun K x r h => by
    rw [wb7.body_eq]; exact h
def wU_.spec : Dp.Spec := ⟨(.scons Kq6 .snil), (.int .i64), false, fun K x => wU_ K x.1⟩
def wU_.hint : Dp.Hint := { n := 44, conds := [(36, [(.normal, { regs := [(3, (.int .i64)), (14, (.list .str)), (15, (.int .i64)), (16, (.int .i64)), (25, (.list .str)), (26, (.int .i64)), (27, (.int .i64))] })])], loops := [(3, { regs := [(3, (.int .i64)), (14, (.list .str)), (15, (.int .i64)), (16, (.int .i64))] }, [(.exit 0, { regs := [(3, (.int .i64))] })]), (7, { regs := [(3, (.int .i64)), (14, (.list .str)), (15, (.int .i64)), (16, (.int .i64)), (25, (.list .str)), (26, (.int .i64)), (27, (.int .i64))] }, [(.exit 2, { regs := [(3, (.int .i64)), (14, (.list .str)), (15, (.int .i64)), (16, (.int .i64))] })])], imm := [1] }
noncomputable def wU_.env : Dp.Env := ⟨ti, gl, [], [], [(107, Tryz.f107, wU_.hint)], [(71, wQ_.spec), (130, wS_.spec), (153, wD_.spec), (106, wu_.spec)], 0, 40⟩
noncomputable def wU_.r0 (K : Nat) : Nat → (((Int) × Jq20) × (Unit)) → Option ((((Int) × Jq11) × (Unit))) :=
  loopV [(.exit 2, { regs := [(3, (.int .i64)), (14, (.list .str)), (15, (.int .i64)), (16, (.int .i64))] })] { regs := [(3, (.int .i64)), (14, (.list .str)), (15, (.int .i64)), (16, (.int .i64)), (25, (.list .str)), (26, (.int .i64)), (27, (.int .i64))] } (interp (wU_.env.at K) wU_.hint (callF (wU_.env.at K) 7) (Code.sub [1, 1, 0, 1, 0, 0, 1, 1, 0, 0, 1, 1, 1, 0, 0] (Tryz.f107.body.getD .skip)) _)
theorem wU_.s0 (K n : Nat) (x : (((Int) × Jq20) × (Unit))) : wU_.r0 K (n + 1) x = wU_.t0 K (wU_.r0 K n) x := by kernel_rfl
theorem wU_.e0 (K n : Nat) : wU_.r0 K n = wU_.l0 K n := eqR (l := wU_.l0 K) _ (wU_.s0 K) (fun _ _ => rfl) (fun _ => rfl) n
noncomputable def wU_.r1 (K : Nat) : Nat → (((Int) × Jq11) × (Unit)) → Option (Jq31) :=
  loopV [(.exit 0, { regs := [(3, (.int .i64))] })] { regs := [(3, (.int .i64)), (14, (.list .str)), (15, (.int .i64)), (16, (.int .i64))] } (interp (wU_.env.at K) wU_.hint (callF (wU_.env.at K) 7) (Code.sub [1, 1, 0, 1, 0, 0] (Tryz.f107.body.getD .skip)) _)
theorem wU_.s1 (K n : Nat) (x : (((Int) × Jq11) × (Unit))) : wU_.r1 K (n + 1) x = wU_.t1 (wU_.r0 K) K (wU_.r1 K n) x := by kernel_rfl
theorem wU_.e1 (K n : Nat) : wU_.r1 K n = wU_.l1 K n := by
  induction n with
  | zero => funext x; rfl
  | succ n ih => funext x; rw [wU_.s1, ih, show wU_.r0 K = wU_.l0 K from funext (wU_.e0 K)]; rfl
theorem wU_.body_eq (K : Nat) (x : wU_.spec.args.den) : body (wU_.env.at K) 8 107 wU_.spec x = wU_.tr (wU_.r1 K) K x.1 := by kernel_rfl
theorem wU_.contract : Contract Tryz.prog gl 107 wU_.spec :=
  contract_of (E := wU_.env) (kn rfl (FnsOK_of ⟨⟨Tryz.func107, Tryz.call107⟩, trivial⟩)) (SpecsOK_of ⟨wQ_.contract, wS_.contract, wD_.contract, wu_.contract, trivial⟩) Tryz.call107 rfl rfl fun K x r h => by
    rw [wU_.body_eq, show wU_.r1 K = wU_.l1 K from funext (wU_.e1 K)]; exact h
def wb4.spec : Dp.Spec := ⟨Kq4, (.int .i64), false, fun K x => wb4 K x.1⟩
def wb4.hint : Dp.Hint := { n := 7 }
noncomputable def wb4.env : Dp.Env := ⟨ti, gl, [], [], [(152, Tryz.f152, wb4.hint)], [(199, wI_.spec)], 0, 40⟩
theorem wb4.body_eq (K : Nat) (x : wb4.spec.args.den) : body (wb4.env.at K) 8 152 wb4.spec x = wb4 K x.1 := by kernel_rfl
theorem wb4.contract : Contract Tryz.prog gl 152 wb4.spec :=
  contract_of (E := wb4.env) (kn rfl (FnsOK_of ⟨⟨Tryz.func152, Tryz.call152⟩, trivial⟩)) (SpecsOK_of ⟨wI_.contract, trivial⟩) Tryz.call152 rfl rfl fun K x r h => by
    rw [wb4.body_eq]; exact h
def wcL.spec : Dp.Spec := ⟨Kq8, (.int .i64), false, fun K x => wcL K x.1 x.2.1⟩
def wcL.hint : Dp.Hint := { n := 11 }
noncomputable def wcL.env : Dp.Env := ⟨ti, gl, [], [], [(105, Tryz.f105, wcL.hint)], [(152, wb4.spec)], 0, 40⟩
theorem wcL.body_eq (K : Nat) (x : wcL.spec.args.den) : body (wcL.env.at K) 8 105 wcL.spec x = wcL K x.1 x.2.1 := by kernel_rfl
theorem wcL.contract : Contract Tryz.prog gl 105 wcL.spec :=
  contract_of (E := wcL.env) (kn rfl (FnsOK_of ⟨⟨Tryz.func105, Tryz.call105⟩, trivial⟩)) (SpecsOK_of ⟨wb4.contract, trivial⟩) Tryz.call105 rfl rfl fun K x r h => by
    rw [wcL.body_eq]; exact h
def wcO.spec : Dp.Spec := ⟨(.scons Kq2 Kq4), (.int .i64), false, fun K x => wcO K x.1 x.2.1⟩
def wcO.hint : Dp.Hint := { n := 20, imm := [2] }
noncomputable def wcO.env : Dp.Env := ⟨ti, gl, [], [], [(48, Tryz.f48, wcO.hint)], [(109, wcN.spec), (106, wu_.spec), (108, wcD.spec), (107, wU_.spec), (105, wcL.spec)], 0, 40⟩
theorem wcO.body_eq (K : Nat) (x : wcO.spec.args.den) : body (wcO.env.at K) 8 48 wcO.spec x = wcO K x.1 x.2.1 := by kernel_rfl
theorem wcO.contract : Contract Tryz.prog gl 48 wcO.spec :=
  contract_of (E := wcO.env) (kn rfl (FnsOK_of ⟨⟨Tryz.func48, Tryz.call48⟩, trivial⟩)) (SpecsOK_of ⟨wcN.contract, wu_.contract, wcD.contract, wU_.contract, wcL.contract, trivial⟩) Tryz.call48 rfl rfl fun K x r h => by
    rw [wcO.body_eq]; exact h
def wcl.spec : Dp.Spec := ⟨(.scons Kq2 Kq4), .bool, false, fun K x => wcl K x.1 x.2.1⟩
def wcl.hint : Dp.Hint := { n := 11, imm := [2] }
noncomputable def wcl.env : Dp.Env := ⟨ti, gl, [], [], [(47, Tryz.f47, wcl.hint)], [(104, wb7.spec), (48, wcO.spec)], 0, 40⟩
theorem wcl.body_eq (K : Nat) (x : wcl.spec.args.den) : body (wcl.env.at K) 8 47 wcl.spec x = wcl K x.1 x.2.1 := by kernel_rfl
theorem wcl.contract : Contract Tryz.prog gl 47 wcl.spec :=
  contract_of (E := wcl.env) (kn rfl (FnsOK_of ⟨⟨Tryz.func47, Tryz.call47⟩, trivial⟩)) (SpecsOK_of ⟨wb7.contract, wcO.contract, trivial⟩) Tryz.call47 rfl rfl fun K x r h => by
    rw [wcl.body_eq]; exact h
def wbE.spec : Dp.Spec := ⟨(.scons (.ref Kq6) (.scons (.ref (.int .i64)) .snil)), .bool, false, fun K x => wbE K x.1 x.2.1⟩
def wbE.hint : Dp.Hint := { n := 12 }
noncomputable def wbE.env : Dp.Env := ⟨ti, gl, [], [], [(86, Tryz.f86, wbE.hint)], [(39, w7_.spec), (47, wcl.spec)], 0, 40⟩
theorem wbE.body_eq (K : Nat) (x : wbE.spec.args.den) : body (wbE.env.at K) 8 86 wbE.spec x = wbE K x.1 x.2.1 := by kernel_rfl
theorem wbE.contract : Contract Tryz.prog gl 86 wbE.spec :=
  contract_of (E := wbE.env) (kn rfl (FnsOK_of ⟨⟨Tryz.func86, Tryz.call86⟩, trivial⟩)) (SpecsOK_of ⟨w7_.contract, wcl.contract, trivial⟩) Tryz.call86 rfl rfl fun K x r h => by
    rw [wbE.body_eq]; exact h
def wa_.spec : Dp.Spec := ⟨(.scons (.hl (.scons (.fn 77 (.scons (.ref Kq11) .snil)) (.scons (.fn 78 (.scons (.ref Kq0) (.scons (.ref Kq0) .snil))) (.scons (.fn 79 (.scons (.ref Kq11) (.scons (.ref Kq0) .snil))) (.scons (.fn 81 (.scons (.ref Kq6) .snil)) (.scons (.fn 82 (.scons (.ref Kq6) .snil)) (.scons (.fn 84 (.scons (.ref Kq0) (.scons (.ref Kq6) .snil))) (.scons (.fn 86 (.scons (.ref Kq6) (.scons (.ref (.int .i64)) .snil))) .snil)))))))) .snil), .bool, false, fun K x => wa_ K x.1⟩
def wa_.hint : Dp.Hint := { n := 15 }
noncomputable def wa_.env : Dp.Env := ⟨ti, gl, [], [], [(76, Tryz.f76, wa_.hint)], [(77, wbF.spec), (78, wbx.spec), (79, wbw.spec), (81, wbH.spec), (82, wbG.spec), (84, wbz.spec), (86, wbE.spec)], 0, 40⟩
theorem wa_.body_eq (K : Nat) (x : wa_.spec.args.den) : body (wa_.env.at K) 8 76 wa_.spec x = wa_ K x.1 := by kernel_rfl
theorem wa_.contract : Contract Tryz.prog gl 76 wa_.spec :=
  contract_of (E := wa_.env) (kn rfl (FnsOK_of ⟨⟨Tryz.func76, Tryz.call76⟩, trivial⟩)) (SpecsOK_of ⟨wbF.contract, wbx.contract, wbw.contract, wbH.contract, wbG.contract, wbz.contract, wbE.contract, trivial⟩) Tryz.call76 rfl rfl fun K x r h => by
    rw [wa_.body_eq]; exact h
def w4_.spec : Dp.Spec := ⟨(.scons Kq11 (.scons Kq6 Kq4)), .bool, false, fun K x => w4_ K x.1 x.2.1 x.2.2.1⟩
def w4_.hint : Dp.Hint := { n := 24, imm := [3, 4, 5] }
noncomputable def w4_.env : Dp.Env := ⟨ti, gl, [], [], [(35, Tryz.f35, w4_.hint)], [(46, wb_.spec), (45, wbX.spec), (76, wa_.spec)], 0, 40⟩
theorem w4_.body_eq (K : Nat) (x : w4_.spec.args.den) : body (w4_.env.at K) 8 35 w4_.spec x = w4_ K x.1 x.2.1 x.2.2.1 := by kernel_rfl
theorem w4_.contract : Contract Tryz.prog gl 35 w4_.spec :=
  contract_of (E := w4_.env) (kn rfl (FnsOK_of ⟨⟨Tryz.func35, Tryz.call35⟩, trivial⟩)) (SpecsOK_of ⟨wb_.contract, wbX.contract, wa_.contract, trivial⟩) Tryz.call35 rfl rfl fun K x r h => by
    rw [w4_.body_eq]; exact h
def wcf.spec : Dp.Spec := ⟨(.scons (.ref Kq2) (.scons (.ref (.int .i64)) .snil)), .bool, false, fun K x => wcf K x.1 x.2.1⟩
def wcf.hint : Dp.Hint := { n := 6 }
noncomputable def wcf.env : Dp.Env := ⟨ti, gl, [], [], [(95, Tryz.f95, wcf.hint)], [(47, wcl.spec)], 0, 40⟩
theorem wcf.body_eq (K : Nat) (x : wcf.spec.args.den) : body (wcf.env.at K) 8 95 wcf.spec x = wcf K x.1 x.2.1 := by kernel_rfl
theorem wcf.contract : Contract Tryz.prog gl 95 wcf.spec :=
  contract_of (E := wcf.env) (kn rfl (FnsOK_of ⟨⟨Tryz.func95, Tryz.call95⟩, trivial⟩)) (SpecsOK_of ⟨wcl.contract, trivial⟩) Tryz.call95 rfl rfl fun K x r h => by
    rw [wcf.body_eq]; exact h
def wch.spec : Dp.Spec := ⟨(.scons (.ref Kq0) (.scons (.ref Kq2) .snil)), .bool, false, fun K x => wch K x.1 x.2.1⟩
def wch.hint : Dp.Hint := { n := 14 }
noncomputable def wch.env : Dp.Env := ⟨ti, gl, [], [], [(96, Tryz.f96, wch.hint)], [(46, wb_.spec)], 0, 40⟩
theorem wch.body_eq (K : Nat) (x : wch.spec.args.den) : body (wch.env.at K) 8 96 wch.spec x = wch K x.1 x.2.1 := by kernel_rfl
theorem wch.contract : Contract Tryz.prog gl 96 wch.spec :=
  contract_of (E := wch.env) (kn rfl (FnsOK_of ⟨⟨Tryz.func96, Tryz.call96⟩, trivial⟩)) (SpecsOK_of ⟨wb_.contract, trivial⟩) Tryz.call96 rfl rfl fun K x r h => by
    rw [wch.body_eq]; exact h
def wb9.spec : Dp.Spec := ⟨(.scons (.ref Kq0) (.scons (.ref Kq2) (.scons (.ref (.int .i64)) .snil))), .bool, false, fun K x => wb9 K x.1 x.2.1 x.2.2.1⟩
def wb9.hint : Dp.Hint := { n := 15 }
noncomputable def wb9.env : Dp.Env := ⟨ti, gl, [], [], [(97, Tryz.f97, wb9.hint)], [(48, wcO.spec)], 0, 40⟩
theorem wb9.body_eq (K : Nat) (x : wb9.spec.args.den) : body (wb9.env.at K) 8 97 wb9.spec x = wb9 K x.1 x.2.1 x.2.2.1 := by kernel_rfl
theorem wb9.contract : Contract Tryz.prog gl 97 wb9.spec :=
  contract_of (E := wb9.env) (kn rfl (FnsOK_of ⟨⟨Tryz.func97, Tryz.call97⟩, trivial⟩)) (SpecsOK_of ⟨wcO.contract, trivial⟩) Tryz.call97 rfl rfl fun K x r h => by
    rw [wb9.body_eq]; exact h
def wcI.spec : Dp.Spec := ⟨Kq8, (.int .i64), false, fun K x => wcI K x.1 x.2.1⟩
def wcI.hint : Dp.Hint := { n := 11 }
noncomputable def wcI.env : Dp.Env := ⟨ti, gl, [], [], [(110, Tryz.f110, wcI.hint)], [(152, wb4.spec)], 0, 40⟩
theorem wcI.body_eq (K : Nat) (x : wcI.spec.args.den) : body (wcI.env.at K) 8 110 wcI.spec x = wcI K x.1 x.2.1 := by kernel_rfl
theorem wcI.contract : Contract Tryz.prog gl 110 wcI.spec :=
  contract_of (E := wcI.env) (kn rfl (FnsOK_of ⟨⟨Tryz.func110, Tryz.call110⟩, trivial⟩)) (SpecsOK_of ⟨wb4.contract, trivial⟩) Tryz.call110 rfl rfl fun K x r h => by
    rw [wcI.body_eq]; exact h
def wcX.spec : Dp.Spec := ⟨(.scons Kq2 Kq4), (.int .i64), false, fun K x => wcX K x.1 x.2.1⟩
def wcX.hint : Dp.Hint := { n := 11, imm := [2] }
noncomputable def wcX.env : Dp.Env := ⟨ti, gl, [], [], [(49, Tryz.f49, wcX.hint)], [(104, wb7.spec), (48, wcO.spec), (110, wcI.spec)], 0, 40⟩
theorem wcX.body_eq (K : Nat) (x : wcX.spec.args.den) : body (wcX.env.at K) 8 49 wcX.spec x = wcX K x.1 x.2.1 := by kernel_rfl
theorem wcX.contract : Contract Tryz.prog gl 49 wcX.spec :=
  contract_of (E := wcX.env) (kn rfl (FnsOK_of ⟨⟨Tryz.func49, Tryz.call49⟩, trivial⟩)) (SpecsOK_of ⟨wb7.contract, wcO.contract, wcI.contract, trivial⟩) Tryz.call49 rfl rfl fun K x r h => by
    rw [wcX.body_eq]; exact h
def wcc.spec : Dp.Spec := ⟨(.scons (.ref Kq0) (.scons (.ref Kq2) (.scons (.ref (.int .i64)) .snil))), .bool, false, fun K x => wcc K x.1 x.2.1 x.2.2.1⟩
def wcc.hint : Dp.Hint := { n := 15 }
noncomputable def wcc.env : Dp.Env := ⟨ti, gl, [], [], [(98, Tryz.f98, wcc.hint)], [(49, wcX.spec)], 0, 40⟩
theorem wcc.body_eq (K : Nat) (x : wcc.spec.args.den) : body (wcc.env.at K) 8 98 wcc.spec x = wcc K x.1 x.2.1 x.2.2.1 := by kernel_rfl
theorem wcc.contract : Contract Tryz.prog gl 98 wcc.spec :=
  contract_of (E := wcc.env) (kn rfl (FnsOK_of ⟨⟨Tryz.func98, Tryz.call98⟩, trivial⟩)) (SpecsOK_of ⟨wcX.contract, trivial⟩) Tryz.call98 rfl rfl fun K x r h => by
    rw [wcc.body_eq]; exact h
def wh_.spec : Dp.Spec := ⟨(.scons (.hl (.scons (.fn 95 (.scons (.ref Kq2) (.scons (.ref (.int .i64)) .snil))) (.scons (.fn 96 (.scons (.ref Kq0) (.scons (.ref Kq2) .snil))) (.scons (.fn 97 (.scons (.ref Kq0) (.scons (.ref Kq2) (.scons (.ref (.int .i64)) .snil)))) (.scons (.fn 98 (.scons (.ref Kq0) (.scons (.ref Kq2) (.scons (.ref (.int .i64)) .snil)))) .snil))))) .snil), .bool, false, fun K x => wh_ K x.1⟩
def wh_.hint : Dp.Hint := { n := 15 }
noncomputable def wh_.env : Dp.Env := ⟨ti, gl, [], [], [(76, Tryz.f76, wh_.hint)], [(95, wcf.spec), (96, wch.spec), (97, wb9.spec), (98, wcc.spec)], 0, 40⟩
theorem wh_.body_eq (K : Nat) (x : wh_.spec.args.den) : body (wh_.env.at K) 8 76 wh_.spec x = wh_ K x.1 := by kernel_rfl
theorem wh_.contract : Contract Tryz.prog gl 76 wh_.spec :=
  contract_of (E := wh_.env) (kn rfl (FnsOK_of ⟨⟨Tryz.func76, Tryz.call76⟩, trivial⟩)) (SpecsOK_of ⟨wcf.contract, wch.contract, wb9.contract, wcc.contract, trivial⟩) Tryz.call76 rfl rfl fun K x r h => by
    rw [wh_.body_eq]; exact h
def wbP.spec : Dp.Spec := ⟨(.scons Kq11 (.scons Kq2 Kq4)), (.int .i64), false, fun K x => wbP K x.1 x.2.1 x.2.2.1⟩
def wbP.hint : Dp.Hint := { n := 19, imm := [3, 4, 5] }
noncomputable def wbP.env : Dp.Env := ⟨ti, gl, [], [], [(43, Tryz.f43, wbP.hint)], [(45, wbX.spec), (76, wh_.spec)], 0, 40⟩
theorem wbP.body_eq (K : Nat) (x : wbP.spec.args.den) : body (wbP.env.at K) 8 43 wbP.spec x = wbP K x.1 x.2.1 x.2.2.1 := by kernel_rfl
theorem wbP.contract : Contract Tryz.prog gl 43 wbP.spec :=
  contract_of (E := wbP.env) (kn rfl (FnsOK_of ⟨⟨Tryz.func43, Tryz.call43⟩, trivial⟩)) (SpecsOK_of ⟨wbX.contract, wh_.contract, trivial⟩) Tryz.call43 rfl rfl fun K x r h => by
    rw [wbP.body_eq]; exact h
def wc2.spec : Dp.Spec := ⟨Kq3, .bool, false, fun K x => wc2 K x.1⟩
def wc2.hint : Dp.Hint := { n := 9 }
noncomputable def wc2.env : Dp.Env := ⟨ti, gl, [], [], [(93, Tryz.f93, wc2.hint)], [], 0, 40⟩
theorem wc2.body_eq (K : Nat) (x : wc2.spec.args.den) : body (wc2.env.at K) 8 93 wc2.spec x = wc2 K x.1 := by kernel_rfl
theorem wc2.contract : Contract Tryz.prog gl 93 wc2.spec :=
  contract_of (E := wc2.env) (kn rfl (FnsOK_of ⟨⟨Tryz.func93, Tryz.call93⟩, trivial⟩)) (SpecsOK_of trivial) Tryz.call93 rfl rfl fun K x r h => by
    rw [wc2.body_eq]; exact h
def wbq.spec : Dp.Spec := ⟨(.scons Kq11 (.scons Kq6 .snil)), .bool, false, fun K x => wbq K x.1 x.2.1⟩
def wbq.hint : Dp.Hint := { n := 19, imm := [2, 3] }
noncomputable def wbq.env : Dp.Env := ⟨ti, gl, [], [], [(41, Tryz.f41, wbq.hint)], [(93, wc2.spec)], 0, 40⟩
theorem wbq.body_eq (K : Nat) (x : wbq.spec.args.den) : body (wbq.env.at K) 8 41 wbq.spec x = wbq K x.1 x.2.1 := by kernel_rfl
theorem wbq.contract : Contract Tryz.prog gl 41 wbq.spec :=
  contract_of (E := wbq.env) (kn rfl (FnsOK_of ⟨⟨Tryz.func41, Tryz.call41⟩, trivial⟩)) (SpecsOK_of ⟨wc2.contract, trivial⟩) Tryz.call41 rfl rfl fun K x r h => by
    rw [wbq.body_eq]; exact h
def w1_.spec : Dp.Spec := ⟨.snil, .bool, false, fun K x => w1_ K⟩
def w1_.hint : Dp.Hint := { n := 79 }
noncomputable def w1_.env : Dp.Env := ⟨ti, gl, [], [], [(33, Tryz.f33, w1_.hint)], [(30, wcH.spec), (37, wb3.spec), (39, w7_.spec), (35, w4_.spec), (43, wbP.spec), (41, wbq.spec)], 0, 40⟩
theorem w1_.body_eq (K : Nat) (x : w1_.spec.args.den) : body (w1_.env.at K) 8 33 w1_.spec x = w1_ K := by kernel_rfl
theorem w1_.contract : Contract Tryz.prog gl 33 w1_.spec :=
  contract_of (E := w1_.env) (kn rfl (FnsOK_of ⟨⟨Tryz.func33, Tryz.call33⟩, trivial⟩)) (SpecsOK_of ⟨wcH.contract, wb3.contract, w7_.contract, w4_.contract, wbP.contract, wbq.contract, trivial⟩) Tryz.call33 rfl rfl fun K x r h => by
    rw [w1_.body_eq]; exact h
def wA_.spec : Dp.Spec := ⟨Kq3, .str, false, fun K x => wA_ K x.1⟩
def wA_.hint : Dp.Hint := { n := 35, conds := [(24, [(.normal, { regs := [(3, (.slw 0)), (4, (.int .i64))], heap := [(.row (.int .u8))] })])], regions := [(5, [(.normal, { regs := [(3, (.slw 0)), (4, (.int .i64)), (24, .bool)], heap := [(.row (.int .u8))] })])], loops := [(3, { regs := [(3, (.slw 0)), (4, (.int .i64))], heap := [(.row (.int .u8))] }, [(.exit 0, { regs := [(3, (.slw 0))], heap := [(.row (.int .u8))] })])], own := [6] }
noncomputable def wA_.env : Dp.Env := ⟨ti, gl, [], [], [(141, Tryz.f141, wA_.hint)], [], 0, 40⟩
noncomputable def wA_.r0 (K : Nat) : Nat → (((Unit) × Jq2) × Jq33) → Option ((Jq14 × Jq33)) :=
  loopV [(.exit 0, { regs := [(3, (.slw 0))], heap := [(.row (.int .u8))] })] { regs := [(3, (.slw 0)), (4, (.int .i64))], heap := [(.row (.int .u8))] } (interp (wA_.env.at K) wA_.hint (callF (wA_.env.at K) 7) (Code.sub [1, 1, 0, 1, 0, 0] (Tryz.f141.body.getD .skip)) _)
theorem wA_.s0 (K n : Nat) (x : (((Unit) × Jq2) × Jq33)) : wA_.r0 K (n + 1) x = wA_.t0 K (wA_.r0 K n) x := by kernel_rfl
theorem wA_.e0 (K n : Nat) : wA_.r0 K n = wA_.l0 K n := eqR (l := wA_.l0 K) _ (wA_.s0 K) (fun _ _ => rfl) (fun _ => rfl) n
theorem wA_.body_eq (K : Nat) (x : wA_.spec.args.den) : body (wA_.env.at K) 8 141 wA_.spec x = wA_.tr (wA_.r0 K) K x.1 := by kernel_rfl
theorem wA_.contract : Contract Tryz.prog gl 141 wA_.spec :=
  contract_of (E := wA_.env) (kn rfl (FnsOK_of ⟨⟨Tryz.func141, Tryz.call141⟩, trivial⟩)) (SpecsOK_of trivial) Tryz.call141 rfl rfl fun K x r h => by
    rw [wA_.body_eq, show wA_.r0 K = wA_.l0 K from funext (wA_.e0 K)]; exact h
def wbZ.spec : Dp.Spec := ⟨Kq5, .bool, false, fun K x => wbZ K x.1 x.2.1⟩
def wbZ.hint : Dp.Hint := { n := 10 }
noncomputable def wbZ.env : Dp.Env := ⟨ti, gl, [], [], [(117, Tryz.f117, wbZ.hint)], [(141, wA_.spec)], 0, 40⟩
theorem wbZ.body_eq (K : Nat) (x : wbZ.spec.args.den) : body (wbZ.env.at K) 8 117 wbZ.spec x = wbZ K x.1 x.2.1 := by kernel_rfl
theorem wbZ.contract : Contract Tryz.prog gl 117 wbZ.spec :=
  contract_of (E := wbZ.env) (kn rfl (FnsOK_of ⟨⟨Tryz.func117, Tryz.call117⟩, trivial⟩)) (SpecsOK_of ⟨wA_.contract, trivial⟩) Tryz.call117 rfl rfl fun K x r h => by
    rw [wbZ.body_eq]; exact h
def wr_.spec : Dp.Spec := ⟨(.scons (.list Kq5) Kq3), (.list .str), false, fun K x => wr_ K x.1 x.2.1⟩
def wr_.hint : Dp.Hint := { n := 29, conds := [(19, [(.normal, { regs := [(0, (.list Kq5)), (1, .str), (5, (.slw 1)), (6, (.int .i64))], heap := [(.row .str), (.row .str)], app := [1] })])], loops := [(3, { regs := [(0, (.list Kq5)), (1, .str), (5, (.slw 1)), (6, (.int .i64))], heap := [(.row .str), (.row .str)], app := [1] }, [(.exit 0, { regs := [(5, (.slw 1))], heap := [(.row .str), (.row .str)], app := [1] })])], own := [4, 5] }
noncomputable def wr_.env : Dp.Env := ⟨ti, gl, [], [], [(74, Tryz.f74, wr_.hint)], [(117, wbZ.spec)], 0, 40⟩
noncomputable def wr_.r0 (K : Nat) : Nat → (((List Jq7) × ((List UInt8) × ((Unit) × Jq2))) × Jq4) → Option ((Jq14 × Jq4)) :=
  loopV [(.exit 0, { regs := [(5, (.slw 1))], heap := [(.row .str), (.row .str)], app := [1] })] { regs := [(0, (.list Kq5)), (1, .str), (5, (.slw 1)), (6, (.int .i64))], heap := [(.row .str), (.row .str)], app := [1] } (interp (wr_.env.at K) wr_.hint (callF (wr_.env.at K) 7) (Code.sub [1, 1, 0, 1, 0, 0] (Tryz.f74.body.getD .skip)) _)
theorem wr_.s0 (K n : Nat) (x : (((List Jq7) × ((List UInt8) × ((Unit) × Jq2))) × Jq4)) : wr_.r0 K (n + 1) x = wr_.t0 K (wr_.r0 K n) x := by kernel_rfl
theorem wr_.e0 (K n : Nat) : wr_.r0 K n = wr_.l0 K n := eqR (l := wr_.l0 K) _ (wr_.s0 K) (fun _ _ => rfl) (fun _ => rfl) n
theorem wr_.body_eq (K : Nat) (x : wr_.spec.args.den) : body (wr_.env.at K) 8 74 wr_.spec x = wr_.tr (wr_.r0 K) K x.1 x.2.1 := by kernel_rfl
theorem wr_.contract : Contract Tryz.prog gl 74 wr_.spec :=
  contract_of (E := wr_.env) (kn rfl (FnsOK_of ⟨⟨Tryz.func74, Tryz.call74⟩, trivial⟩)) (SpecsOK_of ⟨wbZ.contract, trivial⟩) Tryz.call74 rfl rfl fun K x r h => by
    rw [wr_.body_eq, show wr_.r0 K = wr_.l0 K from funext (wr_.e0 K)]; exact h
def wcd.spec : Dp.Spec := ⟨Kq10, .bool, false, fun K x => wcd K x.1⟩
def wcd.hint : Dp.Hint := { n := 13 }
noncomputable def wcd.env : Dp.Env := ⟨ti, gl, [], [], [(129, Tryz.f129, wcd.hint)], [], 0, 40⟩
theorem wcd.body_eq (K : Nat) (x : wcd.spec.args.den) : body (wcd.env.at K) 8 129 wcd.spec x = wcd K x.1 := by kernel_rfl
theorem wcd.contract : Contract Tryz.prog gl 129 wcd.spec :=
  contract_of (E := wcd.env) (kn rfl (FnsOK_of ⟨⟨Tryz.func129, Tryz.call129⟩, trivial⟩)) (SpecsOK_of trivial) Tryz.call129 rfl rfl fun K x r h => by
    rw [wcd.body_eq]; exact h
def wJ_.spec : Dp.Spec := ⟨Kq3, (.tup (.scons Kq7 Kq12)), false, fun K x => wJ_ K x.1⟩
def wJ_.hint : Dp.Hint := { n := 55, conds := [(13, [(.normal, { regs := [(0, .str), (2, (.loc 0 false [])), (4, (.loc 1 false []))], heap := [Kq7, Kq7] })])], regions := [(2, [(.normal, { regs := [(0, .str), (2, (.loc 0 false [])), (4, (.loc 1 false [])), (13, .bool)], heap := [Kq7, Kq7] })]), (5, [(.normal, { regs := [(0, .str), (2, (.loc 0 false [])), (4, (.loc 1 false [])), (32, .bool)], heap := [Kq7, Kq7] })])], loops := [(9, { regs := [(2, (.loc 0 false [])), (4, (.loc 1 false [])), (5, (.int .i64))], heap := [Kq7, Kq7] }, [(.exit 0, { regs := [(2, (.loc 0 false [])), (4, (.loc 1 false []))], heap := [Kq7, Kq7] }), (.ret, { regs := [(2, (.loc 0 false [])), (3, .bool)], heap := [Kq7, Kq7] })])] }
noncomputable def wJ_.env : Dp.Env := ⟨ti, gl, [], [], [(75, Tryz.f75, wJ_.hint)], [(129, wcd.spec)], 0, 40⟩
noncomputable def wJ_.r0 (K : Nat) : Nat → (((Nat) × ((Nat) × Jq2)) × Jq12) → Option ((((Nat) × Jq22) × Jq12) ⊕ (((Nat) × Jq5) × Jq12)) :=
  loopV [(.exit 0, { regs := [(2, (.loc 0 false [])), (4, (.loc 1 false []))], heap := [Kq7, Kq7] }), (.ret, { regs := [(2, (.loc 0 false [])), (3, .bool)], heap := [Kq7, Kq7] })] { regs := [(2, (.loc 0 false [])), (4, (.loc 1 false [])), (5, (.int .i64))], heap := [Kq7, Kq7] } (interp (wJ_.env.at K) wJ_.hint (callF (wJ_.env.at K) 7) (Code.sub [1, 1, 1, 1, 1, 0, 1, 0, 0] (Tryz.f75.body.getD .skip)) _)
theorem wJ_.s0 (K n : Nat) (x : (((Nat) × ((Nat) × Jq2)) × Jq12)) : wJ_.r0 K (n + 1) x = wJ_.t0 K (wJ_.r0 K n) x := by kernel_rfl
theorem wJ_.e0 (K n : Nat) : wJ_.r0 K n = wJ_.l0 K n := eqR (l := wJ_.l0 K) _ (wJ_.s0 K) (fun _ _ => rfl) (fun _ => rfl) n
theorem wJ_.body_eq (K : Nat) (x : wJ_.spec.args.den) : body (wJ_.env.at K) 8 75 wJ_.spec x = wJ_.tr (wJ_.r0 K) K x.1 := by kernel_rfl
theorem wJ_.contract : Contract Tryz.prog gl 75 wJ_.spec :=
  contract_of (E := wJ_.env) (kn rfl (FnsOK_of ⟨⟨Tryz.func75, Tryz.call75⟩, trivial⟩)) (SpecsOK_of ⟨wcd.contract, trivial⟩) Tryz.call75 rfl rfl fun K x r h => by
    rw [wJ_.body_eq, show wJ_.r0 K = wJ_.l0 K from funext (wJ_.e0 K)]; exact h
def wcj.spec : Dp.Spec := ⟨(.scons Kq6 .snil), (.tup (.scons Kq7 Kq12)), false, fun K x => wcj K x.1⟩
def wcj.hint : Dp.Hint := { n := 18, imm := [1] }
noncomputable def wcj.env : Dp.Env := ⟨ti, gl, [], [], [(34, Tryz.f34, wcj.hint)], [(74, wr_.spec), (75, wJ_.spec)], 0, 40⟩
theorem wcj.body_eq (K : Nat) (x : wcj.spec.args.den) : body (wcj.env.at K) 8 34 wcj.spec x = wcj K x.1 := by kernel_rfl
theorem wcj.contract : Contract Tryz.prog gl 34 wcj.spec :=
  contract_of (E := wcj.env) (kn rfl (FnsOK_of ⟨⟨Tryz.func34, Tryz.call34⟩, trivial⟩)) (SpecsOK_of ⟨wr_.contract, wJ_.contract, trivial⟩) Tryz.call34 rfl rfl fun K x r h => by
    rw [wcj.body_eq]; exact h
def wbL.spec : Dp.Spec := ⟨(.scons (.list Kq5) Kq3), .bool, false, fun K x => wbL K x.1 x.2.1⟩
def wbL.hint : Dp.Hint := { n := 10 }
noncomputable def wbL.env : Dp.Env := ⟨ti, gl, [], [], [(89, Tryz.f89, wbL.hint)], [(74, wr_.spec)], 0, 40⟩
theorem wbL.body_eq (K : Nat) (x : wbL.spec.args.den) : body (wbL.env.at K) 8 89 wbL.spec x = wbL K x.1 x.2.1 := by kernel_rfl
theorem wbL.contract : Contract Tryz.prog gl 89 wbL.spec :=
  contract_of (E := wbL.env) (kn rfl (FnsOK_of ⟨⟨Tryz.func89, Tryz.call89⟩, trivial⟩)) (SpecsOK_of ⟨wr_.contract, trivial⟩) Tryz.call89 rfl rfl fun K x r h => by
    rw [wbL.body_eq]; exact h
def wby.spec : Dp.Spec := ⟨(.scons Kq11 .snil), .bool, false, fun K x => wby K x.1⟩
def wby.hint : Dp.Hint := { n := 21, imm := [1] }
noncomputable def wby.env : Dp.Env := ⟨ti, gl, [], [], [(38, Tryz.f38, wby.hint)], [(89, wbL.spec)], 0, 40⟩
theorem wby.body_eq (K : Nat) (x : wby.spec.args.den) : body (wby.env.at K) 8 38 wby.spec x = wby K x.1 := by kernel_rfl
theorem wby.contract : Contract Tryz.prog gl 38 wby.spec :=
  contract_of (E := wby.env) (kn rfl (FnsOK_of ⟨⟨Tryz.func38, Tryz.call38⟩, trivial⟩)) (SpecsOK_of ⟨wbL.contract, trivial⟩) Tryz.call38 rfl rfl fun K x r h => by
    rw [wby.body_eq]; exact h
def wb2.spec : Dp.Spec := ⟨Kq10, .bool, false, fun K x => wb2 K x.1⟩
def wb2.hint : Dp.Hint := { n := 9 }
noncomputable def wb2.env : Dp.Env := ⟨ti, gl, [], [], [(161, Tryz.f161, wb2.hint)], [], 0, 40⟩
theorem wb2.body_eq (K : Nat) (x : wb2.spec.args.den) : body (wb2.env.at K) 8 161 wb2.spec x = wb2 K x.1 := by kernel_rfl
theorem wb2.contract : Contract Tryz.prog gl 161 wb2.spec :=
  contract_of (E := wb2.env) (kn rfl (FnsOK_of ⟨⟨Tryz.func161, Tryz.call161⟩, trivial⟩)) (SpecsOK_of trivial) Tryz.call161 rfl rfl fun K x r h => by
    rw [wb2.body_eq]; exact h
def wk_.spec : Dp.Spec := ⟨Kq3, .str, false, fun K x => wk_ K x.1⟩
def wk_.hint : Dp.Hint := { n := 30, regions := [(1, [(.normal, { regs := [(0, .str), (10, .bool)] })]), (3, [(.normal, { regs := [(0, .str), (23, .bool)] })])], loops := [(1, { regs := [(0, .str)] }, [(.exit 0, { regs := [(0, .str)] })]), (3, { regs := [(0, .str)] }, [(.exit 2, { regs := [(0, .str)] })])] }
noncomputable def wk_.env : Dp.Env := ⟨ti, gl, [], [], [(115, Tryz.f115, wk_.hint)], [(161, wb2.spec)], 0, 40⟩
noncomputable def wk_.r1 (K : Nat) : Nat → Jq26 → Option (Jq26) :=
  loopV [(.exit 2, { regs := [(0, .str)] })] { regs := [(0, .str)] } (interp (wk_.env.at K) wk_.hint (callF (wk_.env.at K) 7) (Code.sub [1, 1, 0, 0, 0] (Tryz.f115.body.getD .skip)) _)
theorem wk_.s1 (K n : Nat) (x : Jq26) : wk_.r1 K (n + 1) x = wk_.t1 K (wk_.r1 K n) x := by kernel_rfl
theorem wk_.e1 (K n : Nat) : wk_.r1 K n = wk_.l1 K n := eqR (l := wk_.l1 K) _ (wk_.s1 K) (fun _ _ => rfl) (fun _ => rfl) n
noncomputable def wk_.r0 (K : Nat) : Nat → Jq26 → Option (Jq26) :=
  loopV [(.exit 0, { regs := [(0, .str)] })] { regs := [(0, .str)] } (interp (wk_.env.at K) wk_.hint (callF (wk_.env.at K) 7) (Code.sub [1, 0, 0, 0] (Tryz.f115.body.getD .skip)) _)
theorem wk_.s0 (K n : Nat) (x : Jq26) : wk_.r0 K (n + 1) x = wk_.t0 K (wk_.r0 K n) x := by kernel_rfl
theorem wk_.e0 (K n : Nat) : wk_.r0 K n = wk_.l0 K n := eqR (l := wk_.l0 K) _ (wk_.s0 K) (fun _ _ => rfl) (fun _ => rfl) n
theorem wk_.body_eq (K : Nat) (x : wk_.spec.args.den) : body (wk_.env.at K) 8 115 wk_.spec x = wk_.tr (wk_.r0 K) (wk_.r1 K) K x.1 := by kernel_rfl
theorem wk_.contract : Contract Tryz.prog gl 115 wk_.spec :=
  contract_of (E := wk_.env) (kn rfl (FnsOK_of ⟨⟨Tryz.func115, Tryz.call115⟩, trivial⟩)) (SpecsOK_of ⟨wb2.contract, trivial⟩) Tryz.call115 rfl rfl fun K x r h => by
    rw [wk_.body_eq, show wk_.r0 K = wk_.l0 K from funext (wk_.e0 K), show wk_.r1 K = wk_.l1 K from funext (wk_.e1 K)]; exact h
def wy_.spec : Dp.Spec := ⟨Kq3, (.tup (.scons (.list .str) Kq4)), false, fun K x => wy_ K x.1⟩
def wy_.hint : Dp.Hint := { n := 76, conds := [(40, [(.normal, { regs := [(0, .str), (4, (.slw 1)), (5, .str), (6, .bool), (7, (.int .i64))], heap := [(.row .str), (.row .str)], app := [1] })]), (53, [(.normal, { regs := [(0, .str), (4, (.slw 1)), (6, .bool), (7, (.int .i64))], heap := [(.row .str), (.row .str)], app := [1] })])], blocks := [(1, [(.normal, { regs := [(0, .str), (4, (.slw 1)), (5, .str), (6, .bool), (7, (.int .i64))], heap := [(.row .str), (.row .str)], app := [1] })])], regions := [(7, [(.normal, { regs := [(0, .str), (4, (.slw 1)), (5, .str), (6, .bool), (7, (.int .i64)), (27, .bool)], heap := [(.row .str), (.row .str)], app := [1] })]), (12, [(.normal, { regs := [(0, .str), (4, (.slw 1)), (5, .str), (6, .bool), (7, (.int .i64)), (50, .bool)], heap := [(.row .str), (.row .str)], app := [1] })])], loops := [(5, { regs := [(0, .str), (4, (.slw 1)), (5, .str), (6, .bool), (7, (.int .i64))], heap := [(.row .str), (.row .str)], app := [1] }, [(.exit 0, { regs := [(4, (.slw 1)), (5, .str), (6, .bool)], heap := [(.row .str), (.row .str)], app := [1] })])], own := [2, 2, 4] }
noncomputable def wy_.env : Dp.Env := ⟨ti, gl, [], [], [(138, Tryz.f138, wy_.hint)], [(115, wk_.spec)], 0, 40⟩
noncomputable def wy_.r0 (K : Nat) : Nat → Jq38 → Option ((((Unit) × Jq30) × Jq4)) :=
  loopV [(.exit 0, { regs := [(4, (.slw 1)), (5, .str), (6, .bool)], heap := [(.row .str), (.row .str)], app := [1] })] { regs := [(0, .str), (4, (.slw 1)), (5, .str), (6, .bool), (7, (.int .i64))], heap := [(.row .str), (.row .str)], app := [1] } (interp (wy_.env.at K) wy_.hint (callF (wy_.env.at K) 7) (Code.sub [1, 1, 1, 1, 0, 1, 0, 0] (Tryz.f138.body.getD .skip)) _)
theorem wy_.s0 (K n : Nat) (x : Jq38) : wy_.r0 K (n + 1) x = wy_.t0 K (wy_.r0 K n) x := by kernel_rfl
theorem wy_.e0 (K n : Nat) : wy_.r0 K n = wy_.l0 K n := eqR (l := wy_.l0 K) _ (wy_.s0 K) (fun _ _ => rfl) (fun _ => rfl) n
theorem wy_.body_eq (K : Nat) (x : wy_.spec.args.den) : body (wy_.env.at K) 8 138 wy_.spec x = wy_.tr (wy_.r0 K) K x.1 := by kernel_rfl
theorem wy_.contract : Contract Tryz.prog gl 138 wy_.spec :=
  contract_of (E := wy_.env) (kn rfl (FnsOK_of ⟨⟨Tryz.func138, Tryz.call138⟩, trivial⟩)) (SpecsOK_of ⟨wk_.contract, trivial⟩) Tryz.call138 rfl rfl fun K x r h => by
    rw [wy_.body_eq, show wy_.r0 K = wy_.l0 K from funext (wy_.e0 K)]; exact h
def wV_.spec : Dp.Spec := ⟨(.scons .str Kq10), (.tup (.scons .str (.scons .str Kq12))), false, fun K x => wV_ K x.1 x.2.1⟩
def wV_.hint : Dp.Hint := { n := 27, loops := [(2, { regs := [(0, .str), (1, (.int .u8)), (7, (.int .i64))] }, [(.exit 0, { regs := [(0, .str)] }), (.ret, { regs := [(4, .str), (5, .str), (6, .bool)] })])] }
noncomputable def wV_.env : Dp.Env := ⟨ti, gl, [], [], [(238, Tryz.f238, wV_.hint)], [], 0, 40⟩
noncomputable def wV_.r0 (K : Nat) : Nat → (((List UInt8) × Jq6) × (Unit)) → Option (Jq26 ⊕ (((List UInt8) × Jq30) × (Unit))) :=
  loopV [(.exit 0, { regs := [(0, .str)] }), (.ret, { regs := [(4, .str), (5, .str), (6, .bool)] })] { regs := [(0, .str), (1, (.int .u8)), (7, (.int .i64))] } (interp (wV_.env.at K) wV_.hint (callF (wV_.env.at K) 7) (Code.sub [1, 0, 1, 0, 0] (Tryz.f238.body.getD .skip)) _)
theorem wV_.s0 (K n : Nat) (x : (((List UInt8) × Jq6) × (Unit))) : wV_.r0 K (n + 1) x = wV_.t0 K (wV_.r0 K n) x := by kernel_rfl
theorem wV_.e0 (K n : Nat) : wV_.r0 K n = wV_.l0 K n := eqR (l := wV_.l0 K) _ (wV_.s0 K) (fun _ _ => rfl) (fun _ => rfl) n
theorem wV_.body_eq (K : Nat) (x : wV_.spec.args.den) : body (wV_.env.at K) 8 238 wV_.spec x = wV_.tr (wV_.r0 K) K x.1 x.2.1 := by kernel_rfl
theorem wV_.contract : Contract Tryz.prog gl 238 wV_.spec :=
  contract_of (E := wV_.env) (kn rfl (FnsOK_of ⟨⟨Tryz.func238, Tryz.call238⟩, trivial⟩)) (SpecsOK_of trivial) Tryz.call238 rfl rfl fun K x r h => by
    rw [wV_.body_eq, show wV_.r0 K = wV_.l0 K from funext (wV_.e0 K)]; exact h
def wK_.spec : Dp.Spec := ⟨Kq10, .bool, false, fun K x => wK_ K x.1⟩
def wK_.hint : Dp.Hint := { n := 38, regions := [(1, [(.normal, { regs := [(0, (.int .u8)), (26, .bool)] })])], loops := [(5, { regs := [(0, (.int .u8)), (3, .str), (4, (.int .i64))] }, [(.exit 0, { regs := [] }), (.ret, { regs := [(2, .bool)] })])] }
noncomputable def wK_.env : Dp.Env := ⟨ti, gl, [], [], [(181, Tryz.f181, wK_.hint)], [], 0, 40⟩
noncomputable def wK_.r0 (K : Nat) : Nat → (((Int) × Jq15) × (Unit)) → Option (Jq14 ⊕ Jq24) :=
  loopV [(.exit 0, { regs := [] }), (.ret, { regs := [(2, .bool)] })] { regs := [(0, (.int .u8)), (3, .str), (4, (.int .i64))] } (interp (wK_.env.at K) wK_.hint (callF (wK_.env.at K) 7) (Code.sub [1, 1, 1, 0, 1, 0, 0] (Tryz.f181.body.getD .skip)) _)
theorem wK_.s0 (K n : Nat) (x : (((Int) × Jq15) × (Unit))) : wK_.r0 K (n + 1) x = wK_.t0 K (wK_.r0 K n) x := by kernel_rfl
theorem wK_.e0 (K n : Nat) : wK_.r0 K n = wK_.l0 K n := eqR (l := wK_.l0 K) _ (wK_.s0 K) (fun _ _ => rfl) (fun _ => rfl) n
theorem wK_.body_eq (K : Nat) (x : wK_.spec.args.den) : body (wK_.env.at K) 8 181 wK_.spec x = wK_.tr (wK_.r0 K) K x.1 := by kernel_rfl
theorem wK_.contract : Contract Tryz.prog gl 181 wK_.spec :=
  contract_of (E := wK_.env) (kn rfl (FnsOK_of ⟨⟨Tryz.func181, Tryz.call181⟩, trivial⟩)) (SpecsOK_of trivial) Tryz.call181 rfl rfl fun K x r h => by
    rw [wK_.body_eq, show wK_.r0 K = wK_.l0 K from funext (wK_.e0 K)]; exact h
def ww_.spec : Dp.Spec := ⟨Kq3, .bool, false, fun K x => ww_ K x.1⟩
def ww_.hint : Dp.Hint := { n := 18, loops := [(2, { regs := [(0, .str), (3, (.int .i64))] }, [(.exit 0, { regs := [(0, .str)] }), (.ret, { regs := [(2, .bool)] })])] }
noncomputable def ww_.env : Dp.Env := ⟨ti, gl, [], [], [(139, Tryz.f139, ww_.hint)], [(181, wK_.spec)], 0, 40⟩
noncomputable def ww_.r0 (K : Nat) : Nat → Jq36 → Option (Jq26 ⊕ Jq24) :=
  loopV [(.exit 0, { regs := [(0, .str)] }), (.ret, { regs := [(2, .bool)] })] { regs := [(0, .str), (3, (.int .i64))] } (interp (ww_.env.at K) ww_.hint (callF (ww_.env.at K) 7) (Code.sub [1, 0, 1, 0, 0] (Tryz.f139.body.getD .skip)) _)
theorem ww_.s0 (K n : Nat) (x : Jq36) : ww_.r0 K (n + 1) x = ww_.t0 K (ww_.r0 K n) x := by kernel_rfl
theorem ww_.e0 (K n : Nat) : ww_.r0 K n = ww_.l0 K n := eqR (l := ww_.l0 K) _ (ww_.s0 K) (fun _ _ => rfl) (fun _ => rfl) n
theorem ww_.body_eq (K : Nat) (x : ww_.spec.args.den) : body (ww_.env.at K) 8 139 ww_.spec x = ww_.tr (ww_.r0 K) K x.1 := by kernel_rfl
theorem ww_.contract : Contract Tryz.prog gl 139 ww_.spec :=
  contract_of (E := ww_.env) (kn rfl (FnsOK_of ⟨⟨Tryz.func139, Tryz.call139⟩, trivial⟩)) (SpecsOK_of ⟨wK_.contract, trivial⟩) Tryz.call139 rfl rfl fun K x r h => by
    rw [ww_.body_eq, show ww_.r0 K = ww_.l0 K from funext (ww_.e0 K)]; exact h
def wC_.spec : Dp.Spec := ⟨Kq3, (.tup (.scons .str Kq4)), false, fun K x => wC_ K x.1⟩
def wC_.hint : Dp.Hint := { n := 48, conds := [(33, [(.normal, { regs := [(0, .str), (4, .str), (5, (.int .i64))] }), (.ret, { regs := [(2, .str), (3, (.int .i64))] })])], regions := [(1, [(.normal, { regs := [(0, .str), (13, .bool)] })])], loops := [(5, { regs := [(0, .str), (4, .str), (5, (.int .i64))] }, [(.exit 0, { regs := [] }), (.ret, { regs := [(2, .str), (3, (.int .i64))] })])] }
noncomputable def wC_.env : Dp.Env := ⟨ti, gl, [], [], [(239, Tryz.f239, wC_.hint)], [], 0, 40⟩
noncomputable def wC_.r0 (K : Nat) : Nat → (((List UInt8) × Jq15) × (Unit)) → Option (Jq14 ⊕ Jq36) :=
  loopV [(.exit 0, { regs := [] }), (.ret, { regs := [(2, .str), (3, (.int .i64))] })] { regs := [(0, .str), (4, .str), (5, (.int .i64))] } (interp (wC_.env.at K) wC_.hint (callF (wC_.env.at K) 7) (Code.sub [1, 1, 1, 0, 1, 0, 0] (Tryz.f239.body.getD .skip)) _)
theorem wC_.s0 (K n : Nat) (x : (((List UInt8) × Jq15) × (Unit))) : wC_.r0 K (n + 1) x = wC_.t0 K (wC_.r0 K n) x := by kernel_rfl
theorem wC_.e0 (K n : Nat) : wC_.r0 K n = wC_.l0 K n := eqR (l := wC_.l0 K) _ (wC_.s0 K) (fun _ _ => rfl) (fun _ => rfl) n
theorem wC_.body_eq (K : Nat) (x : wC_.spec.args.den) : body (wC_.env.at K) 8 239 wC_.spec x = wC_.tr (wC_.r0 K) K x.1 := by kernel_rfl
theorem wC_.contract : Contract Tryz.prog gl 239 wC_.spec :=
  contract_of (E := wC_.env) (kn rfl (FnsOK_of ⟨⟨Tryz.func239, Tryz.call239⟩, trivial⟩)) (SpecsOK_of trivial) Tryz.call239 rfl rfl fun K x r h => by
    rw [wC_.body_eq, show wC_.r0 K = wC_.l0 K from funext (wC_.e0 K)]; exact h
def wce.spec : Dp.Spec := ⟨Kq3, (.tup (.scons .str (.scons .str (.scons .bool Kq4)))), false, fun K x => wce K x.1⟩
def wce.hint : Dp.Hint := { n := 41, regions := [(5, [(.normal, { regs := [(6, .str), (7, .str), (8, .bool), (27, .bool)] })])] }
noncomputable def wce.env : Dp.Env := ⟨ti, gl, [], [], [(178, Tryz.f178, wce.hint)], [(141, wA_.spec), (238, wV_.spec), (139, ww_.spec), (239, wC_.spec)], 0, 40⟩
theorem wce.body_eq (K : Nat) (x : wce.spec.args.den) : body (wce.env.at K) 8 178 wce.spec x = wce K x.1 := by kernel_rfl
theorem wce.contract : Contract Tryz.prog gl 178 wce.spec :=
  contract_of (E := wce.env) (kn rfl (FnsOK_of ⟨⟨Tryz.func178, Tryz.call178⟩, trivial⟩)) (SpecsOK_of ⟨wA_.contract, wV_.contract, ww_.contract, wC_.contract, trivial⟩) Tryz.call178 rfl rfl fun K x r h => by
    rw [wce.body_eq]; exact h
def wd_.spec : Dp.Spec := ⟨(.scons (.list Kq5) .snil), (.tup (.scons (.list .str) (.scons (.list .str) Kq12))), false, fun K x => wd_ K x.1⟩
def wd_.hint : Dp.Hint := { n := 67, conds := [(55, [(.normal, { regs := [(5, (.slw 2)), (6, (.slw 3)), (7, .bool), (8, (.list .str)), (9, (.int .i64)), (10, (.list .str)), (12, (.int .i64))], heap := [(.row .str), (.row .str), (.row .str), (.row .str)], app := [2, 3] })])], regions := [(8, [(.normal, { regs := [(5, (.slw 2)), (6, (.slw 3)), (7, .bool), (8, (.list .str)), (9, (.int .i64)), (10, (.list .str))], heap := [(.row .str), (.row .str), (.row .str), (.row .str)], app := [2, 3] })])], loops := [(5, { regs := [(5, (.slw 2)), (6, (.slw 3)), (7, .bool), (8, (.list .str)), (9, (.int .i64))], heap := [(.row .str), (.row .str), (.row .str), (.row .str)], app := [2, 3] }, [(.exit 0, { regs := [(5, (.slw 2)), (6, (.slw 3)), (7, .bool)], heap := [(.row .str), (.row .str), (.row .str), (.row .str)], app := [2, 3] })]), (10, { regs := [(5, (.slw 2)), (6, (.slw 3)), (7, .bool), (8, (.list .str)), (9, (.int .i64)), (10, (.list .str)), (12, (.int .i64))], heap := [(.row .str), (.row .str), (.row .str), (.row .str)], app := [2, 3] }, [(.exit 2, { regs := [(5, (.slw 2)), (6, (.slw 3)), (7, .bool), (8, (.list .str)), (9, (.int .i64))], heap := [(.row .str), (.row .str), (.row .str), (.row .str)], app := [2, 3] })])], own := [2, 3, 5, 6] }
noncomputable def wd_.env : Dp.Env := ⟨ti, gl, [], [], [(134, Tryz.f134, wd_.hint)], [(74, wr_.spec), (138, wy_.spec), (178, wce.spec)], 0, 40⟩
noncomputable def wd_.r0 (K : Nat) : Nat → (((Unit) × ((Unit) × ((Bool) × Jq27))) × Jq16) → Option ((((Unit) × ((Unit) × ((Bool) × Jq10))) × Jq16)) :=
  loopV [(.exit 2, { regs := [(5, (.slw 2)), (6, (.slw 3)), (7, .bool), (8, (.list .str)), (9, (.int .i64))], heap := [(.row .str), (.row .str), (.row .str), (.row .str)], app := [2, 3] })] { regs := [(5, (.slw 2)), (6, (.slw 3)), (7, .bool), (8, (.list .str)), (9, (.int .i64)), (10, (.list .str)), (12, (.int .i64))], heap := [(.row .str), (.row .str), (.row .str), (.row .str)], app := [2, 3] } (interp (wd_.env.at K) wd_.hint (callF (wd_.env.at K) 7) (Code.sub [1, 1, 1, 1, 0, 1, 0, 0, 1, 0, 0, 1, 1, 1, 0, 0] (Tryz.f134.body.getD .skip)) _)
theorem wd_.s0 (K n : Nat) (x : (((Unit) × ((Unit) × ((Bool) × Jq27))) × Jq16)) : wd_.r0 K (n + 1) x = wd_.t0 K (wd_.r0 K n) x := by kernel_rfl
theorem wd_.e0 (K n : Nat) : wd_.r0 K n = wd_.l0 K n := eqR (l := wd_.l0 K) _ (wd_.s0 K) (fun _ _ => rfl) (fun _ => rfl) n
noncomputable def wd_.r1 (K : Nat) : Nat → (((Unit) × ((Unit) × ((Bool) × Jq10))) × Jq16) → Option ((((Unit) × ((Unit) × Jq5)) × Jq16)) :=
  loopV [(.exit 0, { regs := [(5, (.slw 2)), (6, (.slw 3)), (7, .bool)], heap := [(.row .str), (.row .str), (.row .str), (.row .str)], app := [2, 3] })] { regs := [(5, (.slw 2)), (6, (.slw 3)), (7, .bool), (8, (.list .str)), (9, (.int .i64))], heap := [(.row .str), (.row .str), (.row .str), (.row .str)], app := [2, 3] } (interp (wd_.env.at K) wd_.hint (callF (wd_.env.at K) 7) (Code.sub [1, 1, 1, 1, 0, 1, 0, 0] (Tryz.f134.body.getD .skip)) _)
theorem wd_.s1 (K n : Nat) (x : (((Unit) × ((Unit) × ((Bool) × Jq10))) × Jq16)) : wd_.r1 K (n + 1) x = wd_.t1 (wd_.r0 K) K (wd_.r1 K n) x := by kernel_rfl
theorem wd_.e1 (K n : Nat) : wd_.r1 K n = wd_.l1 K n := by
  induction n with
  | zero => funext x; rfl
  | succ n ih => funext x; rw [wd_.s1, ih, show wd_.r0 K = wd_.l0 K from funext (wd_.e0 K)]; rfl
theorem wd_.body_eq (K : Nat) (x : wd_.spec.args.den) : body (wd_.env.at K) 8 134 wd_.spec x = wd_.tr (wd_.r1 K) K x.1 := by kernel_rfl
theorem wd_.contract : Contract Tryz.prog gl 134 wd_.spec :=
  contract_of (E := wd_.env) (kn rfl (FnsOK_of ⟨⟨Tryz.func134, Tryz.call134⟩, trivial⟩)) (SpecsOK_of ⟨wr_.contract, wy_.contract, wce.contract, trivial⟩) Tryz.call134 rfl rfl fun K x r h => by
    rw [wd_.body_eq, show wd_.r1 K = wd_.l1 K from funext (wd_.e1 K)]; exact h
def wp_.spec : Dp.Spec := ⟨(.scons (.list .str) Kq3), .bool, false, fun K x => wp_ K x.1 x.2.1⟩
def wp_.hint : Dp.Hint := { n := 18, loops := [(2, { regs := [(0, (.list .str)), (1, .str), (5, (.int .i64))] }, [(.exit 0, { regs := [] }), (.ret, { regs := [(4, .bool)] })])] }
noncomputable def wp_.env : Dp.Env := ⟨ti, gl, [], [], [(135, Tryz.f135, wp_.hint)], [], 0, 40⟩
noncomputable def wp_.r0 (K : Nat) : Nat → (((List (List UInt8)) × Jq15) × (Unit)) → Option (Jq14 ⊕ Jq24) :=
  loopV [(.exit 0, { regs := [] }), (.ret, { regs := [(4, .bool)] })] { regs := [(0, (.list .str)), (1, .str), (5, (.int .i64))] } (interp (wp_.env.at K) wp_.hint (callF (wp_.env.at K) 7) (Code.sub [1, 0, 1, 0, 0] (Tryz.f135.body.getD .skip)) _)
theorem wp_.s0 (K n : Nat) (x : (((List (List UInt8)) × Jq15) × (Unit))) : wp_.r0 K (n + 1) x = wp_.t0 K (wp_.r0 K n) x := by kernel_rfl
theorem wp_.e0 (K n : Nat) : wp_.r0 K n = wp_.l0 K n := eqR (l := wp_.l0 K) _ (wp_.s0 K) (fun _ _ => rfl) (fun _ => rfl) n
theorem wp_.body_eq (K : Nat) (x : wp_.spec.args.den) : body (wp_.env.at K) 8 135 wp_.spec x = wp_.tr (wp_.r0 K) K x.1 x.2.1 := by kernel_rfl
theorem wp_.contract : Contract Tryz.prog gl 135 wp_.spec :=
  contract_of (E := wp_.env) (kn rfl (FnsOK_of ⟨⟨Tryz.func135, Tryz.call135⟩, trivial⟩)) (SpecsOK_of trivial) Tryz.call135 rfl rfl fun K x r h => by
    rw [wp_.body_eq, show wp_.r0 K = wp_.l0 K from funext (wp_.e0 K)]; exact h
def wR_.spec : Dp.Spec := ⟨Kq10, (.tup (.scons (.int .i64) Kq12)), false, fun K x => wR_ K x.1⟩
def wR_.hint : Dp.Hint := { n := 24, regions := [(5, [(.normal, { regs := [(0, (.int .u8)), (4, .str), (5, .str), (6, (.int .i64)), (22, .bool)] })])], loops := [(3, { regs := [(0, (.int .u8)), (4, .str), (5, .str), (6, (.int .i64))] }, [(.exit 0, { regs := [] }), (.ret, { regs := [(2, (.int .i64)), (3, .bool)] })])] }
noncomputable def wR_.env : Dp.Env := ⟨ti, gl, [], [], [(268, Tryz.f268, wR_.hint)], [], 0, 40⟩
noncomputable def wR_.r0 (K : Nat) : Nat → (((Int) × ((List UInt8) × Jq15)) × (Unit)) → Option (Jq14 ⊕ (Jq18 × (Unit))) :=
  loopV [(.exit 0, { regs := [] }), (.ret, { regs := [(2, (.int .i64)), (3, .bool)] })] { regs := [(0, (.int .u8)), (4, .str), (5, .str), (6, (.int .i64))] } (interp (wR_.env.at K) wR_.hint (callF (wR_.env.at K) 7) (Code.sub [1, 1, 0, 1, 0, 0] (Tryz.f268.body.getD .skip)) _)
theorem wR_.s0 (K n : Nat) (x : (((Int) × ((List UInt8) × Jq15)) × (Unit))) : wR_.r0 K (n + 1) x = wR_.t0 K (wR_.r0 K n) x := by kernel_rfl
theorem wR_.e0 (K n : Nat) : wR_.r0 K n = wR_.l0 K n := eqR (l := wR_.l0 K) _ (wR_.s0 K) (fun _ _ => rfl) (fun _ => rfl) n
theorem wR_.body_eq (K : Nat) (x : wR_.spec.args.den) : body (wR_.env.at K) 8 268 wR_.spec x = wR_.tr (wR_.r0 K) K x.1 := by kernel_rfl
theorem wR_.contract : Contract Tryz.prog gl 268 wR_.spec :=
  contract_of (E := wR_.env) (kn rfl (FnsOK_of ⟨⟨Tryz.func268, Tryz.call268⟩, trivial⟩)) (SpecsOK_of trivial) Tryz.call268 rfl rfl fun K x r h => by
    rw [wR_.body_eq, show wR_.r0 K = wR_.l0 K from funext (wR_.e0 K)]; exact h
def wcg.spec : Dp.Spec := ⟨Kq10, .bool, false, fun K x => wcg K x.1⟩
def wcg.hint : Dp.Hint := { n := 15 }
noncomputable def wcg.env : Dp.Env := ⟨ti, gl, [], [], [(240, Tryz.f240, wcg.hint)], [(268, wR_.spec)], 0, 40⟩
theorem wcg.body_eq (K : Nat) (x : wcg.spec.args.den) : body (wcg.env.at K) 8 240 wcg.spec x = wcg K x.1 := by kernel_rfl
theorem wcg.contract : Contract Tryz.prog gl 240 wcg.spec :=
  contract_of (E := wcg.env) (kn rfl (FnsOK_of ⟨⟨Tryz.func240, Tryz.call240⟩, trivial⟩)) (SpecsOK_of ⟨wR_.contract, trivial⟩) Tryz.call240 rfl rfl fun K x r h => by
    rw [wcg.body_eq]; exact h
def ws_.spec : Dp.Spec := ⟨Kq3, (.tup (.scons (.int .i64) Kq12)), false, fun K x => ws_ K x.1⟩
def ws_.hint : Dp.Hint := { n := 30, loops := [(3, { regs := [(0, .str), (4, (.int .i64)), (5, (.int .i64))] }, [(.exit 0, { regs := [(0, .str), (4, (.int .i64))] }), (.ret, { regs := [(2, (.int .i64)), (3, .bool)] })])] }
noncomputable def ws_.env : Dp.Env := ⟨ti, gl, [], [], [(179, Tryz.f179, ws_.hint)], [(240, wcg.spec)], 0, 40⟩
noncomputable def ws_.r0 (K : Nat) : Nat → (((List UInt8) × Jq6) × (Unit)) → Option (Jq36 ⊕ (Jq18 × (Unit))) :=
  loopV [(.exit 0, { regs := [(0, .str), (4, (.int .i64))] }), (.ret, { regs := [(2, (.int .i64)), (3, .bool)] })] { regs := [(0, .str), (4, (.int .i64)), (5, (.int .i64))] } (interp (ws_.env.at K) ws_.hint (callF (ws_.env.at K) 7) (Code.sub [1, 1, 0, 1, 0, 0] (Tryz.f179.body.getD .skip)) _)
theorem ws_.s0 (K n : Nat) (x : (((List UInt8) × Jq6) × (Unit))) : ws_.r0 K (n + 1) x = ws_.t0 K (ws_.r0 K n) x := by kernel_rfl
theorem ws_.e0 (K n : Nat) : ws_.r0 K n = ws_.l0 K n := eqR (l := ws_.l0 K) _ (ws_.s0 K) (fun _ _ => rfl) (fun _ => rfl) n
theorem ws_.body_eq (K : Nat) (x : ws_.spec.args.den) : body (ws_.env.at K) 8 179 ws_.spec x = ws_.tr (ws_.r0 K) K x.1 := by kernel_rfl
theorem ws_.contract : Contract Tryz.prog gl 179 ws_.spec :=
  contract_of (E := ws_.env) (kn rfl (FnsOK_of ⟨⟨Tryz.func179, Tryz.call179⟩, trivial⟩)) (SpecsOK_of ⟨wcg.contract, trivial⟩) Tryz.call179 rfl rfl fun K x r h => by
    rw [ws_.body_eq, show ws_.r0 K = ws_.l0 K from funext (ws_.e0 K)]; exact h
def wcb.spec : Dp.Spec := ⟨Kq8, (.int .i64), false, fun K x => wcb K x.1 x.2.1⟩
def wcb.hint : Dp.Hint := { n := 17, regions := [(1, [(.normal, { regs := [(0, (.int .i64)), (1, (.int .i64)), (10, .bool)] })])] }
noncomputable def wcb.env : Dp.Env := ⟨ti, gl, [], [], [(180, Tryz.f180, wcb.hint)], [], 0, 40⟩
theorem wcb.body_eq (K : Nat) (x : wcb.spec.args.den) : body (wcb.env.at K) 8 180 wcb.spec x = wcb K x.1 x.2.1 := by kernel_rfl
theorem wcb.contract : Contract Tryz.prog gl 180 wcb.spec :=
  contract_of (E := wcb.env) (kn rfl (FnsOK_of ⟨⟨Tryz.func180, Tryz.call180⟩, trivial⟩)) (SpecsOK_of trivial) Tryz.call180 rfl rfl fun K x r h => by
    rw [wcb.body_eq]; exact h
def wq_.spec : Dp.Spec := ⟨(.scons (.list .str) (.scons (.list .str) Kq3)), (.int .i64), false, fun K x => wq_ K x.1 x.2.1 x.2.2.1⟩
def wq_.hint : Dp.Hint := { n := 35, conds := [(22, [(.normal, { regs := [(0, (.list .str)), (1, (.list .str)), (2, .str), (7, (.int .i64)), (8, (.int .i64))] })])], loops := [(3, { regs := [(0, (.list .str)), (1, (.list .str)), (2, .str), (7, (.int .i64)), (8, (.int .i64))] }, [(.exit 0, { regs := [(7, (.int .i64))] })])] }
noncomputable def wq_.env : Dp.Env := ⟨ti, gl, [], [], [(136, Tryz.f136, wq_.hint)], [(179, ws_.spec), (180, wcb.spec)], 0, 40⟩
noncomputable def wq_.r0 (K : Nat) : Nat → Jq19 → Option (Jq31) :=
  loopV [(.exit 0, { regs := [(7, (.int .i64))] })] { regs := [(0, (.list .str)), (1, (.list .str)), (2, .str), (7, (.int .i64)), (8, (.int .i64))] } (interp (wq_.env.at K) wq_.hint (callF (wq_.env.at K) 7) (Code.sub [1, 1, 0, 1, 0, 0] (Tryz.f136.body.getD .skip)) _)
theorem wq_.s0 (K n : Nat) (x : Jq19) : wq_.r0 K (n + 1) x = wq_.t0 K (wq_.r0 K n) x := by kernel_rfl
theorem wq_.e0 (K n : Nat) : wq_.r0 K n = wq_.l0 K n := eqR (l := wq_.l0 K) _ (wq_.s0 K) (fun _ _ => rfl) (fun _ => rfl) n
theorem wq_.body_eq (K : Nat) (x : wq_.spec.args.den) : body (wq_.env.at K) 8 136 wq_.spec x = wq_.tr (wq_.r0 K) K x.1 x.2.1 x.2.2.1 := by kernel_rfl
theorem wq_.contract : Contract Tryz.prog gl 136 wq_.spec :=
  contract_of (E := wq_.env) (kn rfl (FnsOK_of ⟨⟨Tryz.func136, Tryz.call136⟩, trivial⟩)) (SpecsOK_of ⟨ws_.contract, wcb.contract, trivial⟩) Tryz.call136 rfl rfl fun K x r h => by
    rw [wq_.body_eq, show wq_.r0 K = wq_.l0 K from funext (wq_.e0 K)]; exact h
def wl_.spec : Dp.Spec := ⟨(.scons (.list .str) (.scons (.list .str) Kq3)), (.int .i64), false, fun K x => wl_ K x.1 x.2.1 x.2.2.1⟩
def wl_.hint : Dp.Hint := { n := 37, conds := [(22, [(.normal, { regs := [(0, (.list .str)), (1, (.list .str)), (2, .str), (7, (.int .i64)), (8, (.int .i64))] })]), (32, [(.normal, { regs := [(0, (.list .str)), (1, (.list .str)), (2, .str), (7, (.int .i64)), (8, (.int .i64)), (9, (.int .i64))] })])], loops := [(3, { regs := [(0, (.list .str)), (1, (.list .str)), (2, .str), (7, (.int .i64)), (8, (.int .i64))] }, [(.exit 0, { regs := [(7, (.int .i64))] })])] }
noncomputable def wl_.env : Dp.Env := ⟨ti, gl, [], [], [(137, Tryz.f137, wl_.hint)], [(179, ws_.spec)], 0, 40⟩
noncomputable def wl_.r0 (K : Nat) : Nat → Jq19 → Option (Jq31) :=
  loopV [(.exit 0, { regs := [(7, (.int .i64))] })] { regs := [(0, (.list .str)), (1, (.list .str)), (2, .str), (7, (.int .i64)), (8, (.int .i64))] } (interp (wl_.env.at K) wl_.hint (callF (wl_.env.at K) 7) (Code.sub [1, 1, 0, 1, 0, 0] (Tryz.f137.body.getD .skip)) _)
theorem wl_.s0 (K n : Nat) (x : Jq19) : wl_.r0 K (n + 1) x = wl_.t0 K (wl_.r0 K n) x := by kernel_rfl
theorem wl_.e0 (K n : Nat) : wl_.r0 K n = wl_.l0 K n := eqR (l := wl_.l0 K) _ (wl_.s0 K) (fun _ _ => rfl) (fun _ => rfl) n
theorem wl_.body_eq (K : Nat) (x : wl_.spec.args.den) : body (wl_.env.at K) 8 137 wl_.spec x = wl_.tr (wl_.r0 K) K x.1 x.2.1 x.2.2.1 := by kernel_rfl
theorem wl_.contract : Contract Tryz.prog gl 137 wl_.spec :=
  contract_of (E := wl_.env) (kn rfl (FnsOK_of ⟨⟨Tryz.func137, Tryz.call137⟩, trivial⟩)) (SpecsOK_of ⟨ws_.contract, trivial⟩) Tryz.call137 rfl rfl fun K x r h => by
    rw [wl_.body_eq, show wl_.r0 K = wl_.l0 K from funext (wl_.e0 K)]; exact h
def wbe.spec : Dp.Spec := ⟨(.scons (.list Kq5) .snil), Kq0, false, fun K x => wbe K x.1⟩
def wbe.hint : Dp.Hint := { n := 46 }
noncomputable def wbe.env : Dp.Env := ⟨ti, gl, [], [], [(88, Tryz.f88, wbe.hint)], [(134, wd_.spec), (135, wp_.spec), (136, wq_.spec), (137, wl_.spec)], 0, 40⟩
theorem wbe.body_eq (K : Nat) (x : wbe.spec.args.den) : body (wbe.env.at K) 8 88 wbe.spec x = wbe K x.1 := by kernel_rfl
theorem wbe.contract : Contract Tryz.prog gl 88 wbe.spec :=
  contract_of (E := wbe.env) (kn rfl (FnsOK_of ⟨⟨Tryz.func88, Tryz.call88⟩, trivial⟩)) (SpecsOK_of ⟨wd_.contract, wp_.contract, wq_.contract, wl_.contract, trivial⟩) Tryz.call88 rfl rfl fun K x r h => by
    rw [wbe.body_eq]; exact h
def wY_.spec : Dp.Spec := ⟨Kq5, .bool, false, fun K x => wY_ K x.1 x.2.1⟩
def wY_.hint : Dp.Hint := { n := 25, loops := [(3, { regs := [(1, .str), (5, (.list .str)), (7, (.int .i64))] }, [(.exit 0, { regs := [] }), (.ret, { regs := [(4, .bool)] })])] }
noncomputable def wY_.env : Dp.Env := ⟨ti, gl, [], [], [(177, Tryz.f177, wY_.hint)], [(117, wbZ.spec), (138, wy_.spec)], 0, 40⟩
noncomputable def wY_.r0 (K : Nat) : Nat → Jq39 → Option (Jq14 ⊕ Jq24) :=
  loopV [(.exit 0, { regs := [] }), (.ret, { regs := [(4, .bool)] })] { regs := [(1, .str), (5, (.list .str)), (7, (.int .i64))] } (interp (wY_.env.at K) wY_.hint (callF (wY_.env.at K) 7) (Code.sub [1, 1, 0, 1, 0, 0] (Tryz.f177.body.getD .skip)) _)
theorem wY_.s0 (K n : Nat) (x : Jq39) : wY_.r0 K (n + 1) x = wY_.t0 K (wY_.r0 K n) x := by kernel_rfl
theorem wY_.e0 (K n : Nat) : wY_.r0 K n = wY_.l0 K n := eqR (l := wY_.l0 K) _ (wY_.s0 K) (fun _ _ => rfl) (fun _ => rfl) n
theorem wY_.body_eq (K : Nat) (x : wY_.spec.args.den) : body (wY_.env.at K) 8 177 wY_.spec x = wY_.tr (wY_.r0 K) K x.1 x.2.1 := by kernel_rfl
theorem wY_.contract : Contract Tryz.prog gl 177 wY_.spec :=
  contract_of (E := wY_.env) (kn rfl (FnsOK_of ⟨⟨Tryz.func177, Tryz.call177⟩, trivial⟩)) (SpecsOK_of ⟨wbZ.contract, wy_.contract, trivial⟩) Tryz.call177 rfl rfl fun K x r h => by
    rw [wY_.body_eq, show wY_.r0 K = wY_.l0 K from funext (wY_.e0 K)]; exact h
def wX_.spec : Dp.Spec := ⟨(.scons (.list Kq5) Kq5), .bool, false, fun K x => wX_ K x.1 x.2.1 x.2.2.1⟩
def wX_.hint : Dp.Hint := { n := 24, loops := [(3, { regs := [(2, .str), (7, (.list .str)), (8, (.int .i64))] }, [(.exit 0, { regs := [] }), (.ret, { regs := [(6, .bool)] })])] }
noncomputable def wX_.env : Dp.Env := ⟨ti, gl, [], [], [(133, Tryz.f133, wX_.hint)], [(74, wr_.spec), (177, wY_.spec)], 0, 40⟩
noncomputable def wX_.r0 (K : Nat) : Nat → Jq39 → Option (Jq14 ⊕ Jq24) :=
  loopV [(.exit 0, { regs := [] }), (.ret, { regs := [(6, .bool)] })] { regs := [(2, .str), (7, (.list .str)), (8, (.int .i64))] } (interp (wX_.env.at K) wX_.hint (callF (wX_.env.at K) 7) (Code.sub [1, 1, 0, 1, 0, 0] (Tryz.f133.body.getD .skip)) _)
theorem wX_.s0 (K n : Nat) (x : Jq39) : wX_.r0 K (n + 1) x = wX_.t0 K (wX_.r0 K n) x := by kernel_rfl
theorem wX_.e0 (K n : Nat) : wX_.r0 K n = wX_.l0 K n := eqR (l := wX_.l0 K) _ (wX_.s0 K) (fun _ _ => rfl) (fun _ => rfl) n
theorem wX_.body_eq (K : Nat) (x : wX_.spec.args.den) : body (wX_.env.at K) 8 133 wX_.spec x = wX_.tr (wX_.r0 K) K x.1 x.2.1 x.2.2.1 := by kernel_rfl
theorem wX_.contract : Contract Tryz.prog gl 133 wX_.spec :=
  contract_of (E := wX_.env) (kn rfl (FnsOK_of ⟨⟨Tryz.func133, Tryz.call133⟩, trivial⟩)) (SpecsOK_of ⟨wr_.contract, wY_.contract, trivial⟩) Tryz.call133 rfl rfl fun K x r h => by
    rw [wX_.body_eq, show wX_.r0 K = wX_.l0 K from funext (wX_.e0 K)]; exact h
def wbM.spec : Dp.Spec := ⟨(.scons (.list Kq5) .snil), Kq0, false, fun K x => wbM K x.1⟩
def wbM.hint : Dp.Hint := { n := 16, regions := [(2, [(.normal, { regs := [(2, (.loc 0 false [])), (3, (.loc 1 false [])), (13, .bool)], heap := [Kq0, Kq0] })])] }
noncomputable def wbM.env : Dp.Env := ⟨ti, gl, [], [], [(87, Tryz.f87, wbM.hint)], [(74, wr_.spec), (88, wbe.spec), (133, wX_.spec)], 0, 40⟩
theorem wbM.body_eq (K : Nat) (x : wbM.spec.args.den) : body (wbM.env.at K) 8 87 wbM.spec x = wbM K x.1 := by kernel_rfl
theorem wbM.contract : Contract Tryz.prog gl 87 wbM.spec :=
  contract_of (E := wbM.env) (kn rfl (FnsOK_of ⟨⟨Tryz.func87, Tryz.call87⟩, trivial⟩)) (SpecsOK_of ⟨wr_.contract, wbe.contract, wX_.contract, trivial⟩) Tryz.call87 rfl rfl fun K x r h => by
    rw [wbM.body_eq]; exact h
def wG_.spec : Dp.Spec := ⟨Kq5, .bool, false, fun K x => wG_ K x.1 x.2.1⟩
def wG_.hint : Dp.Hint := { n := 37, regions := [(2, [(.normal, { regs := [(0, .str), (1, .str), (5, (.int .i64)), (15, .bool)] })])], loops := [(2, { regs := [(0, .str), (1, .str), (5, (.int .i64))] }, [(.exit 0, { regs := [(0, .str), (1, .str)] }), (.ret, { regs := [(4, .bool)] })])] }
noncomputable def wG_.env : Dp.Env := ⟨ti, gl, [], [], [(182, Tryz.f182, wG_.hint)], [], 0, 40⟩
noncomputable def wG_.r0 (K : Nat) : Nat → (((List UInt8) × Jq15) × (Unit)) → Option ((Jq7 × (Unit)) ⊕ Jq24) :=
  loopV [(.exit 0, { regs := [(0, .str), (1, .str)] }), (.ret, { regs := [(4, .bool)] })] { regs := [(0, .str), (1, .str), (5, (.int .i64))] } (interp (wG_.env.at K) wG_.hint (callF (wG_.env.at K) 7) (Code.sub [1, 0, 1, 0, 0] (Tryz.f182.body.getD .skip)) _)
theorem wG_.s0 (K n : Nat) (x : (((List UInt8) × Jq15) × (Unit))) : wG_.r0 K (n + 1) x = wG_.t0 K (wG_.r0 K n) x := by kernel_rfl
theorem wG_.e0 (K n : Nat) : wG_.r0 K n = wG_.l0 K n := eqR (l := wG_.l0 K) _ (wG_.s0 K) (fun _ _ => rfl) (fun _ => rfl) n
theorem wG_.body_eq (K : Nat) (x : wG_.spec.args.den) : body (wG_.env.at K) 8 182 wG_.spec x = wG_.tr (wG_.r0 K) K x.1 x.2.1 := by kernel_rfl
theorem wG_.contract : Contract Tryz.prog gl 182 wG_.spec :=
  contract_of (E := wG_.env) (kn rfl (FnsOK_of ⟨⟨Tryz.func182, Tryz.call182⟩, trivial⟩)) (SpecsOK_of trivial) Tryz.call182 rfl rfl fun K x r h => by
    rw [wG_.body_eq, show wG_.r0 K = wG_.l0 K from funext (wG_.e0 K)]; exact h
def wW_.spec : Dp.Spec := ⟨(.scons (.list .str) Kq3), (.list .str), false, fun K x => wW_ K x.1 x.2.1⟩
def wW_.hint : Dp.Hint := { n := 49, conds := [(24, [(.normal, { regs := [(0, (.list .str)), (1, .str), (5, (.slw 1)), (6, .bool), (7, (.int .i64))], heap := [(.row .str), (.row .str)], app := [1] })]), (30, [(.normal, { regs := [(0, (.list .str)), (1, .str), (5, (.slw 1)), (6, .bool), (7, (.int .i64))], heap := [(.row .str), (.row .str)], app := [1] })])], regions := [(6, [(.normal, { regs := [(0, (.list .str)), (1, .str), (5, (.slw 1)), (6, .bool), (7, (.int .i64)), (24, .bool)], heap := [(.row .str), (.row .str)], app := [1] })])], loops := [(4, { regs := [(0, (.list .str)), (1, .str), (5, (.slw 1)), (6, .bool), (7, (.int .i64))], heap := [(.row .str), (.row .str)], app := [1] }, [(.exit 0, { regs := [(1, .str), (5, (.slw 1)), (6, .bool)], heap := [(.row .str), (.row .str)], app := [1] })])], own := [4, 5] }
noncomputable def wW_.env : Dp.Env := ⟨ti, gl, [], [], [(140, Tryz.f140, wW_.hint)], [(182, wG_.spec)], 0, 40⟩
noncomputable def wW_.r0 (K : Nat) : Nat → Jq32 → Option ((((List UInt8) × ((Unit) × Jq5)) × Jq4)) :=
  loopV [(.exit 0, { regs := [(1, .str), (5, (.slw 1)), (6, .bool)], heap := [(.row .str), (.row .str)], app := [1] })] { regs := [(0, (.list .str)), (1, .str), (5, (.slw 1)), (6, .bool), (7, (.int .i64))], heap := [(.row .str), (.row .str)], app := [1] } (interp (wW_.env.at K) wW_.hint (callF (wW_.env.at K) 7) (Code.sub [1, 1, 1, 0, 1, 0, 0] (Tryz.f140.body.getD .skip)) _)
theorem wW_.s0 (K n : Nat) (x : Jq32) : wW_.r0 K (n + 1) x = wW_.t0 K (wW_.r0 K n) x := by kernel_rfl
theorem wW_.e0 (K n : Nat) : wW_.r0 K n = wW_.l0 K n := eqR (l := wW_.l0 K) _ (wW_.s0 K) (fun _ _ => rfl) (fun _ => rfl) n
theorem wW_.body_eq (K : Nat) (x : wW_.spec.args.den) : body (wW_.env.at K) 8 140 wW_.spec x = wW_.tr (wW_.r0 K) K x.1 x.2.1 := by kernel_rfl
theorem wW_.contract : Contract Tryz.prog gl 140 wW_.spec :=
  contract_of (E := wW_.env) (kn rfl (FnsOK_of ⟨⟨Tryz.func140, Tryz.call140⟩, trivial⟩)) (SpecsOK_of ⟨wG_.contract, trivial⟩) Tryz.call140 rfl rfl fun K x r h => by
    rw [wW_.body_eq, show wW_.r0 K = wW_.l0 K from funext (wW_.e0 K)]; exact h
def wj_.spec : Dp.Spec := ⟨(.scons (.list Kq5) .snil), (.tup (.scons (.list .str) Kq12)), false, fun K x => wj_ K x.1⟩
def wj_.hint : Dp.Hint := { n := 55, regions := [(12, [(.normal, { regs := [(4, (.list .str)), (5, (.list .str)), (6, (.int .i64)), (7, (.list .str)), (9, (.int .i64)), (46, .bool)] })])], loops := [(4, { regs := [(4, (.list .str)), (5, (.list .str)), (6, (.int .i64))] }, [(.exit 0, { regs := [(4, (.list .str))] }), (.ret, { regs := [(2, (.list .str)), (3, .bool)] })]), (10, { regs := [(4, (.list .str)), (5, (.list .str)), (6, (.int .i64)), (7, (.list .str)), (9, (.int .i64))] }, [(.exit 2, { regs := [(4, (.list .str)), (5, (.list .str)), (6, (.int .i64))] }), (.ret, { regs := [(2, (.list .str)), (3, .bool)] })])] }
noncomputable def wj_.env : Dp.Env := ⟨ti, gl, [], [], [(90, Tryz.f90, wj_.hint)], [(141, wA_.spec), (74, wr_.spec), (138, wy_.spec), (139, ww_.spec), (140, wW_.spec)], 0, 40⟩
noncomputable def wj_.r0 (K : Nat) : Nat → (((List (List UInt8)) × Jq27) × (Unit)) → Option ((((List (List UInt8)) × Jq10) × (Unit)) ⊕ (((List (List UInt8)) × Jq5) × (Unit))) :=
  loopV [(.exit 2, { regs := [(4, (.list .str)), (5, (.list .str)), (6, (.int .i64))] }), (.ret, { regs := [(2, (.list .str)), (3, .bool)] })] { regs := [(4, (.list .str)), (5, (.list .str)), (6, (.int .i64)), (7, (.list .str)), (9, (.int .i64))] } (interp (wj_.env.at K) wj_.hint (callF (wj_.env.at K) 7) (Code.sub [1, 1, 1, 0, 1, 0, 0, 1, 0, 0, 1, 1, 1, 0, 0] (Tryz.f90.body.getD .skip)) _)
theorem wj_.s0 (K n : Nat) (x : (((List (List UInt8)) × Jq27) × (Unit))) : wj_.r0 K (n + 1) x = wj_.t0 K (wj_.r0 K n) x := by kernel_rfl
theorem wj_.e0 (K n : Nat) : wj_.r0 K n = wj_.l0 K n := eqR (l := wj_.l0 K) _ (wj_.s0 K) (fun _ _ => rfl) (fun _ => rfl) n
noncomputable def wj_.r1 (K : Nat) : Nat → (((List (List UInt8)) × Jq10) × (Unit)) → Option ((((List (List UInt8)) × (Unit)) × (Unit)) ⊕ (((List (List UInt8)) × Jq5) × (Unit))) :=
  loopV [(.exit 0, { regs := [(4, (.list .str))] }), (.ret, { regs := [(2, (.list .str)), (3, .bool)] })] { regs := [(4, (.list .str)), (5, (.list .str)), (6, (.int .i64))] } (interp (wj_.env.at K) wj_.hint (callF (wj_.env.at K) 7) (Code.sub [1, 1, 1, 0, 1, 0, 0] (Tryz.f90.body.getD .skip)) _)
theorem wj_.s1 (K n : Nat) (x : (((List (List UInt8)) × Jq10) × (Unit))) : wj_.r1 K (n + 1) x = wj_.t1 (wj_.r0 K) K (wj_.r1 K n) x := by kernel_rfl
theorem wj_.e1 (K n : Nat) : wj_.r1 K n = wj_.l1 K n := by
  induction n with
  | zero => funext x; rfl
  | succ n ih => funext x; rw [wj_.s1, ih, show wj_.r0 K = wj_.l0 K from funext (wj_.e0 K)]; rfl
theorem wj_.body_eq (K : Nat) (x : wj_.spec.args.den) : body (wj_.env.at K) 8 90 wj_.spec x = wj_.tr (wj_.r1 K) K x.1 := by kernel_rfl
theorem wj_.contract : Contract Tryz.prog gl 90 wj_.spec :=
  contract_of (E := wj_.env) (kn rfl (FnsOK_of ⟨⟨Tryz.func90, Tryz.call90⟩, trivial⟩)) (SpecsOK_of ⟨wA_.contract, wr_.contract, wy_.contract, ww_.contract, wW_.contract, trivial⟩) Tryz.call90 rfl rfl fun K x r h => by
    rw [wj_.body_eq, show wj_.r1 K = wj_.l1 K from funext (wj_.e1 K)]; exact h
def wH_.spec : Dp.Spec := ⟨Kq4, .bool, false, fun K x => wH_ K x.1⟩
def wH_.hint : Dp.Hint := { n := 18, loops := [(3, { regs := [(0, (.int .i64)), (3, (.list (.int .i64))), (4, (.int .i64))] }, [(.exit 0, { regs := [] }), (.ret, { regs := [(2, .bool)] })])] }
noncomputable def wH_.env : Dp.Env := ⟨ti, gl, [], [], [(91, Tryz.f91, wH_.hint)], [], 0, 40⟩
noncomputable def wH_.r0 (K : Nat) : Nat → (((Int) × ((List (Int)) × Jq2)) × (Unit)) → Option (Jq14 ⊕ Jq24) :=
  loopV [(.exit 0, { regs := [] }), (.ret, { regs := [(2, .bool)] })] { regs := [(0, (.int .i64)), (3, (.list (.int .i64))), (4, (.int .i64))] } (interp (wH_.env.at K) wH_.hint (callF (wH_.env.at K) 7) (Code.sub [1, 1, 0, 1, 0, 0] (Tryz.f91.body.getD .skip)) _)
theorem wH_.s0 (K n : Nat) (x : (((Int) × ((List (Int)) × Jq2)) × (Unit))) : wH_.r0 K (n + 1) x = wH_.t0 K (wH_.r0 K n) x := by kernel_rfl
theorem wH_.e0 (K n : Nat) : wH_.r0 K n = wH_.l0 K n := eqR (l := wH_.l0 K) _ (wH_.s0 K) (fun _ _ => rfl) (fun _ => rfl) n
theorem wH_.body_eq (K : Nat) (x : wH_.spec.args.den) : body (wH_.env.at K) 8 91 wH_.spec x = wH_.tr (wH_.r0 K) K x.1 := by kernel_rfl
theorem wH_.contract : Contract Tryz.prog gl 91 wH_.spec :=
  contract_of (E := wH_.env) (kn rfl (FnsOK_of ⟨⟨Tryz.func91, Tryz.call91⟩, trivial⟩)) (SpecsOK_of trivial) Tryz.call91 rfl rfl fun K x r h => by
    rw [wH_.body_eq, show wH_.r0 K = wH_.l0 K from funext (wH_.e0 K)]; exact h
def wP_.spec : Dp.Spec := ⟨(.scons .str (.scons (.int .i64) Kq8)), (.tup Kq8), false, fun K x => wP_ K x.1 x.2.1 x.2.2.1 x.2.2.2.1⟩
def wP_.hint : Dp.Hint := { n := 52, regions := [(1, [(.normal, { regs := [(0, .str), (1, (.int .i64)), (3, (.int .i64)), (22, .bool)] })]), (8, [(.normal, { regs := [(0, .str), (1, (.int .i64)), (3, (.int .i64)), (10, (.int .i64)), (11, (.int .i64)), (12, (.int .i64)), (42, .bool)] })])], loops := [(5, { regs := [(0, .str), (1, (.int .i64)), (3, (.int .i64)), (10, (.int .i64)), (11, (.int .i64))] }, [(.exit 0, { regs := [(3, (.int .i64)), (10, (.int .i64))] }), (.ret, { regs := [(8, (.int .i64)), (9, (.int .i64))] })])] }
noncomputable def wP_.env : Dp.Env := ⟨ti, gl, [], [], [(259, Tryz.f259, wP_.hint)], [(268, wR_.spec)], 0, 40⟩
noncomputable def wP_.r0 (K : Nat) : Nat → (((List UInt8) × ((Int) × Jq25)) × (Unit)) → Option ((Jq6 × (Unit)) ⊕ (Jq6 × (Unit))) :=
  loopV [(.exit 0, { regs := [(3, (.int .i64)), (10, (.int .i64))] }), (.ret, { regs := [(8, (.int .i64)), (9, (.int .i64))] })] { regs := [(0, .str), (1, (.int .i64)), (3, (.int .i64)), (10, (.int .i64)), (11, (.int .i64))] } (interp (wP_.env.at K) wP_.hint (callF (wP_.env.at K) 7) (Code.sub [1, 1, 1, 0, 1, 0, 0] (Tryz.f259.body.getD .skip)) _)
theorem wP_.s0 (K n : Nat) (x : (((List UInt8) × ((Int) × Jq25)) × (Unit))) : wP_.r0 K (n + 1) x = wP_.t0 K (wP_.r0 K n) x := by kernel_rfl
theorem wP_.e0 (K n : Nat) : wP_.r0 K n = wP_.l0 K n := eqR (l := wP_.l0 K) _ (wP_.s0 K) (fun _ _ => rfl) (fun _ => rfl) n
theorem wP_.body_eq (K : Nat) (x : wP_.spec.args.den) : body (wP_.env.at K) 8 259 wP_.spec x = wP_.tr (wP_.r0 K) K x.1 x.2.1 x.2.2.1 x.2.2.2.1 := by kernel_rfl
theorem wP_.contract : Contract Tryz.prog gl 259 wP_.spec :=
  contract_of (E := wP_.env) (kn rfl (FnsOK_of ⟨⟨Tryz.func259, Tryz.call259⟩, trivial⟩)) (SpecsOK_of ⟨wR_.contract, trivial⟩) Tryz.call259 rfl rfl fun K x r h => by
    rw [wP_.body_eq, show wP_.r0 K = wP_.l0 K from funext (wP_.e0 K)]; exact h
def wbY.spec : Dp.Spec := ⟨(.scons .str Kq4), (.tup Kq8), false, fun K x => wbY K x.1 x.2.1⟩
def wbY.hint : Dp.Hint := { n := 11 }
noncomputable def wbY.env : Dp.Env := ⟨ti, gl, [], [], [(213, Tryz.f213, wbY.hint)], [(259, wP_.spec)], 0, 40⟩
theorem wbY.body_eq (K : Nat) (x : wbY.spec.args.den) : body (wbY.env.at K) 8 213 wbY.spec x = wbY K x.1 x.2.1 := by kernel_rfl
theorem wbY.contract : Contract Tryz.prog gl 213 wbY.spec :=
  contract_of (E := wbY.env) (kn rfl (FnsOK_of ⟨⟨Tryz.func213, Tryz.call213⟩, trivial⟩)) (SpecsOK_of ⟨wP_.contract, trivial⟩) Tryz.call213 rfl rfl fun K x r h => by
    rw [wbY.body_eq]; exact h
def w2_.spec : Dp.Spec := ⟨(.scons .str Kq8), (.int .i64), false, fun K x => w2_ K x.1 x.2.1 x.2.2.1⟩
def w2_.hint : Dp.Hint := { n := 32, regions := [(1, [(.normal, { regs := [(0, .str), (1, (.int .i64)), (2, (.int .i64)), (18, .bool)] })])] }
noncomputable def w2_.env : Dp.Env := ⟨ti, gl, [], [], [(163, Tryz.f163, w2_.hint)], [(213, wbY.spec)], 0, 40⟩
theorem w2_.body_eq (K : Nat) (x : w2_.spec.args.den) : body (w2_.env.at K) 8 163 w2_.spec x = w2_ K x.1 x.2.1 x.2.2.1 := by kernel_rfl
theorem w2_.contract : Contract Tryz.prog gl 163 w2_.spec :=
  contract_of (E := w2_.env) (kn rfl (FnsOK_of ⟨⟨Tryz.func163, Tryz.call163⟩, trivial⟩)) (SpecsOK_of ⟨wbY.contract, trivial⟩) Tryz.call163 rfl rfl fun K x r h => by
    rw [w2_.body_eq]; exact h
def w6_.spec : Dp.Spec := ⟨Kq4, .str, false, fun K x => w6_ K x.1⟩
def w6_.hint : Dp.Hint := { n := 9 }
noncomputable def w6_.env : Dp.Env := ⟨ti, gl, [], [], [(211, Tryz.f211, w6_.hint)], [], 0, 40⟩
theorem w6_.body_eq (K : Nat) (x : w6_.spec.args.den) : body (w6_.env.at K) 8 211 w6_.spec x = w6_ K x.1 := by kernel_rfl
theorem w6_.contract : Contract Tryz.prog gl 211 w6_.spec :=
  contract_of (E := w6_.env) (kn rfl (FnsOK_of ⟨⟨Tryz.func211, Tryz.call211⟩, trivial⟩)) (SpecsOK_of trivial) Tryz.call211 rfl rfl fun K x r h => by
    rw [w6_.body_eq]; exact h
def wbI.spec : Dp.Spec := ⟨Kq4, .bool, false, fun K x => wbI K x.1⟩
def wbI.hint : Dp.Hint := { n := 16 }
noncomputable def wbI.env : Dp.Env := ⟨ti, gl, [], [], [(278, Tryz.f278, wbI.hint)], [], 0, 40⟩
theorem wbI.body_eq (K : Nat) (x : wbI.spec.args.den) : body (wbI.env.at K) 8 278 wbI.spec x = wbI K x.1 := by kernel_rfl
theorem wbI.contract : Contract Tryz.prog gl 278 wbI.spec :=
  contract_of (E := wbI.env) (kn rfl (FnsOK_of ⟨⟨Tryz.func278, Tryz.call278⟩, trivial⟩)) (SpecsOK_of trivial) Tryz.call278 rfl rfl fun K x r h => by
    rw [wbI.body_eq]; exact h
def wbo.spec : Dp.Spec := ⟨Kq8, (.int .i64), false, fun K x => wbo K x.1 x.2.1⟩
def wbo.hint : Dp.Hint := { n := 16, regions := [(1, [(.normal, { regs := [(1, (.int .i64)), (10, .bool)] })])] }
noncomputable def wbo.env : Dp.Env := ⟨ti, gl, [], [], [(257, Tryz.f257, wbo.hint)], [(278, wbI.spec)], 0, 40⟩
theorem wbo.body_eq (K : Nat) (x : wbo.spec.args.den) : body (wbo.env.at K) 8 257 wbo.spec x = wbo K x.1 x.2.1 := by kernel_rfl
theorem wbo.contract : Contract Tryz.prog gl 257 wbo.spec :=
  contract_of (E := wbo.env) (kn rfl (FnsOK_of ⟨⟨Tryz.func257, Tryz.call257⟩, trivial⟩)) (SpecsOK_of ⟨wbI.contract, trivial⟩) Tryz.call257 rfl rfl fun K x r h => by
    rw [wbo.body_eq]; exact h
def wbC.spec : Dp.Spec := ⟨Kq4, (.int .i64), false, fun K x => wbC K x.1⟩
def wbC.hint : Dp.Hint := { n := 5 }
noncomputable def wbC.env : Dp.Env := ⟨ti, gl, [], [], [(258, Tryz.f258, wbC.hint)], [(278, wbI.spec)], 0, 40⟩
theorem wbC.body_eq (K : Nat) (x : wbC.spec.args.den) : body (wbC.env.at K) 8 258 wbC.spec x = wbC K x.1 := by kernel_rfl
theorem wbC.contract : Contract Tryz.prog gl 258 wbC.spec :=
  contract_of (E := wbC.env) (kn rfl (FnsOK_of ⟨⟨Tryz.func258, Tryz.call258⟩, trivial⟩)) (SpecsOK_of ⟨wbI.contract, trivial⟩) Tryz.call258 rfl rfl fun K x r h => by
    rw [wbC.body_eq]; exact h
def wm_.spec : Dp.Spec := ⟨(.scons (.int .i64) Kq8), (.tup (.scons (.int .i64) Kq12)), false, fun K x => wm_ K x.1 x.2.1 x.2.2.1⟩
def wm_.hint : Dp.Hint := { n := 58, regions := [(1, [(.normal, { regs := [(0, (.int .i64)), (1, (.int .i64)), (2, (.int .i64)), (35, .bool)] })])], loops := [(5, { regs := [(0, (.int .i64)), (1, (.int .i64)), (8, (.int .i64)), (9, (.int .i64))] }, [(.exit 0, { regs := [(0, (.int .i64)), (1, (.int .i64)), (8, (.int .i64))] })]), (9, { regs := [(0, (.int .i64)), (1, (.int .i64)), (8, (.int .i64)), (10, (.int .i64))] }, [(.exit 2, { regs := [(8, (.int .i64))] })])] }
noncomputable def wm_.env : Dp.Env := ⟨ti, gl, [], [], [(212, Tryz.f212, wm_.hint)], [(257, wbo.spec), (258, wbC.spec)], 0, 40⟩
noncomputable def wm_.r1 (K : Nat) : Nat → (((Int) × Jq25) × (Unit)) → Option (Jq31) :=
  loopV [(.exit 2, { regs := [(8, (.int .i64))] })] { regs := [(0, (.int .i64)), (1, (.int .i64)), (8, (.int .i64)), (10, (.int .i64))] } (interp (wm_.env.at K) wm_.hint (callF (wm_.env.at K) 7) (Code.sub [1, 1, 1, 1, 0, 1, 0, 0] (Tryz.f212.body.getD .skip)) _)
theorem wm_.s1 (K n : Nat) (x : (((Int) × Jq25) × (Unit))) : wm_.r1 K (n + 1) x = wm_.t1 K (wm_.r1 K n) x := by kernel_rfl
theorem wm_.e1 (K n : Nat) : wm_.r1 K n = wm_.l1 K n := eqR (l := wm_.l1 K) _ (wm_.s1 K) (fun _ _ => rfl) (fun _ => rfl) n
noncomputable def wm_.r0 (K : Nat) : Nat → (((Int) × Jq25) × (Unit)) → Option ((Jq25 × (Unit))) :=
  loopV [(.exit 0, { regs := [(0, (.int .i64)), (1, (.int .i64)), (8, (.int .i64))] })] { regs := [(0, (.int .i64)), (1, (.int .i64)), (8, (.int .i64)), (9, (.int .i64))] } (interp (wm_.env.at K) wm_.hint (callF (wm_.env.at K) 7) (Code.sub [1, 1, 1, 0, 1, 0, 0] (Tryz.f212.body.getD .skip)) _)
theorem wm_.s0 (K n : Nat) (x : (((Int) × Jq25) × (Unit))) : wm_.r0 K (n + 1) x = wm_.t0 K (wm_.r0 K n) x := by kernel_rfl
theorem wm_.e0 (K n : Nat) : wm_.r0 K n = wm_.l0 K n := eqR (l := wm_.l0 K) _ (wm_.s0 K) (fun _ _ => rfl) (fun _ => rfl) n
theorem wm_.body_eq (K : Nat) (x : wm_.spec.args.den) : body (wm_.env.at K) 8 212 wm_.spec x = wm_.tr (wm_.r0 K) (wm_.r1 K) K x.1 x.2.1 x.2.2.1 := by kernel_rfl
theorem wm_.contract : Contract Tryz.prog gl 212 wm_.spec :=
  contract_of (E := wm_.env) (kn rfl (FnsOK_of ⟨⟨Tryz.func212, Tryz.call212⟩, trivial⟩)) (SpecsOK_of ⟨wbo.contract, wbC.contract, trivial⟩) Tryz.call212 rfl rfl fun K x r h => by
    rw [wm_.body_eq, show wm_.r0 K = wm_.l0 K from funext (wm_.e0 K), show wm_.r1 K = wm_.l1 K from funext (wm_.e1 K)]; exact h
def wM_.spec : Dp.Spec := ⟨(.scons .str (.scons (.int .i64) (.scons (.int .i64) Kq8))), (.int .i64), false, fun K x => wM_ K x.1 x.2.1 x.2.2.1 x.2.2.2.1 x.2.2.2.2.1⟩
def wM_.hint : Dp.Hint := { n := 92, regions := [(1, [(.normal, { regs := [(0, .str), (1, (.int .i64)), (2, (.int .i64)), (3, (.int .i64)), (4, (.int .i64)), (25, .bool)] })]), (9, [(.normal, { regs := [(12, (.int .i64)), (14, (.int .i64)), (15, (.int .i64)), (16, (.int .i64)), (81, .bool)] })])], loops := [(4, { regs := [(0, .str), (1, (.int .i64)), (2, (.int .i64)), (3, (.int .i64)), (4, (.int .i64)), (11, (.int .i64))] }, [(.exit 0, { regs := [] }), (.ret, { regs := [(10, (.int .i64))] })])] }
noncomputable def wM_.env : Dp.Env := ⟨ti, gl, [], [], [(162, Tryz.f162, wM_.hint)], [(163, w2_.spec), (211, w6_.spec), (212, wm_.spec)], 0, 40⟩
noncomputable def wM_.r0 (K : Nat) : Nat → (((List UInt8) × ((Int) × ((Int) × Jq25))) × (Unit)) → Option (Jq14 ⊕ Jq31) :=
  loopV [(.exit 0, { regs := [] }), (.ret, { regs := [(10, (.int .i64))] })] { regs := [(0, .str), (1, (.int .i64)), (2, (.int .i64)), (3, (.int .i64)), (4, (.int .i64)), (11, (.int .i64))] } (interp (wM_.env.at K) wM_.hint (callF (wM_.env.at K) 7) (Code.sub [1, 1, 0, 1, 0, 0] (Tryz.f162.body.getD .skip)) _)
theorem wM_.s0 (K n : Nat) (x : (((List UInt8) × ((Int) × ((Int) × Jq25))) × (Unit))) : wM_.r0 K (n + 1) x = wM_.t0 K (wM_.r0 K n) x := by kernel_rfl
theorem wM_.e0 (K n : Nat) : wM_.r0 K n = wM_.l0 K n := eqR (l := wM_.l0 K) _ (wM_.s0 K) (fun _ _ => rfl) (fun _ => rfl) n
theorem wM_.body_eq (K : Nat) (x : wM_.spec.args.den) : body (wM_.env.at K) 8 162 wM_.spec x = wM_.tr (wM_.r0 K) K x.1 x.2.1 x.2.2.1 x.2.2.2.1 x.2.2.2.2.1 := by kernel_rfl
theorem wM_.contract : Contract Tryz.prog gl 162 wM_.spec :=
  contract_of (E := wM_.env) (kn rfl (FnsOK_of ⟨⟨Tryz.func162, Tryz.call162⟩, trivial⟩)) (SpecsOK_of ⟨w2_.contract, w6_.contract, wm_.contract, trivial⟩) Tryz.call162 rfl rfl fun K x r h => by
    rw [wM_.body_eq, show wM_.r0 K = wM_.l0 K from funext (wM_.e0 K)]; exact h
def wc_.spec : Dp.Spec := ⟨Kq4, (.tup (.scons (.int .i64) (.scons (.int .i64) (.scons (.int .i64) Kq12)))), false, fun K x => wc_ K x.1⟩
def wc_.hint : Dp.Hint := { n := 40, regions := [(1, [(.normal, { regs := [(0, (.int .i64)), (13, .bool)] })])], loops := [(4, { regs := [(0, (.int .i64)), (6, (.int .i64)), (7, (.int .i64))] }, [(.exit 0, { regs := [(0, (.int .i64)), (6, (.int .i64)), (7, (.int .i64))] })]), (7, { regs := [(0, (.int .i64)), (6, (.int .i64)), (7, (.int .i64))] }, [(.exit 2, { regs := [(0, (.int .i64)), (6, (.int .i64)), (7, (.int .i64))] })])] }
noncomputable def wc_.env : Dp.Env := ⟨ti, gl, [], [], [(214, Tryz.f214, wc_.hint)], [(257, wbo.spec), (258, wbC.spec)], 0, 40⟩
noncomputable def wc_.r1 (K : Nat) : Nat → (Jq25 × (Unit)) → Option ((Jq25 × (Unit))) :=
  loopV [(.exit 2, { regs := [(0, (.int .i64)), (6, (.int .i64)), (7, (.int .i64))] })] { regs := [(0, (.int .i64)), (6, (.int .i64)), (7, (.int .i64))] } (interp (wc_.env.at K) wc_.hint (callF (wc_.env.at K) 7) (Code.sub [1, 1, 1, 1, 0, 0, 0] (Tryz.f214.body.getD .skip)) _)
theorem wc_.s1 (K n : Nat) (x : (Jq25 × (Unit))) : wc_.r1 K (n + 1) x = wc_.t1 K (wc_.r1 K n) x := by kernel_rfl
theorem wc_.e1 (K n : Nat) : wc_.r1 K n = wc_.l1 K n := eqR (l := wc_.l1 K) _ (wc_.s1 K) (fun _ _ => rfl) (fun _ => rfl) n
noncomputable def wc_.r0 (K : Nat) : Nat → (Jq25 × (Unit)) → Option ((Jq25 × (Unit))) :=
  loopV [(.exit 0, { regs := [(0, (.int .i64)), (6, (.int .i64)), (7, (.int .i64))] })] { regs := [(0, (.int .i64)), (6, (.int .i64)), (7, (.int .i64))] } (interp (wc_.env.at K) wc_.hint (callF (wc_.env.at K) 7) (Code.sub [1, 1, 1, 0, 0, 0] (Tryz.f214.body.getD .skip)) _)
theorem wc_.s0 (K n : Nat) (x : (Jq25 × (Unit))) : wc_.r0 K (n + 1) x = wc_.t0 K (wc_.r0 K n) x := by kernel_rfl
theorem wc_.e0 (K n : Nat) : wc_.r0 K n = wc_.l0 K n := eqR (l := wc_.l0 K) _ (wc_.s0 K) (fun _ _ => rfl) (fun _ => rfl) n
theorem wc_.body_eq (K : Nat) (x : wc_.spec.args.den) : body (wc_.env.at K) 8 214 wc_.spec x = wc_.tr (wc_.r0 K) (wc_.r1 K) K x.1 := by kernel_rfl
theorem wc_.contract : Contract Tryz.prog gl 214 wc_.spec :=
  contract_of (E := wc_.env) (kn rfl (FnsOK_of ⟨⟨Tryz.func214, Tryz.call214⟩, trivial⟩)) (SpecsOK_of ⟨wbo.contract, wbC.contract, trivial⟩) Tryz.call214 rfl rfl fun K x r h => by
    rw [wc_.body_eq, show wc_.r0 K = wc_.l0 K from funext (wc_.e0 K), show wc_.r1 K = wc_.l1 K from funext (wc_.e1 K)]; exact h
def w3_.spec : Dp.Spec := ⟨Kq4, (.int .i64), false, fun K x => w3_ K x.1⟩
def w3_.hint : Dp.Hint := { n := 9 }
noncomputable def w3_.env : Dp.Env := ⟨ti, gl, [], [], [(216, Tryz.f216, w3_.hint)], [], 0, 40⟩
theorem w3_.body_eq (K : Nat) (x : w3_.spec.args.den) : body (w3_.env.at K) 8 216 w3_.spec x = w3_ K x.1 := by kernel_rfl
theorem w3_.contract : Contract Tryz.prog gl 216 w3_.spec :=
  contract_of (E := w3_.env) (kn rfl (FnsOK_of ⟨⟨Tryz.func216, Tryz.call216⟩, trivial⟩)) (SpecsOK_of trivial) Tryz.call216 rfl rfl fun K x r h => by
    rw [w3_.body_eq]; exact h
def wbK.spec : Dp.Spec := ⟨Kq4, .str, false, fun K x => wbK K x.1⟩
def wbK.hint : Dp.Hint := { n := 7 }
noncomputable def wbK.env : Dp.Env := ⟨ti, gl, [], [], [(215, Tryz.f215, wbK.hint)], [], 0, 40⟩
theorem wbK.body_eq (K : Nat) (x : wbK.spec.args.den) : body (wbK.env.at K) 8 215 wbK.spec x = wbK K x.1 := by kernel_rfl
theorem wbK.contract : Contract Tryz.prog gl 215 wbK.spec :=
  contract_of (E := wbK.env) (kn rfl (FnsOK_of ⟨⟨Tryz.func215, Tryz.call215⟩, trivial⟩)) (SpecsOK_of trivial) Tryz.call215 rfl rfl fun K x r h => by
    rw [wbK.body_eq]; exact h
def wt_.spec : Dp.Spec := ⟨(.scons (.int .u64) (.scons (.int .u64) .snil)), .str, false, fun K x => wt_ K x.1 x.2.1⟩
def wt_.hint : Dp.Hint := { n := 31, loops := [(3, { regs := [(0, (.int .u64)), (1, (.int .u64)), (5, .str), (6, .str)] }, [(.exit 0, { regs := [(0, (.int .u64)), (5, .str), (6, .str)] })])] }
noncomputable def wt_.env : Dp.Env := ⟨ti, gl, [], [], [(260, Tryz.f260, wt_.hint)], [], 0, 40⟩
noncomputable def wt_.r0 (K : Nat) : Nat → (((Int) × ((Int) × Jq7)) × (Unit)) → Option ((((Int) × Jq7) × (Unit))) :=
  loopV [(.exit 0, { regs := [(0, (.int .u64)), (5, .str), (6, .str)] })] { regs := [(0, (.int .u64)), (1, (.int .u64)), (5, .str), (6, .str)] } (interp (wt_.env.at K) wt_.hint (callF (wt_.env.at K) 7) (Code.sub [1, 1, 1, 0, 0, 0] (Tryz.f260.body.getD .skip)) _)
theorem wt_.s0 (K n : Nat) (x : (((Int) × ((Int) × Jq7)) × (Unit))) : wt_.r0 K (n + 1) x = wt_.t0 K (wt_.r0 K n) x := by kernel_rfl
theorem wt_.e0 (K n : Nat) : wt_.r0 K n = wt_.l0 K n := eqR (l := wt_.l0 K) _ (wt_.s0 K) (fun _ _ => rfl) (fun _ => rfl) n
theorem wt_.body_eq (K : Nat) (x : wt_.spec.args.den) : body (wt_.env.at K) 8 260 wt_.spec x = wt_.tr (wt_.r0 K) K x.1 x.2.1 := by kernel_rfl
theorem wt_.contract : Contract Tryz.prog gl 260 wt_.spec :=
  contract_of (E := wt_.env) (kn rfl (FnsOK_of ⟨⟨Tryz.func260, Tryz.call260⟩, trivial⟩)) (SpecsOK_of trivial) Tryz.call260 rfl rfl fun K x r h => by
    rw [wt_.body_eq, show wt_.r0 K = wt_.l0 K from funext (wt_.e0 K)]; exact h
def wbm.spec : Dp.Spec := ⟨Kq4, .str, false, fun K x => wbm K x.1⟩
def wbm.hint : Dp.Hint := { n := 13 }
noncomputable def wbm.env : Dp.Env := ⟨ti, gl, [], [], [(219, Tryz.f219, wbm.hint)], [(260, wt_.spec)], 0, 40⟩
theorem wbm.body_eq (K : Nat) (x : wbm.spec.args.den) : body (wbm.env.at K) 8 219 wbm.spec x = wbm K x.1 := by kernel_rfl
theorem wbm.contract : Contract Tryz.prog gl 219 wbm.spec :=
  contract_of (E := wbm.env) (kn rfl (FnsOK_of ⟨⟨Tryz.func219, Tryz.call219⟩, trivial⟩)) (SpecsOK_of ⟨wt_.contract, trivial⟩) Tryz.call219 rfl rfl fun K x r h => by
    rw [wbm.body_eq]; exact h
def wv_.spec : Dp.Spec := ⟨Kq8, .str, false, fun K x => wv_ K x.1 x.2.1⟩
def wv_.hint : Dp.Hint := { n := 22, regions := [(2, [(.normal, { regs := [(1, (.int .i64)), (5, .str), (13, .bool)] })])], loops := [(4, { regs := [(1, (.int .i64)), (5, .str)] }, [(.exit 0, { regs := [(5, .str)] })])] }
noncomputable def wv_.env : Dp.Env := ⟨ti, gl, [], [], [(217, Tryz.f217, wv_.hint)], [(219, wbm.spec)], 0, 40⟩
noncomputable def wv_.r0 (K : Nat) : Nat → (((Int) × Jq3) × (Unit)) → Option (Jq26) :=
  loopV [(.exit 0, { regs := [(5, .str)] })] { regs := [(1, (.int .i64)), (5, .str)] } (interp (wv_.env.at K) wv_.hint (callF (wv_.env.at K) 7) (Code.sub [1, 1, 1, 0, 0, 0] (Tryz.f217.body.getD .skip)) _)
theorem wv_.s0 (K n : Nat) (x : (((Int) × Jq3) × (Unit))) : wv_.r0 K (n + 1) x = wv_.t0 K (wv_.r0 K n) x := by kernel_rfl
theorem wv_.e0 (K n : Nat) : wv_.r0 K n = wv_.l0 K n := eqR (l := wv_.l0 K) _ (wv_.s0 K) (fun _ _ => rfl) (fun _ => rfl) n
theorem wv_.body_eq (K : Nat) (x : wv_.spec.args.den) : body (wv_.env.at K) 8 217 wv_.spec x = wv_.tr (wv_.r0 K) K x.1 x.2.1 := by kernel_rfl
theorem wv_.contract : Contract Tryz.prog gl 217 wv_.spec :=
  contract_of (E := wv_.env) (kn rfl (FnsOK_of ⟨⟨Tryz.func217, Tryz.call217⟩, trivial⟩)) (SpecsOK_of ⟨wbm.contract, trivial⟩) Tryz.call217 rfl rfl fun K x r h => by
    rw [wv_.body_eq, show wv_.r0 K = wv_.l0 K from funext (wv_.e0 K)]; exact h
def wbj.spec : Dp.Spec := ⟨Kq4, .str, false, fun K x => wbj K x.1⟩
def wbj.hint : Dp.Hint := { n := 20 }
noncomputable def wbj.env : Dp.Env := ⟨ti, gl, [], [], [(218, Tryz.f218, wbj.hint)], [(217, wv_.spec)], 0, 40⟩
theorem wbj.body_eq (K : Nat) (x : wbj.spec.args.den) : body (wbj.env.at K) 8 218 wbj.spec x = wbj K x.1 := by kernel_rfl
theorem wbj.contract : Contract Tryz.prog gl 218 wbj.spec :=
  contract_of (E := wbj.env) (kn rfl (FnsOK_of ⟨⟨Tryz.func218, Tryz.call218⟩, trivial⟩)) (SpecsOK_of ⟨wv_.contract, trivial⟩) Tryz.call218 rfl rfl fun K x r h => by
    rw [wbj.body_eq]; exact h
def wbf.spec : Dp.Spec := ⟨Kq4, .str, false, fun K x => wbf K x.1⟩
def wbf.hint : Dp.Hint := { n := 43, regions := [(1, [(.normal, { regs := [(0, (.int .i64)), (12, .bool)] })])] }
noncomputable def wbf.env : Dp.Env := ⟨ti, gl, [], [], [(164, Tryz.f164, wbf.hint)], [(211, w6_.spec), (214, wc_.spec), (216, w3_.spec), (215, wbK.spec), (217, wv_.spec), (218, wbj.spec)], 0, 40⟩
theorem wbf.body_eq (K : Nat) (x : wbf.spec.args.den) : body (wbf.env.at K) 8 164 wbf.spec x = wbf K x.1 := by kernel_rfl
theorem wbf.contract : Contract Tryz.prog gl 164 wbf.spec :=
  contract_of (E := wbf.env) (kn rfl (FnsOK_of ⟨⟨Tryz.func164, Tryz.call164⟩, trivial⟩)) (SpecsOK_of ⟨w6_.contract, wc_.contract, w3_.contract, wbK.contract, wv_.contract, wbj.contract, trivial⟩) Tryz.call164 rfl rfl fun K x r h => by
    rw [wbf.body_eq]; exact h
def wbJ.spec : Dp.Spec := ⟨Kq4, .str, false, fun K x => wbJ K x.1⟩
def wbJ.hint : Dp.Hint := { n := 43, regions := [(1, [(.normal, { regs := [(0, (.int .i64)), (12, .bool)] })])] }
noncomputable def wbJ.env : Dp.Env := ⟨ti, gl, [], [], [(165, Tryz.f165, wbJ.hint)], [(211, w6_.spec), (214, wc_.spec), (216, w3_.spec), (215, wbK.spec), (217, wv_.spec), (218, wbj.spec)], 0, 40⟩
theorem wbJ.body_eq (K : Nat) (x : wbJ.spec.args.den) : body (wbJ.env.at K) 8 165 wbJ.spec x = wbJ K x.1 := by kernel_rfl
theorem wbJ.contract : Contract Tryz.prog gl 165 wbJ.spec :=
  contract_of (E := wbJ.env) (kn rfl (FnsOK_of ⟨⟨Tryz.func165, Tryz.call165⟩, trivial⟩)) (SpecsOK_of ⟨w6_.contract, wc_.contract, w3_.contract, wbK.contract, wv_.contract, wbj.contract, trivial⟩) Tryz.call165 rfl rfl fun K x r h => by
    rw [wbJ.body_eq]; exact h
def wbk.spec : Dp.Spec := ⟨Kq4, .str, false, fun K x => wbk K x.1⟩
def wbk.hint : Dp.Hint := { n := 48, conds := [(25, [(.normal, { regs := [(0, (.int .i64)), (3, (.int .i64)), (4, (.int .i64)), (7, .str)] })])], regions := [(1, [(.normal, { regs := [(0, (.int .i64)), (13, .bool)] })])] }
noncomputable def wbk.env : Dp.Env := ⟨ti, gl, [], [], [(166, Tryz.f166, wbk.hint)], [(211, w6_.spec), (214, wc_.spec), (216, w3_.spec), (215, wbK.spec), (219, wbm.spec), (217, wv_.spec), (218, wbj.spec)], 0, 40⟩
theorem wbk.body_eq (K : Nat) (x : wbk.spec.args.den) : body (wbk.env.at K) 8 166 wbk.spec x = wbk K x.1 := by kernel_rfl
theorem wbk.contract : Contract Tryz.prog gl 166 wbk.spec :=
  contract_of (E := wbk.env) (kn rfl (FnsOK_of ⟨⟨Tryz.func166, Tryz.call166⟩, trivial⟩)) (SpecsOK_of ⟨w6_.contract, wc_.contract, w3_.contract, wbK.contract, wbm.contract, wv_.contract, wbj.contract, trivial⟩) Tryz.call166 rfl rfl fun K x r h => by
    rw [wbk.body_eq]; exact h
def wL_.spec : Dp.Spec := ⟨Kq3, (.tup Kq8), false, fun K x => wL_ K x.1⟩
def wL_.hint : Dp.Hint := { n := 87, conds := [(42, [(.normal, { regs := [(0, .str), (5, (.int .i64)), (6, (.int .i64))] })]), (70, [(.normal, { regs := [(0, .str), (8, (.int .i64))] })])], regions := [(2, [(.normal, { regs := [(0, .str), (4, (.int .i64)), (23, .bool)] })]), (5, [(.normal, { regs := [(0, .str), (5, (.int .i64)), (34, .bool)] })]), (12, [(.normal, { regs := [(0, .str), (7, (.int .i64)), (65, .bool)] })]), (18, [(.normal, { regs := [(9, (.int .i64)), (85, .bool)] })])], loops := [(5, { regs := [(0, .str), (5, (.int .i64))] }, [(.exit 0, { regs := [(0, .str), (5, (.int .i64))] })])] }
noncomputable def wL_.env : Dp.Env := ⟨ti, gl, [], [], [(116, Tryz.f116, wL_.hint)], [(163, w2_.spec), (162, wM_.spec), (164, wbf.spec), (165, wbJ.spec), (166, wbk.spec)], 0, 40⟩
noncomputable def wL_.r0 (K : Nat) : Nat → Jq36 → Option (Jq36) :=
  loopV [(.exit 0, { regs := [(0, .str), (5, (.int .i64))] })] { regs := [(0, .str), (5, (.int .i64))] } (interp (wL_.env.at K) wL_.hint (callF (wL_.env.at K) 7) (Code.sub [1, 1, 1, 0, 0, 0] (Tryz.f116.body.getD .skip)) _)
theorem wL_.s0 (K n : Nat) (x : Jq36) : wL_.r0 K (n + 1) x = wL_.t0 K (wL_.r0 K n) x := by kernel_rfl
theorem wL_.e0 (K n : Nat) : wL_.r0 K n = wL_.l0 K n := eqR (l := wL_.l0 K) _ (wL_.s0 K) (fun _ _ => rfl) (fun _ => rfl) n
theorem wL_.body_eq (K : Nat) (x : wL_.spec.args.den) : body (wL_.env.at K) 8 116 wL_.spec x = wL_.tr (wL_.r0 K) K x.1 := by kernel_rfl
theorem wL_.contract : Contract Tryz.prog gl 116 wL_.spec :=
  contract_of (E := wL_.env) (kn rfl (FnsOK_of ⟨⟨Tryz.func116, Tryz.call116⟩, trivial⟩)) (SpecsOK_of ⟨w2_.contract, wM_.contract, wbf.contract, wbJ.contract, wbk.contract, trivial⟩) Tryz.call116 rfl rfl fun K x r h => by
    rw [wL_.body_eq, show wL_.r0 K = wL_.l0 K from funext (wL_.e0 K)]; exact h
def wbs.spec : Dp.Spec := ⟨(.scons (.list Kq5) Kq3), (.tup (.scons (.int .i64) Kq12)), false, fun K x => wbs K x.1 x.2.1⟩
def wbs.hint : Dp.Hint := { n := 25 }
noncomputable def wbs.env : Dp.Env := ⟨ti, gl, [], [], [(57, Tryz.f57, wbs.hint)], [(74, wr_.spec), (116, wL_.spec)], 0, 40⟩
theorem wbs.body_eq (K : Nat) (x : wbs.spec.args.den) : body (wbs.env.at K) 8 57 wbs.spec x = wbs K x.1 x.2.1 := by kernel_rfl
theorem wbs.contract : Contract Tryz.prog gl 57 wbs.spec :=
  contract_of (E := wbs.env) (kn rfl (FnsOK_of ⟨⟨Tryz.func57, Tryz.call57⟩, trivial⟩)) (SpecsOK_of ⟨wr_.contract, wL_.contract, trivial⟩) Tryz.call57 rfl rfl fun K x r h => by
    rw [wbs.body_eq]; exact h
def wbb.spec : Dp.Spec := ⟨(.scons Kq6 .snil), .bool, false, fun K x => wbb K x.1⟩
def wbb.hint : Dp.Hint := { n := 22, imm := [1] }
noncomputable def wbb.env : Dp.Env := ⟨ti, gl, [], [], [(40, Tryz.f40, wbb.hint)], [(34, wcj.spec), (57, wbs.spec)], 0, 40⟩
theorem wbb.body_eq (K : Nat) (x : wbb.spec.args.den) : body (wbb.env.at K) 8 40 wbb.spec x = wbb K x.1 := by kernel_rfl
theorem wbb.contract : Contract Tryz.prog gl 40 wbb.spec :=
  contract_of (E := wbb.env) (kn rfl (FnsOK_of ⟨⟨Tryz.func40, Tryz.call40⟩, trivial⟩)) (SpecsOK_of ⟨wcj.contract, wbs.contract, trivial⟩) Tryz.call40 rfl rfl fun K x r h => by
    rw [wbb.body_eq]; exact h
def wbT.spec : Dp.Spec := ⟨(.scons Kq2 .snil), (.int .i64), false, fun K x => wbT K x.1⟩
def wbT.hint : Dp.Hint := { n := 16, imm := [1] }
noncomputable def wbT.env : Dp.Env := ⟨ti, gl, [], [], [(146, Tryz.f146, wbT.hint)], [(57, wbs.spec)], 0, 40⟩
theorem wbT.body_eq (K : Nat) (x : wbT.spec.args.den) : body (wbT.env.at K) 8 146 wbT.spec x = wbT K x.1 := by kernel_rfl
theorem wbT.contract : Contract Tryz.prog gl 146 wbT.spec :=
  contract_of (E := wbT.env) (kn rfl (FnsOK_of ⟨⟨Tryz.func146, Tryz.call146⟩, trivial⟩)) (SpecsOK_of ⟨wbs.contract, trivial⟩) Tryz.call146 rfl rfl fun K x r h => by
    rw [wbT.body_eq]; exact h
def wb1.spec : Dp.Spec := ⟨Kq4, (.int .i64), false, fun K x => wb1 K x.1⟩
def wb1.hint : Dp.Hint := { n := 6 }
noncomputable def wb1.env : Dp.Env := ⟨ti, gl, [], [], [(184, Tryz.f184, wb1.hint)], [], 0, 40⟩
theorem wb1.body_eq (K : Nat) (x : wb1.spec.args.den) : body (wb1.env.at K) 8 184 wb1.spec x = wb1 K x.1 := by kernel_rfl
theorem wb1.contract : Contract Tryz.prog gl 184 wb1.spec :=
  contract_of (E := wb1.env) (kn rfl (FnsOK_of ⟨⟨Tryz.func184, Tryz.call184⟩, trivial⟩)) (SpecsOK_of trivial) Tryz.call184 rfl rfl fun K x r h => by
    rw [wb1.body_eq]; exact h
def wbu.spec : Dp.Spec := ⟨Kq8, (.int .i64), false, fun K x => wbu K x.1 x.2.1⟩
def wbu.hint : Dp.Hint := { n := 12 }
noncomputable def wbu.env : Dp.Env := ⟨ti, gl, [], [], [(145, Tryz.f145, wbu.hint)], [(184, wb1.spec)], 0, 40⟩
theorem wbu.body_eq (K : Nat) (x : wbu.spec.args.den) : body (wbu.env.at K) 8 145 wbu.spec x = wbu K x.1 x.2.1 := by kernel_rfl
theorem wbu.contract : Contract Tryz.prog gl 145 wbu.spec :=
  contract_of (E := wbu.env) (kn rfl (FnsOK_of ⟨⟨Tryz.func145, Tryz.call145⟩, trivial⟩)) (SpecsOK_of ⟨wb1.contract, trivial⟩) Tryz.call145 rfl rfl fun K x r h => by
    rw [wbu.body_eq]; exact h
def wbl.spec : Dp.Spec := ⟨(.scons Kq2 .snil), (.int .i64), false, fun K x => wbl K x.1⟩
def wbl.hint : Dp.Hint := { n := 63, regions := [(12, [(.normal, { regs := [(1, (.ref Kq2)), (6, (.int .i64)), (56, .bool)], heap := [Kq0] })])], imm := [1] }
noncomputable def wbl.env : Dp.Env := ⟨ti, gl, [], [], [(142, Tryz.f142, wbl.hint)], [(74, wr_.spec), (88, wbe.spec), (91, wH_.spec), (57, wbs.spec), (146, wbT.spec), (145, wbu.spec)], 0, 40⟩
theorem wbl.body_eq (K : Nat) (x : wbl.spec.args.den) : body (wbl.env.at K) 8 142 wbl.spec x = wbl K x.1 := by kernel_rfl
theorem wbl.contract : Contract Tryz.prog gl 142 wbl.spec :=
  contract_of (E := wbl.env) (kn rfl (FnsOK_of ⟨⟨Tryz.func142, Tryz.call142⟩, trivial⟩)) (SpecsOK_of ⟨wr_.contract, wbe.contract, wH_.contract, wbs.contract, wbT.contract, wbu.contract, trivial⟩) Tryz.call142 rfl rfl fun K x r h => by
    rw [wbl.body_eq]; exact h
def wn_.spec : Dp.Spec := ⟨(.scons Kq6 .snil), (.int .i64), false, fun K x => wn_ K x.1⟩
def wn_.hint : Dp.Hint := { n := 46, loops := [(4, { regs := [(3, (.int .i64)), (4, (.list .str)), (5, (.int .i64))] }, [(.exit 0, { regs := [(3, (.int .i64))] })]), (8, { regs := [(3, (.int .i64)), (4, (.list .str)), (5, (.int .i64)), (6, (.list .str)), (8, (.int .i64))] }, [(.exit 2, { regs := [(3, (.int .i64)), (4, (.list .str)), (5, (.int .i64))] })])], imm := [1] }
noncomputable def wn_.env : Dp.Env := ⟨ti, gl, [], [], [(144, Tryz.f144, wn_.hint)], [(74, wr_.spec), (138, wy_.spec), (179, ws_.spec)], 0, 40⟩
noncomputable def wn_.r0 (K : Nat) : Nat → (((Int) × Jq27) × (Unit)) → Option ((((Int) × Jq10) × (Unit))) :=
  loopV [(.exit 2, { regs := [(3, (.int .i64)), (4, (.list .str)), (5, (.int .i64))] })] { regs := [(3, (.int .i64)), (4, (.list .str)), (5, (.int .i64)), (6, (.list .str)), (8, (.int .i64))] } (interp (wn_.env.at K) wn_.hint (callF (wn_.env.at K) 7) (Code.sub [1, 1, 1, 0, 1, 0, 0, 1, 0, 0, 1, 1, 0, 0] (Tryz.f144.body.getD .skip)) _)
theorem wn_.s0 (K n : Nat) (x : (((Int) × Jq27) × (Unit))) : wn_.r0 K (n + 1) x = wn_.t0 K (wn_.r0 K n) x := by kernel_rfl
theorem wn_.e0 (K n : Nat) : wn_.r0 K n = wn_.l0 K n := eqR (l := wn_.l0 K) _ (wn_.s0 K) (fun _ _ => rfl) (fun _ => rfl) n
noncomputable def wn_.r1 (K : Nat) : Nat → (((Int) × Jq10) × (Unit)) → Option (Jq31) :=
  loopV [(.exit 0, { regs := [(3, (.int .i64))] })] { regs := [(3, (.int .i64)), (4, (.list .str)), (5, (.int .i64))] } (interp (wn_.env.at K) wn_.hint (callF (wn_.env.at K) 7) (Code.sub [1, 1, 1, 0, 1, 0, 0] (Tryz.f144.body.getD .skip)) _)
theorem wn_.s1 (K n : Nat) (x : (((Int) × Jq10) × (Unit))) : wn_.r1 K (n + 1) x = wn_.t1 (wn_.r0 K) K (wn_.r1 K n) x := by kernel_rfl
theorem wn_.e1 (K n : Nat) : wn_.r1 K n = wn_.l1 K n := by
  induction n with
  | zero => funext x; rfl
  | succ n ih => funext x; rw [wn_.s1, ih, show wn_.r0 K = wn_.l0 K from funext (wn_.e0 K)]; rfl
theorem wn_.body_eq (K : Nat) (x : wn_.spec.args.den) : body (wn_.env.at K) 8 144 wn_.spec x = wn_.tr (wn_.r1 K) K x.1 := by kernel_rfl
theorem wn_.contract : Contract Tryz.prog gl 144 wn_.spec :=
  contract_of (E := wn_.env) (kn rfl (FnsOK_of ⟨⟨Tryz.func144, Tryz.call144⟩, trivial⟩)) (SpecsOK_of ⟨wr_.contract, wy_.contract, ws_.contract, trivial⟩) Tryz.call144 rfl rfl fun K x r h => by
    rw [wn_.body_eq, show wn_.r1 K = wn_.l1 K from funext (wn_.e1 K)]; exact h
def wbt.spec : Dp.Spec := ⟨Kq4, (.int .i64), false, fun K x => wbt K x.1⟩
def wbt.hint : Dp.Hint := { n := 6 }
noncomputable def wbt.env : Dp.Env := ⟨ti, gl, [], [], [(183, Tryz.f183, wbt.hint)], [], 0, 40⟩
theorem wbt.body_eq (K : Nat) (x : wbt.spec.args.den) : body (wbt.env.at K) 8 183 wbt.spec x = wbt K x.1 := by kernel_rfl
theorem wbt.contract : Contract Tryz.prog gl 183 wbt.spec :=
  contract_of (E := wbt.env) (kn rfl (FnsOK_of ⟨⟨Tryz.func183, Tryz.call183⟩, trivial⟩)) (SpecsOK_of trivial) Tryz.call183 rfl rfl fun K x r h => by
    rw [wbt.body_eq]; exact h
def wcs.spec : Dp.Spec := ⟨Kq8, (.int .i64), false, fun K x => wcs K x.1 x.2.1⟩
def wcs.hint : Dp.Hint := { n := 11 }
noncomputable def wcs.env : Dp.Env := ⟨ti, gl, [], [], [(143, Tryz.f143, wcs.hint)], [(183, wbt.spec)], 0, 40⟩
theorem wcs.body_eq (K : Nat) (x : wcs.spec.args.den) : body (wcs.env.at K) 8 143 wcs.spec x = wcs K x.1 x.2.1 := by kernel_rfl
theorem wcs.contract : Contract Tryz.prog gl 143 wcs.spec :=
  contract_of (E := wcs.env) (kn rfl (FnsOK_of ⟨⟨Tryz.func143, Tryz.call143⟩, trivial⟩)) (SpecsOK_of ⟨wbt.contract, trivial⟩) Tryz.call143 rfl rfl fun K x r h => by
    rw [wcs.body_eq]; exact h
def wbR.spec : Dp.Spec := ⟨(.scons Kq2 Kq4), (.int .i64), false, fun K x => wbR K x.1 x.2.1⟩
def wbR.hint : Dp.Hint := { n := 19, imm := [2] }
noncomputable def wbR.env : Dp.Env := ⟨ti, gl, [], [], [(99, Tryz.f99, wbR.hint)], [(146, wbT.spec), (145, wbu.spec), (144, wn_.spec), (143, wcs.spec)], 0, 40⟩
theorem wbR.body_eq (K : Nat) (x : wbR.spec.args.den) : body (wbR.env.at K) 8 99 wbR.spec x = wbR K x.1 x.2.1 := by kernel_rfl
theorem wbR.contract : Contract Tryz.prog gl 99 wbR.spec :=
  contract_of (E := wbR.env) (kn rfl (FnsOK_of ⟨⟨Tryz.func99, Tryz.call99⟩, trivial⟩)) (SpecsOK_of ⟨wbT.contract, wbu.contract, wn_.contract, wcs.contract, trivial⟩) Tryz.call99 rfl rfl fun K x r h => by
    rw [wbR.body_eq]; exact h
def wca.spec : Dp.Spec := ⟨(.scons Kq2 Kq4), .bool, false, fun K x => wca K x.1 x.2.1⟩
def wca.hint : Dp.Hint := { n := 11, imm := [2] }
noncomputable def wca.env : Dp.Env := ⟨ti, gl, [], [], [(92, Tryz.f92, wca.hint)], [(142, wbl.spec), (99, wbR.spec)], 0, 40⟩
theorem wca.body_eq (K : Nat) (x : wca.spec.args.den) : body (wca.env.at K) 8 92 wca.spec x = wca K x.1 x.2.1 := by kernel_rfl
theorem wca.contract : Contract Tryz.prog gl 92 wca.spec :=
  contract_of (E := wca.env) (kn rfl (FnsOK_of ⟨⟨Tryz.func92, Tryz.call92⟩, trivial⟩)) (SpecsOK_of ⟨wbl.contract, wbR.contract, trivial⟩) Tryz.call92 rfl rfl fun K x r h => by
    rw [wca.body_eq]; exact h
def wbB.spec : Dp.Spec := ⟨(.scons Kq11 (.scons Kq6 Kq4)), .bool, false, fun K x => wbB K x.1 x.2.1 x.2.2.1⟩
def wbB.hint : Dp.Hint := { n := 102, regions := [(1, [(.normal, { regs := [(2, (.int .i64)), (3, (.ref Kq11)), (4, (.ref Kq6)), (22, .bool)] })]), (4, [(.normal, { regs := [(2, (.int .i64)), (3, (.ref Kq11)), (4, (.ref Kq6)), (7, (.loc 0 false [])), (41, .bool)], heap := [Kq0] })]), (6, [(.normal, { regs := [(2, (.int .i64)), (4, (.ref Kq6)), (7, (.loc 0 false [])), (59, .bool)], heap := [Kq0] })]), (11, [(.normal, { regs := [(2, (.int .i64)), (4, (.ref Kq6)), (92, .bool)], heap := [Kq0] })])], imm := [3, 4] }
noncomputable def wbB.env : Dp.Env := ⟨ti, gl, [], [], [(36, Tryz.f36, wbB.hint)], [(89, wbL.spec), (38, wby.spec), (88, wbe.spec), (87, wbM.spec), (90, wj_.spec), (91, wH_.spec), (40, wbb.spec), (92, wca.spec)], 0, 40⟩
theorem wbB.body_eq (K : Nat) (x : wbB.spec.args.den) : body (wbB.env.at K) 8 36 wbB.spec x = wbB K x.1 x.2.1 x.2.2.1 := by kernel_rfl
theorem wbB.contract : Contract Tryz.prog gl 36 wbB.spec :=
  contract_of (E := wbB.env) (kn rfl (FnsOK_of ⟨⟨Tryz.func36, Tryz.call36⟩, trivial⟩)) (SpecsOK_of ⟨wbL.contract, wby.contract, wbe.contract, wbM.contract, wj_.contract, wH_.contract, wbb.contract, wca.contract, trivial⟩) Tryz.call36 rfl rfl fun K x r h => by
    rw [wbB.body_eq]; exact h
def wcn.spec : Dp.Spec := ⟨Kq3, .bool, false, fun K x => wcn K x.1⟩
def wcn.hint : Dp.Hint := { n := 17 }
noncomputable def wcn.env : Dp.Env := ⟨ti, gl, [], [], [(94, Tryz.f94, wcn.hint)], [], 0, 40⟩
theorem wcn.body_eq (K : Nat) (x : wcn.spec.args.den) : body (wcn.env.at K) 8 94 wcn.spec x = wcn K x.1 := by kernel_rfl
theorem wcn.contract : Contract Tryz.prog gl 94 wcn.spec :=
  contract_of (E := wcn.env) (kn rfl (FnsOK_of ⟨⟨Tryz.func94, Tryz.call94⟩, trivial⟩)) (SpecsOK_of trivial) Tryz.call94 rfl rfl fun K x r h => by
    rw [wcn.body_eq]; exact h
def wbi.spec : Dp.Spec := ⟨(.scons Kq11 (.scons Kq6 .snil)), .bool, false, fun K x => wbi K x.1 x.2.1⟩
def wbi.hint : Dp.Hint := { n := 19, imm := [2, 3] }
noncomputable def wbi.env : Dp.Env := ⟨ti, gl, [], [], [(42, Tryz.f42, wbi.hint)], [(94, wcn.spec)], 0, 40⟩
theorem wbi.body_eq (K : Nat) (x : wbi.spec.args.den) : body (wbi.env.at K) 8 42 wbi.spec x = wbi K x.1 x.2.1 := by kernel_rfl
theorem wbi.contract : Contract Tryz.prog gl 42 wbi.spec :=
  contract_of (E := wbi.env) (kn rfl (FnsOK_of ⟨⟨Tryz.func42, Tryz.call42⟩, trivial⟩)) (SpecsOK_of ⟨wcn.contract, trivial⟩) Tryz.call42 rfl rfl fun K x r h => by
    rw [wbi.body_eq]; exact h
def wbQ.spec : Dp.Spec := ⟨(.scons Kq11 (.scons Kq6 Kq4)), .bool, false, fun K x => wbQ K x.1 x.2.1 x.2.2.1⟩
def wbQ.hint : Dp.Hint := { n := 75, regions := [(1, [(.normal, { regs := [(2, (.int .i64)), (3, (.ref Kq11)), (4, (.ref Kq6)), (18, .bool)] })])], imm := [3, 4] }
noncomputable def wbQ.env : Dp.Env := ⟨ti, gl, [], [], [(7, Tryz.f7, wbQ.hint)], [(11, wF_.spec), (12, wN_.spec), (30, wcH.spec), (37, wb3.spec), (39, w7_.spec), (35, w4_.spec), (41, wbq.spec), (33, w1_.spec), (34, wcj.spec), (38, wby.spec), (40, wbb.spec), (36, wbB.spec), (42, wbi.spec)], 0, 40⟩
theorem wbQ.body_eq (K : Nat) (x : wbQ.spec.args.den) : body (wbQ.env.at K) 8 7 wbQ.spec x = wbQ K x.1 x.2.1 x.2.2.1 := by kernel_rfl
theorem wbQ.contract : Contract Tryz.prog gl 7 wbQ.spec :=
  contract_of (E := wbQ.env) (kn rfl (FnsOK_of ⟨⟨Tryz.func7, Tryz.call7⟩, trivial⟩)) (SpecsOK_of ⟨wF_.contract, wN_.contract, wcH.contract, wb3.contract, w7_.contract, w4_.contract, wbq.contract, w1_.contract, wcj.contract, wby.contract, wbb.contract, wbB.contract, wbi.contract, trivial⟩) Tryz.call7 rfl rfl fun K x r h => by
    rw [wbQ.body_eq]; exact h
def wco.spec : Dp.Spec := ⟨Kq8, (.int .i64), false, fun K x => wco K x.1 x.2.1⟩
def wco.hint : Dp.Hint := { n := 11 }
noncomputable def wco.env : Dp.Env := ⟨ti, gl, [], [], [(147, Tryz.f147, wco.hint)], [(183, wbt.spec)], 0, 40⟩
theorem wco.body_eq (K : Nat) (x : wco.spec.args.den) : body (wco.env.at K) 8 147 wco.spec x = wco K x.1 x.2.1 := by kernel_rfl
theorem wco.contract : Contract Tryz.prog gl 147 wco.spec :=
  contract_of (E := wco.env) (kn rfl (FnsOK_of ⟨⟨Tryz.func147, Tryz.call147⟩, trivial⟩)) (SpecsOK_of ⟨wbt.contract, trivial⟩) Tryz.call147 rfl rfl fun K x r h => by
    rw [wco.body_eq]; exact h
def wcm.spec : Dp.Spec := ⟨(.scons Kq2 Kq4), (.int .i64), false, fun K x => wcm K x.1 x.2.1⟩
def wcm.hint : Dp.Hint := { n := 11, imm := [2] }
noncomputable def wcm.env : Dp.Env := ⟨ti, gl, [], [], [(100, Tryz.f100, wcm.hint)], [(142, wbl.spec), (99, wbR.spec), (147, wco.spec)], 0, 40⟩
theorem wcm.body_eq (K : Nat) (x : wcm.spec.args.den) : body (wcm.env.at K) 8 100 wcm.spec x = wcm K x.1 x.2.1 := by kernel_rfl
theorem wcm.contract : Contract Tryz.prog gl 100 wcm.spec :=
  contract_of (E := wcm.env) (kn rfl (FnsOK_of ⟨⟨Tryz.func100, Tryz.call100⟩, trivial⟩)) (SpecsOK_of ⟨wbl.contract, wbR.contract, wco.contract, trivial⟩) Tryz.call100 rfl rfl fun K x r h => by
    rw [wcm.body_eq]; exact h
def wbN.spec : Dp.Spec := ⟨(.scons Kq11 (.scons Kq2 Kq4)), (.int .i64), false, fun K x => wbN K x.1 x.2.1 x.2.2.1⟩
def wbN.hint : Dp.Hint := { n := 56, imm := [3, 4] }
noncomputable def wbN.env : Dp.Env := ⟨ti, gl, [], [], [(44, Tryz.f44, wbN.hint)], [(88, wbe.spec), (87, wbM.spec), (99, wbR.spec), (100, wcm.spec)], 0, 40⟩
theorem wbN.body_eq (K : Nat) (x : wbN.spec.args.den) : body (wbN.env.at K) 8 44 wbN.spec x = wbN K x.1 x.2.1 x.2.2.1 := by kernel_rfl
theorem wbN.contract : Contract Tryz.prog gl 44 wbN.spec :=
  contract_of (E := wbN.env) (kn rfl (FnsOK_of ⟨⟨Tryz.func44, Tryz.call44⟩, trivial⟩)) (SpecsOK_of ⟨wbe.contract, wbM.contract, wbR.contract, wcm.contract, trivial⟩) Tryz.call44 rfl rfl fun K x r h => by
    rw [wbN.body_eq]; exact h
def wbr.spec : Dp.Spec := ⟨(.scons Kq11 (.scons Kq2 Kq4)), .bool, false, fun K x => wbr K x.1 x.2.1 x.2.2.1⟩
def wbr.hint : Dp.Hint := { n := 29, regions := [(1, [(.normal, { regs := [(2, (.int .i64)), (3, (.ref Kq11)), (4, (.ref Kq2)), (15, .bool)] })])], imm := [3, 4] }
noncomputable def wbr.env : Dp.Env := ⟨ti, gl, [], [], [(8, Tryz.f8, wbr.hint)], [(11, wF_.spec), (12, wN_.spec), (43, wbP.spec), (33, w1_.spec), (44, wbN.spec)], 0, 40⟩
theorem wbr.body_eq (K : Nat) (x : wbr.spec.args.den) : body (wbr.env.at K) 8 8 wbr.spec x = wbr K x.1 x.2.1 x.2.2.1 := by kernel_rfl
theorem wbr.contract : Contract Tryz.prog gl 8 wbr.spec :=
  contract_of (E := wbr.env) (kn rfl (FnsOK_of ⟨⟨Tryz.func8, Tryz.call8⟩, trivial⟩)) (SpecsOK_of ⟨wF_.contract, wN_.contract, wbP.contract, w1_.contract, wbN.contract, trivial⟩) Tryz.call8 rfl rfl fun K x r h => by
    rw [wbr.body_eq]; exact h
def wbO.spec : Dp.Spec := ⟨(.scons Kq11 (.scons Kq2 Kq8)), .bool, false, fun K x => wbO K x.1 x.2.1 x.2.2.1 x.2.2.2.1⟩
def wbO.hint : Dp.Hint := { n := 126, regions := [(1, [(.normal, { regs := [(2, (.int .i64)), (3, (.int .i64)), (4, (.loc 0 false [])), (5, (.ref Kq2)), (46, .bool)], heap := [Kq11] })]), (5, [(.normal, { regs := [(8, .bool)], heap := [Kq11] })]), (7, [(.normal, { regs := [(2, (.int .i64)), (4, (.loc 0 false [])), (5, (.ref Kq2)), (12, .bool)], heap := [Kq11, Kq0, Kq0] })])], imm := [5] }
noncomputable def wbO.env : Dp.Env := ⟨ti, gl, [], [], [(9, Tryz.f9, wbO.hint)], [(11, wF_.spec), (12, wN_.spec), (46, wb_.spec), (45, wbX.spec), (48, wcO.spec), (47, wcl.spec), (49, wcX.spec), (43, wbP.spec), (33, w1_.spec)], 0, 40⟩
theorem wbO.body_eq (K : Nat) (x : wbO.spec.args.den) : body (wbO.env.at K) 8 9 wbO.spec x = wbO K x.1 x.2.1 x.2.2.1 x.2.2.2.1 := by kernel_rfl
theorem wbO.contract : Contract Tryz.prog gl 9 wbO.spec :=
  contract_of (E := wbO.env) (kn rfl (FnsOK_of ⟨⟨Tryz.func9, Tryz.call9⟩, trivial⟩)) (SpecsOK_of ⟨wF_.contract, wN_.contract, wb_.contract, wbX.contract, wcO.contract, wcl.contract, wcX.contract, wbP.contract, w1_.contract, trivial⟩) Tryz.call9 rfl rfl fun K x r h => by
    rw [wbO.body_eq]; exact h
def wT_.spec : Dp.Spec := ⟨(.scons Kq11 (.scons Kq6 Kq4)), .bool, false, fun K x => wT_ K x.1 x.2.1 x.2.2.1⟩
def wT_.hint : Dp.Hint := { n := 126, regions := [(1, [(.normal, { regs := [(2, (.int .i64)), (3, (.ref Kq11)), (4, (.ref Kq6)), (31, .bool)] })]), (7, [(.normal, { regs := [(2, (.int .i64)), (3, (.ref Kq11)), (4, (.ref Kq6)), (8, (.loc 1 false [])), (56, .bool)], heap := [Kq6, Kq11] })]), (13, [(.normal, { regs := [(2, (.int .i64)), (3, (.ref Kq11)), (4, (.ref Kq6)), (10, (.loc 2 false [])), (87, .bool)], heap := [Kq6, (.scons .str (.scons .str (.scons (.int .i64) (.scons (.slw 3) Kq3)))), Kq0, (.row Kq5)], app := [3] })])], own := [67], imm := [3, 4], frz := [34] }
noncomputable def wT_.env : Dp.Env := ⟨ti, gl, [], [], [(10, Tryz.f10, wT_.hint)], [(11, wF_.spec), (12, wN_.spec), (46, wb_.spec), (39, w7_.spec), (47, wcl.spec), (35, w4_.spec), (33, w1_.spec)], 0, 40⟩
theorem wT_.body_eq (K : Nat) (x : wT_.spec.args.den) : body (wT_.env.at K) 8 10 wT_.spec x = wT_ K x.1 x.2.1 x.2.2.1 := by kernel_rfl
theorem wT_.contract : Contract Tryz.prog gl 10 wT_.spec :=
  contract_of (E := wT_.env) (kn rfl (FnsOK_of ⟨⟨Tryz.func10, Tryz.call10⟩, trivial⟩)) (SpecsOK_of ⟨wF_.contract, wN_.contract, wb_.contract, w7_.contract, wcl.contract, w4_.contract, w1_.contract, trivial⟩) Tryz.call10 rfl rfl fun K x r h => by
    rw [wT_.body_eq]; exact h
end Go.Proofs.X
