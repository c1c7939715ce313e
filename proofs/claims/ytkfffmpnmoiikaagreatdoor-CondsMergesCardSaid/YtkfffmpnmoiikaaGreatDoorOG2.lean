/- That the machine comes to the plain functions. No condition. -/
import Derived.Test.YtkfffmpnmoiikaaGreatDoorOG1
import Derived.Test.YtkfffmpnmoiikaaGreatDoorOS1
import Derived.Test.YtkfffmpnmoiikaaGreatDoorChecked
import Derived.KernelRfl
import Derived.Eval
set_option linter.unusedVariables false
set_option maxRecDepth 20000
namespace Go.Proofs.X
open Go Go.Dp
abbrev Kq1 : Dp.Ty := .scons .str .snil
abbrev Kq3 : Dp.Ty := .scons .str Kq1
abbrev Kq0 : Dp.Ty := .scons .str (.scons (.int .i64) (.scons (.list Kq3) Kq1))
abbrev Kq6 : Dp.Ty := .scons (.int .i64) Kq0
abbrev Kq4 : Dp.Ty := .scons .bool Kq1
abbrev Kq2 : Dp.Ty := .scons Kq6 (.scons (.int .i64) (.scons (.list (.scons .str Kq4)) .snil))
abbrev Kq5 : Dp.Ty := .scons (.int .i64) .snil
abbrev Kq7 : Dp.Ty := .scons (.int .i64) Kq5
abbrev Kq8 : Dp.Ty := .scons .str Kq0
abbrev Kq9 : Dp.Ty := .scons .bool (.scons .bool (.scons .bool (.scons .bool (.scons .bool (.scons .bool (.scons (.int .i64) Kq7))))))
def ti : List (Nat × TI) := [(1, ⟨.fn, 1, 8, .nilf⟩),
  (2, ⟨.int .i64, 1, 8, (.int .i64)⟩),
  (3, ⟨.int .i64, 1, 8, (.int .i64)⟩),
  (4, ⟨.bool, 1, 1, .bool⟩),
  (5, ⟨.int .u8, 1, 1, (.int .u8)⟩),
  (6, ⟨.int .u8, 1, 1, (.int .u8)⟩),
  (9, ⟨.str, 1, 16, .str⟩),
  (10, ⟨.str, 1, 16, .str⟩),
  (11, ⟨.str, 1, 16, .str⟩),
  (12, ⟨.int .u64, 1, 8, (.int .u64)⟩),
  (15, ⟨.ptr 259, 1, 8, .nilp⟩),
  (16, ⟨.ptr 262, 1, 8, .nilp⟩),
  (17, ⟨.ptr 269, 1, 8, .nilp⟩),
  (18, ⟨.struct [(17, 0)], 1, 8, (.scons .nilp .snil)⟩),
  (19, ⟨.struct [(17, 0)], 1, 8, (.scons .nilp .snil)⟩),
  (20, ⟨.iface false, 1, 16, .nili⟩),
  (21, ⟨.int .i32, 1, 4, (.int .i32)⟩),
  (22, ⟨.slice 43, 1, 24, (.list Kq3)⟩),
  (23, ⟨.struct [(9, 0), (9, 1), (3, 2), (22, 3), (9, 4)], 5, 80, Kq8⟩),
  (24, ⟨.struct [(9, 0), (9, 1), (3, 2), (22, 3), (9, 4)], 5, 80, Kq8⟩),
  (25, ⟨.struct [(3, 0), (9, 1), (3, 2), (22, 3), (9, 4)], 5, 72, Kq6⟩),
  (26, ⟨.struct [(3, 0), (9, 1), (3, 2), (22, 3), (9, 4)], 5, 72, Kq6⟩),
  (27, ⟨.fn, 1, 8, .nilf⟩),
  (28, ⟨.fn, 1, 8, .nilf⟩),
  (29, ⟨.fn, 1, 8, .nilf⟩),
  (30, ⟨.fn, 1, 8, .nilf⟩),
  (31, ⟨.fn, 1, 8, .nilf⟩),
  (32, ⟨.fn, 1, 8, .nilf⟩),
  (33, ⟨.fn, 1, 8, .nilf⟩),
  (34, ⟨.fn, 1, 8, .nilf⟩),
  (35, ⟨.slice 82, 1, 24, (.list (.scons .str Kq4))⟩),
  (36, ⟨.struct [(26, 0), (3, 5), (35, 6)], 7, 104, Kq2⟩),
  (37, ⟨.struct [(26, 0), (3, 5), (35, 6)], 7, 104, Kq2⟩),
  (38, ⟨.fn, 1, 8, .nilf⟩),
  (39, ⟨.fn, 1, 8, .nilf⟩),
  (40, ⟨.fn, 1, 8, .nilf⟩),
  (41, ⟨.fn, 1, 8, .nilf⟩),
  (42, ⟨.struct [(9, 0), (9, 1)], 2, 32, Kq3⟩),
  (43, ⟨.struct [(9, 0), (9, 1)], 2, 32, Kq3⟩),
  (44, ⟨.fn, 1, 8, .nilf⟩),
  (46, ⟨.fn, 1, 8, .nilf⟩),
  (47, ⟨.fn, 1, 8, .nilf⟩),
  (48, ⟨.struct [(4, 0), (9, 1)], 2, 24, Kq4⟩),
  (49, ⟨.struct [(4, 0), (9, 1)], 2, 24, Kq4⟩),
  (51, ⟨.fn, 1, 8, .nilf⟩),
  (52, ⟨.fn, 1, 8, .nilf⟩),
  (53, ⟨.fn, 1, 8, .nilf⟩),
  (54, ⟨.fn, 1, 8, .nilf⟩),
  (55, ⟨.fn, 1, 8, .nilf⟩),
  (56, ⟨.fn, 1, 8, .nilf⟩),
  (57, ⟨.fn, 1, 8, .nilf⟩),
  (58, ⟨.fn, 1, 8, .nilf⟩),
  (59, ⟨.struct [(4, 0), (4, 1), (4, 2), (4, 3), (4, 4), (4, 5), (3, 6), (3, 7), (3, 8)], 9, 32, Kq9⟩),
  (60, ⟨.struct [(4, 0), (4, 1), (4, 2), (4, 3), (4, 4), (4, 5), (3, 6), (3, 7), (3, 8)], 9, 32, Kq9⟩),
  (61, ⟨.fn, 1, 8, .nilf⟩),
  (62, ⟨.fn, 1, 8, .nilf⟩),
  (63, ⟨.fn, 1, 8, .nilf⟩),
  (64, ⟨.fn, 1, 8, .nilf⟩),
  (65, ⟨.fn, 1, 8, .nilf⟩),
  (66, ⟨.struct [(26, 0)], 5, 72, (.scons Kq6 .snil)⟩),
  (67, ⟨.struct [(26, 0)], 5, 72, (.scons Kq6 .snil)⟩),
  (68, ⟨.fn, 1, 8, .nilf⟩),
  (70, ⟨.fn, 1, 8, .nilf⟩),
  (71, ⟨.fn, 1, 8, .nilf⟩),
  (72, ⟨.slice 49, 1, 24, (.list Kq4)⟩),
  (74, ⟨.fn, 1, 8, .nilf⟩),
  (75, ⟨.fn, 1, 8, .nilf⟩),
  (76, ⟨.fn, 1, 8, .nilf⟩),
  (77, ⟨.fn, 1, 8, .nilf⟩),
  (78, ⟨.slice 9, 1, 24, (.list .str)⟩),
  (79, ⟨.fn, 1, 8, .nilf⟩),
  (80, ⟨.fn, 1, 8, .nilf⟩),
  (81, ⟨.struct [(9, 0), (4, 1), (9, 2)], 3, 40, (.scons .str Kq4)⟩),
  (82, ⟨.struct [(9, 0), (4, 1), (9, 2)], 3, 40, (.scons .str Kq4)⟩),
  (83, ⟨.fn, 1, 8, .nilf⟩),
  (84, ⟨.fn, 1, 8, .nilf⟩),
  (85, ⟨.fn, 1, 8, .nilf⟩),
  (86, ⟨.fn, 1, 8, .nilf⟩),
  (87, ⟨.fn, 1, 8, .nilf⟩),
  (88, ⟨.fn, 1, 8, .nilf⟩),
  (89, ⟨.fn, 1, 8, .nilf⟩),
  (90, ⟨.fn, 1, 8, .nilf⟩),
  (91, ⟨.fn, 1, 8, .nilf⟩),
  (92, ⟨.fn, 1, 8, .nilf⟩),
  (94, ⟨.fn, 1, 8, .nilf⟩),
  (95, ⟨.fn, 1, 8, .nilf⟩),
  (96, ⟨.fn, 1, 8, .nilf⟩),
  (97, ⟨.fn, 1, 8, .nilf⟩),
  (98, ⟨.ptr 100, 1, 8, .nilp⟩),
  (99, ⟨.struct [(60, 0)], 9, 32, (.scons Kq9 .snil)⟩),
  (100, ⟨.struct [(60, 0)], 9, 32, (.scons Kq9 .snil)⟩),
  (101, ⟨.fn, 1, 8, .nilf⟩),
  (102, ⟨.fn, 1, 8, .nilf⟩),
  (103, ⟨.fn, 1, 8, .nilf⟩),
  (104, ⟨.fn, 1, 8, .nilf⟩),
  (105, ⟨.fn, 1, 8, .nilf⟩),
  (106, ⟨.fn, 1, 8, .nilf⟩),
  (107, ⟨.int .i64, 1, 8, (.int .i64)⟩),
  (109, ⟨.fn, 1, 8, .nilf⟩),
  (111, ⟨.fn, 1, 8, .nilf⟩),
  (112, ⟨.fn, 1, 8, .nilf⟩),
  (113, ⟨.fn, 1, 8, .nilf⟩),
  (115, ⟨.fn, 1, 8, .nilf⟩),
  (116, ⟨.struct [(3, 0), (9, 1)], 2, 24, (.scons (.int .i64) Kq1)⟩),
  (117, ⟨.struct [(3, 0), (9, 1)], 2, 24, (.scons (.int .i64) Kq1)⟩),
  (118, ⟨.arr 5 117, 10, 120, (.arr 5 (.scons (.int .i64) Kq1))⟩),
  (119, ⟨.fn, 1, 8, .nilf⟩),
  (120, ⟨.arr 10 9, 10, 160, (.arr 10 .str)⟩),
  (121, ⟨.fn, 1, 8, .nilf⟩),
  (122, ⟨.fn, 1, 8, .nilf⟩),
  (123, ⟨.ptr 126, 1, 8, .nilp⟩),
  (124, ⟨.slice 5, 1, 24, (.list (.int .u8))⟩),
  (125, ⟨.struct [(123, 0), (124, 1)], 2, 32, (.scons .nilp (.scons (.list (.int .u8)) .snil))⟩),
  (126, ⟨.struct [(123, 0), (124, 1)], 2, 32, (.scons .nilp (.scons (.list (.int .u8)) .snil))⟩),
  (127, ⟨.fn, 1, 8, .nilf⟩),
  (128, ⟨.iface true, 1, 16, .nili⟩),
  (129, ⟨.iface true, 1, 16, .nili⟩),
  (131, ⟨.fn, 1, 8, .nilf⟩),
  (132, ⟨.fn, 1, 8, .nilf⟩),
  (133, ⟨.fn, 1, 8, .nilf⟩),
  (134, ⟨.fn, 1, 8, .nilf⟩),
  (135, ⟨.slice 29, 1, 24, (.list .nilf)⟩),
  (136, ⟨.map 9 3, 1, 8, .unk⟩),
  (138, ⟨.fn, 1, 8, .nilf⟩),
  (139, ⟨.fn, 1, 8, .nilf⟩),
  (141, ⟨.fn, 1, 8, .nilf⟩),
  (142, ⟨.fn, 1, 8, .nilf⟩),
  (143, ⟨.fn, 1, 8, .nilf⟩),
  (145, ⟨.fn, 1, 8, .nilf⟩),
  (146, ⟨.fn, 1, 8, .nilf⟩),
  (147, ⟨.slice 3, 1, 24, (.list (.int .i64))⟩),
  (149, ⟨.fn, 1, 8, .nilf⟩),
  (150, ⟨.slice 154, 1, 24, (.list (.scons .str (.scons .nilf .snil)))⟩),
  (151, ⟨.fn, 1, 8, .nilf⟩),
  (152, ⟨.fn, 1, 8, .nilf⟩),
  (153, ⟨.struct [(9, 0), (152, 1)], 2, 24, (.scons .str (.scons .nilf .snil))⟩),
  (154, ⟨.struct [(9, 0), (152, 1)], 2, 24, (.scons .str (.scons .nilf .snil))⟩),
  (155, ⟨.fn, 1, 8, .nilf⟩),
  (156, ⟨.fn, 1, 8, .nilf⟩),
  (157, ⟨.fn, 1, 8, .nilf⟩),
  (158, ⟨.fn, 1, 8, .nilf⟩),
  (159, ⟨.fn, 1, 8, .nilf⟩),
  (160, ⟨.fn, 1, 8, .nilf⟩),
  (161, ⟨.fn, 1, 8, .nilf⟩),
  (162, ⟨.fn, 1, 8, .nilf⟩),
  (163, ⟨.ptr 5, 1, 8, .nilp⟩),
  (164, ⟨.fn, 1, 8, .nilf⟩),
  (165, ⟨.fn, 1, 8, .nilf⟩),
  (166, ⟨.fn, 1, 8, .nilf⟩),
  (167, ⟨.int .u64, 1, 8, (.int .u64)⟩),
  (169, ⟨.fn, 1, 8, .nilf⟩),
  (171, ⟨.fn, 1, 8, .nilf⟩),
  (173, ⟨.fn, 1, 8, .nilf⟩),
  (174, ⟨.fn, 1, 8, .nilf⟩),
  (175, ⟨.fn, 1, 8, .nilf⟩),
  (176, ⟨.fn, 1, 8, .nilf⟩),
  (177, ⟨.fn, 1, 8, .nilf⟩),
  (178, ⟨.fn, 1, 8, .nilf⟩),
  (179, ⟨.fn, 1, 8, .nilf⟩),
  (180, ⟨.fn, 1, 8, .nilf⟩),
  (181, ⟨.struct [(3, 0), (3, 1), (3, 2), (3, 3), (9, 4)], 5, 48, (.scons (.int .i64) (.scons (.int .i64) (.scons (.int .i64) (.scons (.int .i64) Kq1))))⟩),
  (182, ⟨.struct [(3, 0), (3, 1), (3, 2), (3, 3), (9, 4)], 5, 48, (.scons (.int .i64) (.scons (.int .i64) (.scons (.int .i64) (.scons (.int .i64) Kq1))))⟩),
  (183, ⟨.fn, 1, 8, .nilf⟩),
  (184, ⟨.arr 7 9, 7, 112, (.arr 7 .str)⟩),
  (185, ⟨.arr 12 9, 12, 192, (.arr 12 .str)⟩),
  (186, ⟨.fn, 1, 8, .nilf⟩),
  (188, ⟨.fn, 1, 8, .nilf⟩),
  (190, ⟨.fn, 1, 8, .nilf⟩),
  (191, ⟨.fn, 1, 8, .nilf⟩),
  (192, ⟨.fn, 1, 8, .nilf⟩),
  (193, ⟨.fn, 1, 8, .nilf⟩),
  (194, ⟨.fn, 1, 8, .nilf⟩),
  (195, ⟨.int .i64, 1, 8, (.int .i64)⟩),
  (197, ⟨.fn, 1, 8, .nilf⟩),
  (198, ⟨.fn, 1, 8, .nilf⟩),
  (199, ⟨.fn, 1, 8, .nilf⟩),
  (200, ⟨.fn, 1, 8, .nilf⟩),
  (201, ⟨.fn, 1, 8, .nilf⟩),
  (202, ⟨.int .u32, 1, 4, (.int .u32)⟩),
  (203, ⟨.fn, 1, 8, .nilf⟩),
  (204, ⟨.int .u64, 1, 8, (.int .u64)⟩),
  (206, ⟨.fn, 1, 8, .nilf⟩),
  (207, ⟨.fn, 1, 8, .nilf⟩),
  (208, ⟨.fn, 1, 8, .nilf⟩),
  (209, ⟨.arr 256 4, 256, 256, (.arr 256 .bool)⟩),
  (210, ⟨.arr 256 4, 256, 256, (.arr 256 .bool)⟩),
  (212, ⟨.fn, 1, 8, .nilf⟩),
  (213, ⟨.fn, 1, 8, .nilf⟩),
  (214, ⟨.ptr 210, 1, 8, .nilp⟩),
  (215, ⟨.fn, 1, 8, .nilf⟩),
  (216, ⟨.fn, 1, 8, .nilf⟩),
  (217, ⟨.fn, 1, 8, .nilf⟩),
  (218, ⟨.fn, 1, 8, .nilf⟩),
  (219, ⟨.fn, 1, 8, .nilf⟩),
  (220, ⟨.slice 161, 1, 24, (.list .nilf)⟩),
  (221, ⟨.int .u64, 1, 8, (.int .u64)⟩),
  (222, ⟨.fn, 1, 8, .nilf⟩),
  (223, ⟨.fn, 1, 8, .nilf⟩),
  (224, ⟨.fn, 1, 8, .nilf⟩),
  (225, ⟨.ptr 3, 1, 8, .nilp⟩),
  (226, ⟨.fn, 1, 8, .nilf⟩),
  (227, ⟨.fn, 1, 8, .nilf⟩),
  (229, ⟨.fn, 1, 8, .nilf⟩),
  (230, ⟨.fn, 1, 8, .nilf⟩),
  (231, ⟨.fn, 1, 8, .nilf⟩),
  (233, ⟨.fn, 1, 8, .nilf⟩),
  (234, ⟨.fn, 1, 8, .nilf⟩),
  (235, ⟨.ptr 221, 1, 8, .nilp⟩),
  (236, ⟨.fn, 1, 8, .nilf⟩),
  (237, ⟨.fn, 1, 8, .nilf⟩),
  (239, ⟨.fn, 1, 8, .nilf⟩),
  (241, ⟨.fn, 1, 8, .nilf⟩),
  (242, ⟨.fn, 1, 8, .nilf⟩),
  (243, ⟨.arr 256 5, 256, 256, (.arr 256 (.int .u8))⟩),
  (244, ⟨.struct [(5, 0), (5, 1)], 2, 2, (.scons (.int .u8) (.scons (.int .u8) .snil))⟩),
  (245, ⟨.struct [(5, 0), (5, 1)], 2, 2, (.scons (.int .u8) (.scons (.int .u8) .snil))⟩),
  (246, ⟨.arr 16 245, 32, 32, (.arr 16 (.scons (.int .u8) (.scons (.int .u8) .snil)))⟩),
  (247, ⟨.fn, 1, 8, .nilf⟩),
  (248, ⟨.fn, 1, 8, .nilf⟩),
  (249, ⟨.arr 24 5, 24, 24, (.arr 24 (.int .u8))⟩),
  (250, ⟨.fn, 1, 8, .nilf⟩),
  (252, ⟨.fn, 1, 8, .nilf⟩),
  (253, ⟨.fn, 1, 8, .nilf⟩),
  (254, ⟨.arr 20 204, 20, 160, (.arr 20 (.int .u64))⟩),
  (255, ⟨.arr 65 5, 65, 65, (.arr 65 (.int .u8))⟩),
  (256, ⟨.arr 32 5, 32, 32, (.arr 32 (.int .u8))⟩),
  (257, ⟨.arr 64 5, 64, 64, (.arr 64 (.int .u8))⟩),
  (260, ⟨.arr 0 16, 0, 0, (.arr 0 .nilp)⟩),
  (263, ⟨.int .u8, 1, 1, (.int .u8)⟩),
  (264, ⟨.int .u8, 1, 1, (.int .u8)⟩),
  (265, ⟨.fn, 1, 8, .nilf⟩),
  (266, ⟨.int .i32, 1, 4, (.int .i32)⟩),
  (267, ⟨.int .i32, 1, 4, (.int .i32)⟩),
  (268, ⟨.struct [(12, 0), (12, 1), (202, 2), (263, 3), (5, 4), (5, 5), (264, 6), (265, 7), (163, 8), (266, 9), (267, 10)], 11, 48, (.scons (.int .u64) (.scons (.int .u64) (.scons (.int .u32) (.scons (.int .u8) (.scons (.int .u8) (.scons (.int .u8) (.scons (.int .u8) (.scons .nilf (.scons .nilp (.scons (.int .i32) (.scons (.int .i32) .snil)))))))))))⟩),
  (269, ⟨.struct [(12, 0), (12, 1), (202, 2), (263, 3), (5, 4), (5, 5), (264, 6), (265, 7), (163, 8), (266, 9), (267, 10)], 11, 48, (.scons (.int .u64) (.scons (.int .u64) (.scons (.int .u32) (.scons (.int .u8) (.scons (.int .u8) (.scons (.int .u8) (.scons (.int .u8) (.scons .nilf (.scons .nilp (.scons (.int .i32) (.scons (.int .i32) .snil)))))))))))⟩)]
def gl : List (Nat × TV) := [(0, ⟨.ref (.arr 5 (.scons (.int .i64) Kq1)), wco⟩), (1, ⟨.ref (.arr 10 .str), wK_⟩), (2, ⟨.ref (.arr 7 .str), wb5⟩), (3, ⟨.ref (.arr 12 .str), wb6⟩), (7, ⟨.ref (.arr 20 (.int .u64)), wcm⟩)]
theorem tiOK : ti.all (fun p => tiOK1 Tryz.prog p.1 p.2) = true := by kernel_rfl
theorem mixed : Tryz.prog.follows .mixedOrders = true := Checked.mixed Tryz.checked
theorem kn {E : Dp.Env} (h : E.ti = ti) (hf : FnsOK Tryz.prog E) : Known0 Tryz.prog E := ⟨TIok_of (by rw [h]; exact tiOK), hf, mixed⟩
theorem eqR {α β : Type} {r l : Nat → α → Option β} (t : (α → Option β) → α → Option β) (hs : ∀ n x, r (n + 1) x = t (r n) x) (hl : ∀ n x, l (n + 1) x = t (l n) x) (h0 : ∀ x, r 0 x = l 0 x) : ∀ n, r n = l n
  | 0 => funext h0
  | n + 1 => funext fun x => by rw [hs, hl, eqR t hs hl h0 n]
def joinS.spec : Dp.Spec := joinSpec
theorem joinS.contract : Contract Tryz.prog gl 72 joinS.spec := weL
def asciiSet.spec : Dp.Spec := asciiSetSpec
theorem asciiSet.contract : Contract Tryz.prog gl 244 asciiSet.spec := wd5
def ixb.spec : Dp.Spec := indexByteSpec
theorem ixb.contract : Contract Tryz.prog gl 249 ixb.spec := indexByte_contract Tryz.func249 (by decide +kernel) rfl (by kernel_rfl) (by kernel_rfl)
def repeatS.spec : Dp.Spec := repeatSpec
theorem repeatS.contract : Contract Tryz.prog gl 255 repeatS.spec := wej
def itoa.spec : Dp.Spec := itoaSpec
theorem itoa.contract : Contract Tryz.prog gl 256 itoa.spec := we1 (g := 7) (n := 20) (by kernel_rfl) (by kernel_rfl)
def wz_.spec : Dp.Spec := ⟨(.scons (.list Kq3) Kq7), .bool, false, fun K x => wz_ K x.1 x.2.1 x.2.2.1⟩
def wz_.hint : Dp.Hint := { n := 41, regions := [(2, [(.normal, { regs := [(0, (.list Kq3)), (1, (.int .i64)), (2, (.int .i64)), (7, (.int .i64)), (16, .bool)] })]), (4, [(.normal, { regs := [(0, (.list Kq3)), (1, (.int .i64)), (2, (.int .i64)), (7, (.int .i64)), (36, .bool)] })])], loops := [(2, { regs := [(0, (.list Kq3)), (1, (.int .i64)), (2, (.int .i64)), (7, (.int .i64))] }, [(.exit 0, { regs := [(0, (.list Kq3)), (1, (.int .i64))] }), (.ret, { regs := [(6, .bool)] })])] }
noncomputable def wz_.env : Dp.Env := ⟨ti, gl, [], [], [(50, Tryz.f50, wz_.hint)], [], 0, 40⟩
noncomputable def wz_.r0 (K : Nat) : Nat → ((Jq1 × ((Int) × Jq9)) × (Unit)) → Option (((Jq1 × Jq3) × (Unit)) ⊕ Jq29) :=
  loopV [(.exit 0, { regs := [(0, (.list Kq3)), (1, (.int .i64))] }), (.ret, { regs := [(6, .bool)] })] { regs := [(0, (.list Kq3)), (1, (.int .i64)), (2, (.int .i64)), (7, (.int .i64))] } (interp (wz_.env.at K) wz_.hint (callF (wz_.env.at K) 7) (Code.sub [1, 0, 1, 0, 0] (Tryz.f50.body.getD .skip)) _)
theorem wz_.s0 (K n : Nat) (x : ((Jq1 × ((Int) × Jq9)) × (Unit))) : wz_.r0 K (n + 1) x = wz_.t0 K (wz_.r0 K n) x := by kernel_rfl
theorem wz_.e0 (K n : Nat) : wz_.r0 K n = wz_.l0 K n := eqR (l := wz_.l0 K) _ (wz_.s0 K) (fun _ _ => rfl) (fun _ => rfl) n
theorem wz_.body_eq (K : Nat) (x : wz_.spec.args.den) : body (wz_.env.at K) 8 50 wz_.spec x = wz_.tr (wz_.r0 K) K x.1 x.2.1 x.2.2.1 := by kernel_rfl
theorem wz_.contract : Contract Tryz.prog gl 50 wz_.spec :=
  contract_of (E := wz_.env) (kn rfl (FnsOK_of ⟨⟨Tryz.func50, Tryz.call50⟩, trivial⟩)) (SpecsOK_of trivial) Tryz.call50 rfl rfl fun K x r h => by
    rw [wz_.body_eq, show wz_.r0 K = wz_.l0 K from funext (wz_.e0 K)]; exact h
def wY_.spec : Dp.Spec := ⟨(.scons Kq8 Kq5), .bool, false, fun K x => wY_ K x.1 x.2.1⟩
def wY_.hint : Dp.Hint := { n := 30, imm := [2] }
noncomputable def wY_.env : Dp.Env := ⟨ti, gl, [], [], [(11, Tryz.f11, wY_.hint)], [(50, wz_.spec)], 0, 40⟩
theorem wY_.body_eq (K : Nat) (x : wY_.spec.args.den) : body (wY_.env.at K) 8 11 wY_.spec x = wY_ K x.1 x.2.1 := by kernel_rfl
theorem wY_.contract : Contract Tryz.prog gl 11 wY_.spec :=
  contract_of (E := wY_.env) (kn rfl (FnsOK_of ⟨⟨Tryz.func11, Tryz.call11⟩, trivial⟩)) (SpecsOK_of ⟨wz_.contract, trivial⟩) Tryz.call11 rfl rfl fun K x r h => by
    rw [wY_.body_eq]; exact h
def wA_.spec : Dp.Spec := ⟨(.scons Kq6 Kq5), .bool, false, fun K x => wA_ K x.1 x.2.1⟩
def wA_.hint : Dp.Hint := { n := 23, imm := [2] }
noncomputable def wA_.env : Dp.Env := ⟨ti, gl, [], [], [(12, Tryz.f12, wA_.hint)], [(50, wz_.spec)], 0, 40⟩
theorem wA_.body_eq (K : Nat) (x : wA_.spec.args.den) : body (wA_.env.at K) 8 12 wA_.spec x = wA_ K x.1 x.2.1 := by kernel_rfl
theorem wA_.contract : Contract Tryz.prog gl 12 wA_.spec :=
  contract_of (E := wA_.env) (kn rfl (FnsOK_of ⟨⟨Tryz.func12, Tryz.call12⟩, trivial⟩)) (SpecsOK_of ⟨wz_.contract, trivial⟩) Tryz.call12 rfl rfl fun K x r h => by
    rw [wA_.body_eq]; exact h
def wb4.spec : Dp.Spec := ⟨(.scons (.int .u8) (.scons (.int .u8) .snil)), (.fn 220 (.scons (.ref (.int .u8)) (.scons (.ref (.int .u8)) .snil))), false, fun K x => wb4 K x.1 x.2.1⟩
def wb4.hint : Dp.Hint := { n := 6, imm := [2, 3] }
noncomputable def wb4.env : Dp.Env := ⟨ti, gl, [], [], [(167, Tryz.f167, wb4.hint)], [], 0, 40⟩
theorem wb4.body_eq (K : Nat) (x : wb4.spec.args.den) : body (wb4.env.at K) 8 167 wb4.spec x = wb4 K x.1 x.2.1 := by kernel_rfl
theorem wb4.contract : Contract Tryz.prog gl 167 wb4.spec :=
  contract_of (E := wb4.env) (kn rfl (FnsOK_of ⟨⟨Tryz.func167, Tryz.call167⟩, trivial⟩)) (SpecsOK_of trivial) Tryz.call167 rfl rfl fun K x r h => by
    rw [wb4.body_eq]; exact h
def wbO.spec : Dp.Spec := ⟨(.scons (.int .u8) (.scons (.ref (.int .u8)) (.scons (.ref (.int .u8)) .snil))), .bool, false, fun K x => wbO K x.1 x.2.1 x.2.2.1⟩
def wbO.hint : Dp.Hint := { n := 13 }
noncomputable def wbO.env : Dp.Env := ⟨ti, gl, [], [], [(220, Tryz.f220, wbO.hint)], [], 0, 40⟩
theorem wbO.body_eq (K : Nat) (x : wbO.spec.args.den) : body (wbO.env.at K) 8 220 wbO.spec x = wbO K x.1 x.2.1 x.2.2.1 := by kernel_rfl
theorem wbO.contract : Contract Tryz.prog gl 220 wbO.spec :=
  contract_of (E := wbO.env) (kn rfl (FnsOK_of ⟨⟨Tryz.func220, Tryz.call220⟩, trivial⟩)) (SpecsOK_of trivial) Tryz.call220 rfl rfl fun K x r h => by
    rw [wbO.body_eq]; exact h
def wT_.spec : Dp.Spec := ⟨Kq1, .str, false, fun K x => wT_ K x.1⟩
def wT_.hint : Dp.Hint := { n := 29, conds := [(19, [(.normal, { regs := [(3, (.fn 220 (.scons (.ref (.int .u8)) (.scons (.ref (.int .u8)) .snil)))), (4, (.slw 0)), (10, (.slw 0)), (11, (.int .i64)), (12, (.int .i64))], heap := [(.row (.int .u8))] })])], loops := [(4, { regs := [(3, (.fn 220 (.scons (.ref (.int .u8)) (.scons (.ref (.int .u8)) .snil)))), (4, (.slw 0)), (10, (.slw 0)), (11, (.int .i64)), (12, (.int .i64))], heap := [(.row (.int .u8))] }, [(.exit 0, { regs := [(4, (.slw 0))], heap := [(.row (.int .u8))] })])], own := [9] }
noncomputable def wT_.env : Dp.Env := ⟨ti, gl, [], [], [(122, Tryz.f122, wT_.hint)], [(167, wb4.spec), (220, wbO.spec)], 0, 40⟩
noncomputable def wT_.r0 (K : Nat) : Nat → ((Jq9 × ((Unit) × ((Unit) × Jq9))) × Jq30) → Option ((Jq8 × Jq30)) :=
  loopV [(.exit 0, { regs := [(4, (.slw 0))], heap := [(.row (.int .u8))] })] { regs := [(3, (.fn 220 (.scons (.ref (.int .u8)) (.scons (.ref (.int .u8)) .snil)))), (4, (.slw 0)), (10, (.slw 0)), (11, (.int .i64)), (12, (.int .i64))], heap := [(.row (.int .u8))] } (interp (wT_.env.at K) wT_.hint (callF (wT_.env.at K) 7) (Code.sub [1, 1, 1, 0, 1, 0, 0] (Tryz.f122.body.getD .skip)) _)
theorem wT_.s0 (K n : Nat) (x : ((Jq9 × ((Unit) × ((Unit) × Jq9))) × Jq30)) : wT_.r0 K (n + 1) x = wT_.t0 K (wT_.r0 K n) x := by kernel_rfl
theorem wT_.e0 (K n : Nat) : wT_.r0 K n = wT_.l0 K n := eqR (l := wT_.l0 K) _ (wT_.s0 K) (fun _ _ => rfl) (fun _ => rfl) n
theorem wT_.body_eq (K : Nat) (x : wT_.spec.args.den) : body (wT_.env.at K) 8 122 wT_.spec x = wT_.tr (wT_.r0 K) K x.1 := by kernel_rfl
theorem wT_.contract : Contract Tryz.prog gl 122 wT_.spec :=
  contract_of (E := wT_.env) (kn rfl (FnsOK_of ⟨⟨Tryz.func122, Tryz.call122⟩, trivial⟩)) (SpecsOK_of ⟨wb4.contract, wbO.contract, trivial⟩) Tryz.call122 rfl rfl fun K x r h => by
    rw [wT_.body_eq, show wT_.r0 K = wT_.l0 K from funext (wT_.e0 K)]; exact h
def wbQ.spec : Dp.Spec := ⟨Kq3, .bool, false, fun K x => wbQ K x.1 x.2.1⟩
def wbQ.hint : Dp.Hint := { n := 17 }
noncomputable def wbQ.env : Dp.Env := ⟨ti, gl, [], [], [(70, Tryz.f70, wbQ.hint)], [(122, wT_.spec)], 0, 40⟩
theorem wbQ.body_eq (K : Nat) (x : wbQ.spec.args.den) : body (wbQ.env.at K) 8 70 wbQ.spec x = wbQ K x.1 x.2.1 := by kernel_rfl
theorem wbQ.contract : Contract Tryz.prog gl 70 wbQ.spec :=
  contract_of (E := wbQ.env) (kn rfl (FnsOK_of ⟨⟨Tryz.func70, Tryz.call70⟩, trivial⟩)) (SpecsOK_of ⟨wT_.contract, trivial⟩) Tryz.call70 rfl rfl fun K x r h => by
    rw [wbQ.body_eq]; exact h
def wO_.spec : Dp.Spec := ⟨(.scons (.list Kq3) (.scons (.list .str) .snil)), (.list Kq3), false, fun K x => wO_ K x.1 x.2.1⟩
def wO_.hint : Dp.Hint := { n := 33, conds := [(25, [(.normal, { regs := [(1, (.list .str)), (5, (.slw 1)), (7, (.loc 2 false [])), (10, (.list Kq3)), (11, (.int .i64)), (12, (.int .i64)), (16, (.list .str)), (17, (.int .i64)), (18, (.int .i64))], heap := [(.row Kq3), (.row Kq3), Kq3], app := [1] })])], loops := [(3, { regs := [(1, (.list .str)), (5, (.slw 1)), (10, (.list Kq3)), (11, (.int .i64)), (12, (.int .i64))], heap := [(.row Kq3), (.row Kq3)], app := [1] }, [(.exit 0, { regs := [(5, (.slw 1))], heap := [(.row Kq3), (.row Kq3)], app := [1] })]), (6, { regs := [(1, (.list .str)), (5, (.slw 1)), (7, (.loc 2 false [])), (10, (.list Kq3)), (11, (.int .i64)), (12, (.int .i64)), (16, (.list .str)), (17, (.int .i64)), (18, (.int .i64))], heap := [(.row Kq3), (.row Kq3), Kq3], app := [1] }, [(.exit 2, { regs := [(1, (.list .str)), (5, (.slw 1)), (10, (.list Kq3)), (11, (.int .i64)), (12, (.int .i64))], heap := [(.row Kq3), (.row Kq3), Kq3], app := [1] })])], own := [4, 5] }
noncomputable def wO_.env : Dp.Env := ⟨ti, gl, [], [], [(58, Tryz.f58, wO_.hint)], [(70, wbQ.spec)], 0, 40⟩
noncomputable def wO_.r0 (K : Nat) : Nat → Jq20 → Option ((((List (List UInt8)) × Jq23) × (Jq1 × (Jq1 × (Jq11 × (Unit)))))) :=
  loopV [(.exit 2, { regs := [(1, (.list .str)), (5, (.slw 1)), (10, (.list Kq3)), (11, (.int .i64)), (12, (.int .i64))], heap := [(.row Kq3), (.row Kq3), Kq3], app := [1] })] { regs := [(1, (.list .str)), (5, (.slw 1)), (7, (.loc 2 false [])), (10, (.list Kq3)), (11, (.int .i64)), (12, (.int .i64)), (16, (.list .str)), (17, (.int .i64)), (18, (.int .i64))], heap := [(.row Kq3), (.row Kq3), Kq3], app := [1] } (interp (wO_.env.at K) wO_.hint (callF (wO_.env.at K) 7) (Code.sub [1, 1, 0, 1, 0, 0, 1, 1, 0, 0, 1, 1, 0, 0] (Tryz.f58.body.getD .skip)) _)
theorem wO_.s0 (K n : Nat) (x : Jq20) : wO_.r0 K (n + 1) x = wO_.t0 K (wO_.r0 K n) x := by kernel_rfl
theorem wO_.e0 (K n : Nat) : wO_.r0 K n = wO_.l0 K n := eqR (l := wO_.l0 K) _ (wO_.s0 K) (fun _ _ => rfl) (fun _ => rfl) n
noncomputable def wO_.r1 (K : Nat) : Nat → (((List (List UInt8)) × Jq23) × Jq12) → Option ((Jq8 × Jq12)) :=
  loopV [(.exit 0, { regs := [(5, (.slw 1))], heap := [(.row Kq3), (.row Kq3)], app := [1] })] { regs := [(1, (.list .str)), (5, (.slw 1)), (10, (.list Kq3)), (11, (.int .i64)), (12, (.int .i64))], heap := [(.row Kq3), (.row Kq3)], app := [1] } (interp (wO_.env.at K) wO_.hint (callF (wO_.env.at K) 7) (Code.sub [1, 1, 0, 1, 0, 0] (Tryz.f58.body.getD .skip)) _)
theorem wO_.s1 (K n : Nat) (x : (((List (List UInt8)) × Jq23) × Jq12)) : wO_.r1 K (n + 1) x = wO_.t1 (wO_.r0 K) K (wO_.r1 K n) x := by kernel_rfl
theorem wO_.e1 (K n : Nat) : wO_.r1 K n = wO_.l1 K n := by
  induction n with
  | zero => funext x; rfl
  | succ n ih => funext x; rw [wO_.s1, ih, show wO_.r0 K = wO_.l0 K from funext (wO_.e0 K)]; rfl
theorem wO_.body_eq (K : Nat) (x : wO_.spec.args.den) : body (wO_.env.at K) 8 58 wO_.spec x = wO_.tr (wO_.r1 K) K x.1 x.2.1 := by kernel_rfl
theorem wO_.contract : Contract Tryz.prog gl 58 wO_.spec :=
  contract_of (E := wO_.env) (kn rfl (FnsOK_of ⟨⟨Tryz.func58, Tryz.call58⟩, trivial⟩)) (SpecsOK_of ⟨wbQ.contract, trivial⟩) Tryz.call58 rfl rfl fun K x r h => by
    rw [wO_.body_eq, show wO_.r1 K = wO_.l1 K from funext (wO_.e1 K)]; exact h
def wbk.spec : Dp.Spec := ⟨Kq5, .str, false, fun K x => wbk K x.1⟩
def wbk.hint : Dp.Hint := { n := 16, loops := [(2, { regs := [(0, (.int .i64)), (5, (.arr 5 (.scons (.int .i64) Kq1))), (6, (.int .i64))] }, [(.exit 0, { regs := [] }), (.ret, { regs := [(2, .str)] })])] }
noncomputable def wbk.env : Dp.Env := ⟨ti, gl, [], [], [(59, Tryz.f59, wbk.hint)], [], 0, 40⟩
noncomputable def wbk.r0 (K : Nat) : Nat → (((Int) × ((List ((Int) × Jq0)) × Jq3)) × (Unit)) → Option (Jq8 ⊕ Jq24) :=
  loopV [(.exit 0, { regs := [] }), (.ret, { regs := [(2, .str)] })] { regs := [(0, (.int .i64)), (5, (.arr 5 (.scons (.int .i64) Kq1))), (6, (.int .i64))] } (interp (wbk.env.at K) wbk.hint (callF (wbk.env.at K) 7) (Code.sub [1, 0, 1, 0, 0] (Tryz.f59.body.getD .skip)) _)
theorem wbk.s0 (K n : Nat) (x : (((Int) × ((List ((Int) × Jq0)) × Jq3)) × (Unit))) : wbk.r0 K (n + 1) x = wbk.t0 K (wbk.r0 K n) x := by kernel_rfl
theorem wbk.e0 (K n : Nat) : wbk.r0 K n = wbk.l0 K n := eqR (l := wbk.l0 K) _ (wbk.s0 K) (fun _ _ => rfl) (fun _ => rfl) n
theorem wbk.body_eq (K : Nat) (x : wbk.spec.args.den) : body (wbk.env.at K) 8 59 wbk.spec x = wbk.tr (wbk.r0 K) K x.1 := by kernel_rfl
theorem wbk.contract : Contract Tryz.prog gl 59 wbk.spec :=
  contract_of (E := wbk.env) (kn rfl (FnsOK_of ⟨⟨Tryz.func59, Tryz.call59⟩, trivial⟩)) (SpecsOK_of trivial) Tryz.call59 rfl rfl fun K x r h => by
    rw [wbk.body_eq, show wbk.r0 K = wbk.l0 K from funext (wbk.e0 K)]; exact h
def wba.spec : Dp.Spec := ⟨(.scons Kq6 .snil), Kq6, false, fun K x => wba K x.1⟩
def wba.hint : Dp.Hint := { n := 11, imm := [1] }
noncomputable def wba.env : Dp.Env := ⟨ti, gl, [], [], [(17, Tryz.f17, wba.hint)], [(58, wO_.spec), (59, wbk.spec)], 0, 40⟩
theorem wba.body_eq (K : Nat) (x : wba.spec.args.den) : body (wba.env.at K) 8 17 wba.spec x = wba K x.1 := by kernel_rfl
theorem wba.contract : Contract Tryz.prog gl 17 wba.spec :=
  contract_of (E := wba.env) (kn rfl (FnsOK_of ⟨⟨Tryz.func17, Tryz.call17⟩, trivial⟩)) (SpecsOK_of ⟨wO_.contract, wbk.contract, trivial⟩) Tryz.call17 rfl rfl fun K x r h => by
    rw [wba.body_eq]; exact h
def wB_.spec : Dp.Spec := ⟨(.scons Kq3 (.scons (.ref (.list .str)) .snil)), .bool, false, fun K x => wB_ K x.1 x.2.1⟩
def wB_.hint : Dp.Hint := { n := 17, loops := [(2, { regs := [(2, (.ref Kq3)), (6, (.list .str)), (7, (.int .i64)), (8, (.int .i64))] }, [(.exit 0, { regs := [] }), (.ret, { regs := [(3, .bool)] })])], imm := [2] }
noncomputable def wB_.env : Dp.Env := ⟨ti, gl, [], [], [(69, Tryz.f69, wB_.hint)], [(70, wbQ.spec)], 0, 40⟩
noncomputable def wB_.r0 (K : Nat) : Nat → ((Jq11 × ((List (List UInt8)) × Jq9)) × (Unit)) → Option (Jq8 ⊕ Jq29) :=
  loopV [(.exit 0, { regs := [] }), (.ret, { regs := [(3, .bool)] })] { regs := [(2, (.ref Kq3)), (6, (.list .str)), (7, (.int .i64)), (8, (.int .i64))] } (interp (wB_.env.at K) wB_.hint (callF (wB_.env.at K) 7) (Code.sub [1, 0, 1, 0, 0] (Tryz.f69.body.getD .skip)) _)
theorem wB_.s0 (K n : Nat) (x : ((Jq11 × ((List (List UInt8)) × Jq9)) × (Unit))) : wB_.r0 K (n + 1) x = wB_.t0 K (wB_.r0 K n) x := by kernel_rfl
theorem wB_.e0 (K n : Nat) : wB_.r0 K n = wB_.l0 K n := eqR (l := wB_.l0 K) _ (wB_.s0 K) (fun _ _ => rfl) (fun _ => rfl) n
theorem wB_.body_eq (K : Nat) (x : wB_.spec.args.den) : body (wB_.env.at K) 8 69 wB_.spec x = wB_.tr (wB_.r0 K) K x.1 x.2.1 := by kernel_rfl
theorem wB_.contract : Contract Tryz.prog gl 69 wB_.spec :=
  contract_of (E := wB_.env) (kn rfl (FnsOK_of ⟨⟨Tryz.func69, Tryz.call69⟩, trivial⟩)) (SpecsOK_of ⟨wbQ.contract, trivial⟩) Tryz.call69 rfl rfl fun K x r h => by
    rw [wB_.body_eq, show wB_.r0 K = wB_.l0 K from funext (wB_.e0 K)]; exact h
def wa_.spec : Dp.Spec := ⟨(.scons (.list Kq3) (.scons (.fn 69 (.scons (.ref (.list .str)) .snil)) .snil)), (.list Kq3), false, fun K x => wa_ K x.1 x.2.1⟩
def wa_.hint : Dp.Hint := { n := 23, conds := [(16, [(.normal, { regs := [(1, (.fn 69 (.scons (.ref (.list .str)) .snil))), (5, (.slw 1)), (8, (.list Kq3)), (9, (.int .i64)), (10, (.int .i64))], heap := [(.row Kq3), (.row Kq3), Kq3], app := [1] })])], loops := [(3, { regs := [(1, (.fn 69 (.scons (.ref (.list .str)) .snil))), (5, (.slw 1)), (8, (.list Kq3)), (9, (.int .i64)), (10, (.int .i64))], heap := [(.row Kq3), (.row Kq3)], app := [1] }, [(.exit 0, { regs := [(5, (.slw 1))], heap := [(.row Kq3), (.row Kq3)], app := [1] })])], own := [4, 5] }
noncomputable def wa_.env : Dp.Env := ⟨ti, gl, [], [], [(68, Tryz.f68, wa_.hint)], [(69, wB_.spec)], 0, 40⟩
noncomputable def wa_.r0 (K : Nat) : Nat → ((Jq15 × Jq23) × Jq12) → Option ((Jq8 × Jq12)) :=
  loopV [(.exit 0, { regs := [(5, (.slw 1))], heap := [(.row Kq3), (.row Kq3)], app := [1] })] { regs := [(1, (.fn 69 (.scons (.ref (.list .str)) .snil))), (5, (.slw 1)), (8, (.list Kq3)), (9, (.int .i64)), (10, (.int .i64))], heap := [(.row Kq3), (.row Kq3)], app := [1] } (interp (wa_.env.at K) wa_.hint (callF (wa_.env.at K) 7) (Code.sub [1, 1, 0, 1, 0, 0] (Tryz.f68.body.getD .skip)) _)
theorem wa_.s0 (K n : Nat) (x : ((Jq15 × Jq23) × Jq12)) : wa_.r0 K (n + 1) x = wa_.t0 K (wa_.r0 K n) x := by kernel_rfl
theorem wa_.e0 (K n : Nat) : wa_.r0 K n = wa_.l0 K n := eqR (l := wa_.l0 K) _ (wa_.s0 K) (fun _ _ => rfl) (fun _ => rfl) n
theorem wa_.body_eq (K : Nat) (x : wa_.spec.args.den) : body (wa_.env.at K) 8 68 wa_.spec x = wa_.tr (wa_.r0 K) K x.1 x.2.1 := by kernel_rfl
theorem wa_.contract : Contract Tryz.prog gl 68 wa_.spec :=
  contract_of (E := wa_.env) (kn rfl (FnsOK_of ⟨⟨Tryz.func68, Tryz.call68⟩, trivial⟩)) (SpecsOK_of ⟨wB_.contract, trivial⟩) Tryz.call68 rfl rfl fun K x r h => by
    rw [wa_.body_eq, show wa_.r0 K = wa_.l0 K from funext (wa_.e0 K)]; exact h
def wa_.ospec : Dp.OSpec := { args := (.scons (.list Kq3) (.scons (.fn 69 (.scons (.ref (.list .str)) .snil)) .snil)), e := Kq3, F := fun K x => wa_ K x.1 x.2.1 }
theorem wa_.obody_eq (K : Nat) (x : wa_.ospec.args.den) : bodyO (wa_.env.at K) 8 68 wa_.ospec x = wa_.tr (wa_.r0 K) K x.1 x.2.1 := by kernel_rfl
theorem wa_.ocontract : OContract Tryz.prog gl 68 wa_.ospec :=
  ocontract_of (E := wa_.env) (kn rfl (FnsOK_of ⟨⟨Tryz.func68, Tryz.call68⟩, trivial⟩)) (SpecsOK_of ⟨wB_.contract, trivial⟩) Tryz.call68 rfl rfl rfl fun K x r h => by
    rw [wa_.obody_eq, show wa_.r0 K = wa_.l0 K from funext (wa_.e0 K)]; exact h
def wW_.spec : Dp.Spec := ⟨(.scons (.list Kq3) (.scons (.list .str) .snil)), (.list Kq3), false, fun K x => wW_ K x.1 x.2.1⟩
def wW_.hint : Dp.Hint := { n := 8, own := [4, 7], imm := [3] }
noncomputable def wW_.env : Dp.Env := ⟨ti, gl, [], [(68, wa_.ospec)], [(28, Tryz.f28, wW_.hint)], [], 0, 40⟩
theorem wW_.body_eq (K : Nat) (x : wW_.spec.args.den) : body (wW_.env.at K) 8 28 wW_.spec x = wW_ K x.1 x.2.1 := by kernel_rfl
theorem wW_.contract : Contract Tryz.prog gl 28 wW_.spec :=
  contract_of (E := wW_.env) (kn rfl (FnsOK_of ⟨⟨Tryz.func28, Tryz.call28⟩, trivial⟩)) (SpecsOK_of trivial trivial ⟨wa_.ocontract, trivial⟩) Tryz.call28 rfl rfl fun K x r h => by
    rw [wW_.body_eq]; exact h
def wW_.ospec : Dp.OSpec := { args := (.scons (.list Kq3) (.scons (.list .str) .snil)), e := Kq3, F := fun K x => wW_ K x.1 x.2.1 }
theorem wW_.obody_eq (K : Nat) (x : wW_.ospec.args.den) : bodyO (wW_.env.at K) 8 28 wW_.ospec x = wW_ K x.1 x.2.1 := by kernel_rfl
theorem wW_.ocontract : OContract Tryz.prog gl 28 wW_.ospec :=
  ocontract_of (E := wW_.env) (kn rfl (FnsOK_of ⟨⟨Tryz.func28, Tryz.call28⟩, trivial⟩)) (SpecsOK_of trivial trivial ⟨wa_.ocontract, trivial⟩) Tryz.call28 rfl rfl rfl fun K x r h => by
    rw [wW_.obody_eq]; exact h
def wbW.spec : Dp.Spec := ⟨Kq1, (.fn 168 (.scons (.ref .str) .snil)), false, fun K x => wbW K x.1⟩
def wbW.hint : Dp.Hint := { n := 4, imm := [1] }
noncomputable def wbW.env : Dp.Env := ⟨ti, gl, [], [], [(123, Tryz.f123, wbW.hint)], [], 0, 40⟩
theorem wbW.body_eq (K : Nat) (x : wbW.spec.args.den) : body (wbW.env.at K) 8 123 wbW.spec x = wbW K x.1 := by kernel_rfl
theorem wbW.contract : Contract Tryz.prog gl 123 wbW.spec :=
  contract_of (E := wbW.env) (kn rfl (FnsOK_of ⟨⟨Tryz.func123, Tryz.call123⟩, trivial⟩)) (SpecsOK_of trivial) Tryz.call123 rfl rfl fun K x r h => by
    rw [wbW.body_eq]; exact h
def wbG.spec : Dp.Spec := ⟨(.scons Kq3 (.scons (.ref .str) .snil)), .bool, false, fun K x => wbG K x.1 x.2.1⟩
def wbG.hint : Dp.Hint := { n := 8, imm := [2] }
noncomputable def wbG.env : Dp.Env := ⟨ti, gl, [], [], [(168, Tryz.f168, wbG.hint)], [(70, wbQ.spec)], 0, 40⟩
theorem wbG.body_eq (K : Nat) (x : wbG.spec.args.den) : body (wbG.env.at K) 8 168 wbG.spec x = wbG K x.1 x.2.1 := by kernel_rfl
theorem wbG.contract : Contract Tryz.prog gl 168 wbG.spec :=
  contract_of (E := wbG.env) (kn rfl (FnsOK_of ⟨⟨Tryz.func168, Tryz.call168⟩, trivial⟩)) (SpecsOK_of ⟨wbQ.contract, trivial⟩) Tryz.call168 rfl rfl fun K x r h => by
    rw [wbG.body_eq]; exact h
def we_.spec : Dp.Spec := ⟨(.scons (.list Kq3) (.scons (.fn 168 (.scons (.ref .str) .snil)) .snil)), (.list Kq3), false, fun K x => we_ K x.1 x.2.1⟩
def we_.hint : Dp.Hint := { n := 23, conds := [(16, [(.normal, { regs := [(1, (.fn 168 (.scons (.ref .str) .snil))), (5, (.slw 1)), (8, (.list Kq3)), (9, (.int .i64)), (10, (.int .i64))], heap := [(.row Kq3), (.row Kq3), Kq3], app := [1] })])], loops := [(3, { regs := [(1, (.fn 168 (.scons (.ref .str) .snil))), (5, (.slw 1)), (8, (.list Kq3)), (9, (.int .i64)), (10, (.int .i64))], heap := [(.row Kq3), (.row Kq3)], app := [1] }, [(.exit 0, { regs := [(5, (.slw 1))], heap := [(.row Kq3), (.row Kq3)], app := [1] })])], own := [4, 5] }
noncomputable def we_.env : Dp.Env := ⟨ti, gl, [], [], [(68, Tryz.f68, we_.hint)], [(168, wbG.spec)], 0, 40⟩
noncomputable def we_.r0 (K : Nat) : Nat → ((Jq0 × Jq23) × Jq12) → Option ((Jq8 × Jq12)) :=
  loopV [(.exit 0, { regs := [(5, (.slw 1))], heap := [(.row Kq3), (.row Kq3)], app := [1] })] { regs := [(1, (.fn 168 (.scons (.ref .str) .snil))), (5, (.slw 1)), (8, (.list Kq3)), (9, (.int .i64)), (10, (.int .i64))], heap := [(.row Kq3), (.row Kq3)], app := [1] } (interp (we_.env.at K) we_.hint (callF (we_.env.at K) 7) (Code.sub [1, 1, 0, 1, 0, 0] (Tryz.f68.body.getD .skip)) _)
theorem we_.s0 (K n : Nat) (x : ((Jq0 × Jq23) × Jq12)) : we_.r0 K (n + 1) x = we_.t0 K (we_.r0 K n) x := by kernel_rfl
theorem we_.e0 (K n : Nat) : we_.r0 K n = we_.l0 K n := eqR (l := we_.l0 K) _ (we_.s0 K) (fun _ _ => rfl) (fun _ => rfl) n
theorem we_.body_eq (K : Nat) (x : we_.spec.args.den) : body (we_.env.at K) 8 68 we_.spec x = we_.tr (we_.r0 K) K x.1 x.2.1 := by kernel_rfl
theorem we_.contract : Contract Tryz.prog gl 68 we_.spec :=
  contract_of (E := we_.env) (kn rfl (FnsOK_of ⟨⟨Tryz.func68, Tryz.call68⟩, trivial⟩)) (SpecsOK_of ⟨wbG.contract, trivial⟩) Tryz.call68 rfl rfl fun K x r h => by
    rw [we_.body_eq, show we_.r0 K = we_.l0 K from funext (we_.e0 K)]; exact h
def wR_.spec : Dp.Spec := ⟨(.scons (.list Kq3) Kq1), (.list .str), false, fun K x => wR_ K x.1 x.2.1⟩
def wR_.hint : Dp.Hint := { n := 24, loops := [(3, { regs := [(5, (.slw 1)), (11, (.list Kq3)), (12, (.int .i64)), (13, (.int .i64))], heap := [(.row .str), (.row .str)], app := [1] }, [(.exit 0, { regs := [(5, (.slw 1))], heap := [(.row .str), (.row .str)], app := [1] })])], own := [4, 5] }
noncomputable def wR_.env : Dp.Env := ⟨ti, gl, [], [], [(71, Tryz.f71, wR_.hint)], [(123, wbW.spec), (68, we_.spec)], 0, 40⟩
noncomputable def wR_.r0 (K : Nat) : Nat → (Jq23 × Jq6) → Option ((Jq8 × Jq6)) :=
  loopV [(.exit 0, { regs := [(5, (.slw 1))], heap := [(.row .str), (.row .str)], app := [1] })] { regs := [(5, (.slw 1)), (11, (.list Kq3)), (12, (.int .i64)), (13, (.int .i64))], heap := [(.row .str), (.row .str)], app := [1] } (interp (wR_.env.at K) wR_.hint (callF (wR_.env.at K) 7) (Code.sub [1, 1, 0, 1, 0, 0] (Tryz.f71.body.getD .skip)) _)
theorem wR_.s0 (K n : Nat) (x : (Jq23 × Jq6)) : wR_.r0 K (n + 1) x = wR_.t0 K (wR_.r0 K n) x := by kernel_rfl
theorem wR_.e0 (K n : Nat) : wR_.r0 K n = wR_.l0 K n := eqR (l := wR_.l0 K) _ (wR_.s0 K) (fun _ _ => rfl) (fun _ => rfl) n
theorem wR_.body_eq (K : Nat) (x : wR_.spec.args.den) : body (wR_.env.at K) 8 71 wR_.spec x = wR_.tr (wR_.r0 K) K x.1 x.2.1 := by kernel_rfl
theorem wR_.contract : Contract Tryz.prog gl 71 wR_.spec :=
  contract_of (E := wR_.env) (kn rfl (FnsOK_of ⟨⟨Tryz.func71, Tryz.call71⟩, trivial⟩)) (SpecsOK_of ⟨wbW.contract, we_.contract, trivial⟩) Tryz.call71 rfl rfl fun K x r h => by
    rw [wR_.body_eq, show wR_.r0 K = wR_.l0 K from funext (wR_.e0 K)]; exact h
def w0_.spec : Dp.Spec := ⟨Kq3, .bool, false, fun K x => w0_ K x.1 x.2.1⟩
def w0_.hint : Dp.Hint := { n := 18 }
noncomputable def w0_.env : Dp.Env := ⟨ti, gl, [], [], [(223, Tryz.f223, w0_.hint)], [], 0, 40⟩
theorem w0_.body_eq (K : Nat) (x : w0_.spec.args.den) : body (w0_.env.at K) 8 223 w0_.spec x = w0_ K x.1 x.2.1 := by kernel_rfl
theorem w0_.contract : Contract Tryz.prog gl 223 w0_.spec :=
  contract_of (E := w0_.env) (kn rfl (FnsOK_of ⟨⟨Tryz.func223, Tryz.call223⟩, trivial⟩)) (SpecsOK_of trivial) Tryz.call223 rfl rfl fun K x r h => by
    rw [w0_.body_eq]; exact h
def w3_.spec : Dp.Spec := ⟨Kq3, (.tup (.scons .str (.scons .bool .snil))), false, fun K x => w3_ K x.1 x.2.1⟩
def w3_.hint : Dp.Hint := { n := 15 }
noncomputable def w3_.env : Dp.Env := ⟨ti, gl, [], [], [(171, Tryz.f171, w3_.hint)], [(223, w0_.spec)], 0, 40⟩
theorem w3_.body_eq (K : Nat) (x : w3_.spec.args.den) : body (w3_.env.at K) 8 171 w3_.spec x = w3_ K x.1 x.2.1 := by kernel_rfl
theorem w3_.contract : Contract Tryz.prog gl 171 w3_.spec :=
  contract_of (E := w3_.env) (kn rfl (FnsOK_of ⟨⟨Tryz.func171, Tryz.call171⟩, trivial⟩)) (SpecsOK_of ⟨w0_.contract, trivial⟩) Tryz.call171 rfl rfl fun K x r h => by
    rw [w3_.body_eq]; exact h
def wbm.spec : Dp.Spec := ⟨Kq3, (.tup (.scons .str (.scons .bool .snil))), false, fun K x => wbm K x.1 x.2.1⟩
def wbm.hint : Dp.Hint := { n := 11 }
noncomputable def wbm.env : Dp.Env := ⟨ti, gl, [], [], [(127, Tryz.f127, wbm.hint)], [(171, w3_.spec)], 0, 40⟩
theorem wbm.body_eq (K : Nat) (x : wbm.spec.args.den) : body (wbm.env.at K) 8 127 wbm.spec x = wbm K x.1 x.2.1 := by kernel_rfl
theorem wbm.contract : Contract Tryz.prog gl 127 wbm.spec :=
  contract_of (E := wbm.env) (kn rfl (FnsOK_of ⟨⟨Tryz.func127, Tryz.call127⟩, trivial⟩)) (SpecsOK_of ⟨w3_.contract, trivial⟩) Tryz.call127 rfl rfl fun K x r h => by
    rw [wbm.body_eq]; exact h
def wb0.spec : Dp.Spec := ⟨(.scons (.int .u8) .snil), .bool, false, fun K x => wb0 K x.1⟩
def wb0.hint : Dp.Hint := { n := 13 }
noncomputable def wb0.env : Dp.Env := ⟨ti, gl, [], [], [(128, Tryz.f128, wb0.hint)], [], 0, 40⟩
theorem wb0.body_eq (K : Nat) (x : wb0.spec.args.den) : body (wb0.env.at K) 8 128 wb0.spec x = wb0 K x.1 := by kernel_rfl
theorem wb0.contract : Contract Tryz.prog gl 128 wb0.spec :=
  contract_of (E := wb0.env) (kn rfl (FnsOK_of ⟨⟨Tryz.func128, Tryz.call128⟩, trivial⟩)) (SpecsOK_of trivial) Tryz.call128 rfl rfl fun K x r h => by
    rw [wb0.body_eq]; exact h
def wX_.spec : Dp.Spec := ⟨Kq1, (.tup (.scons Kq4 (.scons .bool .snil))), false, fun K x => wX_ K x.1⟩
def wX_.hint : Dp.Hint := { n := 51, regions := [(2, [(.normal, { regs := [(0, .str), (2, (.loc 0 false [])), (4, .bool), (28, .bool)], heap := [Kq4] })])], loops := [(6, { regs := [(2, (.loc 0 false [])), (5, (.loc 1 false [])), (39, (.list (.int .u8))), (40, (.int .i64)), (41, (.int .i64))], heap := [Kq4, Kq4] }, [(.exit 0, { regs := [(2, (.loc 0 false [])), (5, (.loc 1 false []))], heap := [Kq4, Kq4] }), (.ret, { regs := [(2, (.loc 0 false [])), (3, .bool)], heap := [Kq4, Kq4] })])] }
noncomputable def wX_.env : Dp.Env := ⟨ti, gl, [], [], [(73, Tryz.f73, wX_.hint)], [(127, wbm.spec), (128, wb0.spec)], 0, 40⟩
noncomputable def wX_.r0 (K : Nat) : Nat → (((Nat) × ((Nat) × ((List (Int)) × Jq9))) × Jq21) → Option ((Jq28 × Jq21) ⊕ (((Nat) × Jq7) × Jq21)) :=
  loopV [(.exit 0, { regs := [(2, (.loc 0 false [])), (5, (.loc 1 false []))], heap := [Kq4, Kq4] }), (.ret, { regs := [(2, (.loc 0 false [])), (3, .bool)], heap := [Kq4, Kq4] })] { regs := [(2, (.loc 0 false [])), (5, (.loc 1 false [])), (39, (.list (.int .u8))), (40, (.int .i64)), (41, (.int .i64))], heap := [Kq4, Kq4] } (interp (wX_.env.at K) wX_.hint (callF (wX_.env.at K) 7) (Code.sub [1, 1, 1, 1, 0, 1, 0, 0] (Tryz.f73.body.getD .skip)) _)
theorem wX_.s0 (K n : Nat) (x : (((Nat) × ((Nat) × ((List (Int)) × Jq9))) × Jq21)) : wX_.r0 K (n + 1) x = wX_.t0 K (wX_.r0 K n) x := by kernel_rfl
theorem wX_.e0 (K n : Nat) : wX_.r0 K n = wX_.l0 K n := eqR (l := wX_.l0 K) _ (wX_.s0 K) (fun _ _ => rfl) (fun _ => rfl) n
theorem wX_.body_eq (K : Nat) (x : wX_.spec.args.den) : body (wX_.env.at K) 8 73 wX_.spec x = wX_.tr (wX_.r0 K) K x.1 := by kernel_rfl
theorem wX_.contract : Contract Tryz.prog gl 73 wX_.spec :=
  contract_of (E := wX_.env) (kn rfl (FnsOK_of ⟨⟨Tryz.func73, Tryz.call73⟩, trivial⟩)) (SpecsOK_of ⟨wbm.contract, wb0.contract, trivial⟩) Tryz.call73 rfl rfl fun K x r h => by
    rw [wX_.body_eq, show wX_.r0 K = wX_.l0 K from funext (wX_.e0 K)]; exact h
def wb3.spec : Dp.Spec := ⟨(.scons Kq6 .snil), (.tup (.scons Kq4 (.scons .bool .snil))), false, fun K x => wb3 K x.1⟩
def wb3.hint : Dp.Hint := { n := 18, imm := [1] }
noncomputable def wb3.env : Dp.Env := ⟨ti, gl, [], [], [(30, Tryz.f30, wb3.hint)], [(71, wR_.spec), (73, wX_.spec)], 0, 40⟩
theorem wb3.body_eq (K : Nat) (x : wb3.spec.args.den) : body (wb3.env.at K) 8 30 wb3.spec x = wb3 K x.1 := by kernel_rfl
theorem wb3.contract : Contract Tryz.prog gl 30 wb3.spec :=
  contract_of (E := wb3.env) (kn rfl (FnsOK_of ⟨⟨Tryz.func30, Tryz.call30⟩, trivial⟩)) (SpecsOK_of ⟨wR_.contract, wX_.contract, trivial⟩) Tryz.call30 rfl rfl fun K x r h => by
    rw [wb3.body_eq]; exact h
def w5_.spec : Dp.Spec := ⟨(.scons (.scons Kq6 .snil) .snil), (.tup (.scons Kq4 (.scons .bool .snil))), false, fun K x => w5_ K x.1⟩
def w5_.hint : Dp.Hint := { n := 9, imm := [1] }
noncomputable def w5_.env : Dp.Env := ⟨ti, gl, [], [], [(61, Tryz.f61, w5_.hint)], [(30, wb3.spec)], 0, 40⟩
theorem w5_.body_eq (K : Nat) (x : w5_.spec.args.den) : body (w5_.env.at K) 8 61 w5_.spec x = w5_ K x.1 := by kernel_rfl
theorem w5_.contract : Contract Tryz.prog gl 61 w5_.spec :=
  contract_of (E := w5_.env) (kn rfl (FnsOK_of ⟨⟨Tryz.func61, Tryz.call61⟩, trivial⟩)) (SpecsOK_of ⟨wb3.contract, trivial⟩) Tryz.call61 rfl rfl fun K x r h => by
    rw [w5_.body_eq]; exact h
def wca.spec : Dp.Spec := ⟨(.scons Kq4 .snil), .str, false, fun K x => wca K x.1⟩
def wca.hint : Dp.Hint := { n := 13, imm := [1] }
noncomputable def wca.env : Dp.Env := ⟨ti, gl, [], [], [(31, Tryz.f31, wca.hint)], [], 0, 40⟩
theorem wca.body_eq (K : Nat) (x : wca.spec.args.den) : body (wca.env.at K) 8 31 wca.spec x = wca K x.1 := by kernel_rfl
theorem wca.contract : Contract Tryz.prog gl 31 wca.spec :=
  contract_of (E := wca.env) (kn rfl (FnsOK_of ⟨⟨Tryz.func31, Tryz.call31⟩, trivial⟩)) (SpecsOK_of trivial) Tryz.call31 rfl rfl fun K x r h => by
    rw [wca.body_eq]; exact h
def wbe.spec : Dp.Spec := ⟨(.scons .str (.scons (.int .u8) .snil)), (.int .i64), false, fun K x => wbe K x.1 x.2.1⟩
def wbe.hint : Dp.Hint := { n := 8 }
noncomputable def wbe.env : Dp.Env := ⟨ti, gl, [], [], [(202, Tryz.f202, wbe.hint)], [(249, ixb.spec)], 0, 40⟩
theorem wbe.body_eq (K : Nat) (x : wbe.spec.args.den) : body (wbe.env.at K) 8 202 wbe.spec x = wbe K x.1 x.2.1 := by kernel_rfl
theorem wbe.contract : Contract Tryz.prog gl 202 wbe.spec :=
  contract_of (E := wbe.env) (kn rfl (FnsOK_of ⟨⟨Tryz.func202, Tryz.call202⟩, trivial⟩)) (SpecsOK_of ⟨ixb.contract, trivial⟩) Tryz.call202 rfl rfl fun K x r h => by
    rw [wbe.body_eq]; exact h
def wbE.spec : Dp.Spec := ⟨(.scons .str (.scons (.int .u8) .snil)), (.int .i64), false, fun K x => wbE K x.1 x.2.1⟩
def wbE.hint : Dp.Hint := { n := 8 }
noncomputable def wbE.env : Dp.Env := ⟨ti, gl, [], [], [(156, Tryz.f156, wbE.hint)], [(202, wbe.spec)], 0, 40⟩
theorem wbE.body_eq (K : Nat) (x : wbE.spec.args.den) : body (wbE.env.at K) 8 156 wbE.spec x = wbE K x.1 x.2.1 := by kernel_rfl
theorem wbE.contract : Contract Tryz.prog gl 156 wbE.spec :=
  contract_of (E := wbE.env) (kn rfl (FnsOK_of ⟨⟨Tryz.func156, Tryz.call156⟩, trivial⟩)) (SpecsOK_of ⟨wbe.contract, trivial⟩) Tryz.call156 rfl rfl fun K x r h => by
    rw [wbE.body_eq]; exact h
def wbH.spec : Dp.Spec := ⟨(.scons (.int .i64) (.scons (.int .i64) (.scons (.ref .str) .snil))), .str, false, fun K x => wbH K x.1 x.2.1 x.2.2.1⟩
def wbH.hint : Dp.Hint := { n := 18 }
noncomputable def wbH.env : Dp.Env := ⟨ti, gl, [], [], [(203, Tryz.f203, wbH.hint)], [], 0, 40⟩
theorem wbH.body_eq (K : Nat) (x : wbH.spec.args.den) : body (wbH.env.at K) 8 203 wbH.spec x = wbH K x.1 x.2.1 x.2.2.1 := by kernel_rfl
theorem wbH.contract : Contract Tryz.prog gl 203 wbH.spec :=
  contract_of (E := wbH.env) (kn rfl (FnsOK_of ⟨⟨Tryz.func203, Tryz.call203⟩, trivial⟩)) (SpecsOK_of trivial) Tryz.call203 rfl rfl fun K x r h => by
    rw [wbH.body_eq]; exact h
def wl_.spec : Dp.Spec := ⟨(.scons .str (.scons (.int .u8) .snil)), .str, false, fun K x => wl_ K x.1 x.2.1⟩
def wl_.hint : Dp.Hint := { n := 17, regions := [(1, [(.normal, { regs := [(0, .str), (1, (.int .u8)), (13, .bool)] })])], loops := [(1, { regs := [(0, .str), (1, (.int .u8))] }, [(.exit 0, { regs := [(0, .str)] })])] }
noncomputable def wl_.env : Dp.Env := ⟨ti, gl, [], [], [(242, Tryz.f242, wl_.hint)], [], 0, 40⟩
noncomputable def wl_.r0 (K : Nat) : Nat → Jq25 → Option (Jq24) :=
  loopV [(.exit 0, { regs := [(0, .str)] })] { regs := [(0, .str), (1, (.int .u8))] } (interp (wl_.env.at K) wl_.hint (callF (wl_.env.at K) 7) (Code.sub [1, 0, 0, 0] (Tryz.f242.body.getD .skip)) _)
theorem wl_.s0 (K n : Nat) (x : Jq25) : wl_.r0 K (n + 1) x = wl_.t0 K (wl_.r0 K n) x := by kernel_rfl
theorem wl_.e0 (K n : Nat) : wl_.r0 K n = wl_.l0 K n := eqR (l := wl_.l0 K) _ (wl_.s0 K) (fun _ _ => rfl) (fun _ => rfl) n
theorem wl_.body_eq (K : Nat) (x : wl_.spec.args.den) : body (wl_.env.at K) 8 242 wl_.spec x = wl_.tr (wl_.r0 K) K x.1 x.2.1 := by kernel_rfl
theorem wl_.contract : Contract Tryz.prog gl 242 wl_.spec :=
  contract_of (E := wl_.env) (kn rfl (FnsOK_of ⟨⟨Tryz.func242, Tryz.call242⟩, trivial⟩)) (SpecsOK_of trivial) Tryz.call242 rfl rfl fun K x r h => by
    rw [wl_.body_eq, show wl_.r0 K = wl_.l0 K from funext (wl_.e0 K)]; exact h
def wI_.spec : Dp.Spec := ⟨(.scons (.ref (.arr 256 .bool)) (.scons (.int .u8) .snil)), .bool, false, fun K x => wI_ K x.1 x.2.1⟩
def wI_.hint : Dp.Hint := { n := 10 }
noncomputable def wI_.env : Dp.Env := ⟨ti, gl, [], [], [(269, Tryz.f269, wI_.hint)], [], 0, 40⟩
theorem wI_.body_eq (K : Nat) (x : wI_.spec.args.den) : body (wI_.env.at K) 8 269 wI_.spec x = wI_ K x.1 x.2.1 := by kernel_rfl
theorem wI_.contract : Contract Tryz.prog gl 269 wI_.spec :=
  contract_of (E := wI_.env) (kn rfl (FnsOK_of ⟨⟨Tryz.func269, Tryz.call269⟩, trivial⟩)) (SpecsOK_of trivial) Tryz.call269 rfl rfl fun K x r h => by
    rw [wI_.body_eq]; exact h
def wf_.spec : Dp.Spec := ⟨(.scons .str (.scons (.ref (.arr 256 .bool)) .snil)), .str, false, fun K x => wf_ K x.1 x.2.1⟩
def wf_.hint : Dp.Hint := { n := 16, loops := [(1, { regs := [(0, .str), (1, (.ref (.arr 256 .bool)))] }, [(.exit 0, { regs := [(0, .str)] })])] }
noncomputable def wf_.env : Dp.Env := ⟨ti, gl, [], [], [(245, Tryz.f245, wf_.hint)], [(269, wI_.spec)], 0, 40⟩
noncomputable def wf_.r0 (K : Nat) : Nat → Jq32 → Option (Jq24) :=
  loopV [(.exit 0, { regs := [(0, .str)] })] { regs := [(0, .str), (1, (.ref (.arr 256 .bool)))] } (interp (wf_.env.at K) wf_.hint (callF (wf_.env.at K) 7) (Code.sub [1, 0, 0, 0] (Tryz.f245.body.getD .skip)) _)
theorem wf_.s0 (K n : Nat) (x : Jq32) : wf_.r0 K (n + 1) x = wf_.t0 K (wf_.r0 K n) x := by kernel_rfl
theorem wf_.e0 (K n : Nat) : wf_.r0 K n = wf_.l0 K n := eqR (l := wf_.l0 K) _ (wf_.s0 K) (fun _ _ => rfl) (fun _ => rfl) n
theorem wf_.body_eq (K : Nat) (x : wf_.spec.args.den) : body (wf_.env.at K) 8 245 wf_.spec x = wf_.tr (wf_.r0 K) K x.1 x.2.1 := by kernel_rfl
theorem wf_.contract : Contract Tryz.prog gl 245 wf_.spec :=
  contract_of (E := wf_.env) (kn rfl (FnsOK_of ⟨⟨Tryz.func245, Tryz.call245⟩, trivial⟩)) (SpecsOK_of ⟨wI_.contract, trivial⟩) Tryz.call245 rfl rfl fun K x r h => by
    rw [wf_.body_eq, show wf_.r0 K = wf_.l0 K from funext (wf_.e0 K)]; exact h
def wbI.spec : Dp.Spec := ⟨Kq3, .str, false, fun K x => wbI K x.1 x.2.1⟩
def wbI.hint : Dp.Hint := { n := 37, regions := [(1, [(.normal, { regs := [(0, .str), (1, .str), (12, .bool)] })]), (3, [(.normal, { regs := [(0, .str), (1, .str), (21, .bool)] })])] }
noncomputable def wbI.env : Dp.Env := ⟨ti, gl, [], [], [(251, Tryz.f251, wbI.hint)], [(242, wl_.spec), (245, wf_.spec), (244, asciiSet.spec)], 0, 40⟩
theorem wbI.body_eq (K : Nat) (x : wbI.spec.args.den) : body (wbI.env.at K) 8 251 wbI.spec x = wbI K x.1 x.2.1 := by kernel_rfl
theorem wbI.contract : Contract Tryz.prog gl 251 wbI.spec :=
  contract_of (E := wbI.env) (kn rfl (FnsOK_of ⟨⟨Tryz.func251, Tryz.call251⟩, trivial⟩)) (SpecsOK_of ⟨wl_.contract, wf_.contract, asciiSet.contract, trivial⟩) Tryz.call251 rfl rfl fun K x r h => by
    rw [wbI.body_eq]; exact h
def wbR.spec : Dp.Spec := ⟨(.scons (.int .i32) Kq5), (.int .i64), false, fun K x => wbR K x.1 x.2.1⟩
def wbR.hint : Dp.Hint := { n := 42, conds := [(6, [(.normal, { regs := [(1, (.int .i64)), (5, (.int .i64))] })]), (16, [(.normal, { regs := [(1, (.int .i64)), (5, (.int .i64))] })]), (27, [(.normal, { regs := [(1, (.int .i64)), (5, (.int .i64))] })])], regions := [(2, [(.normal, { regs := [(0, (.int .i32)), (1, (.int .i64)), (5, (.int .i64)), (6, .bool)] })]), (4, [(.normal, { regs := [(0, (.int .i32)), (1, (.int .i64)), (5, (.int .i64)), (16, .bool)] })]), (6, [(.normal, { regs := [(0, (.int .i32)), (1, (.int .i64)), (5, (.int .i64)), (27, .bool)] })])] }
noncomputable def wbR.env : Dp.Env := ⟨ti, gl, [], [], [(200, Tryz.f200, wbR.hint)], [], 0, 40⟩
theorem wbR.body_eq (K : Nat) (x : wbR.spec.args.den) : body (wbR.env.at K) 8 200 wbR.spec x = wbR K x.1 x.2.1 := by kernel_rfl
theorem wbR.contract : Contract Tryz.prog gl 200 wbR.spec :=
  contract_of (E := wbR.env) (kn rfl (FnsOK_of ⟨⟨Tryz.func200, Tryz.call200⟩, trivial⟩)) (SpecsOK_of trivial) Tryz.call200 rfl rfl fun K x r h => by
    rw [wbR.body_eq]; exact h
def wZ_.spec : Dp.Spec := ⟨(.scons .str (.scons (.int .i64) Kq7)), (.tup Kq7), false, fun K x => wZ_ K x.1 x.2.1 x.2.2.1 x.2.2.2.1⟩
def wZ_.hint : Dp.Hint := { n := 41, regions := [(1, [(.normal, { regs := [(0, .str), (1, (.int .i64)), (3, (.int .i64)), (21, .bool)] })])], loops := [(5, { regs := [(1, (.int .i64)), (3, (.int .i64)), (10, (.int .i64)), (23, (.loc 0 false []))], heap := [.iter] }, [(.exit 0, { regs := [(3, (.int .i64)), (10, (.int .i64))], heap := [.iter] }), (.ret, { regs := [(8, (.int .i64)), (9, (.int .i64))], heap := [.iter] })])] }
noncomputable def wZ_.env : Dp.Env := ⟨ti, gl, [], [], [(273, Tryz.f273, wZ_.hint)], [(200, wbR.spec)], 0, 40⟩
noncomputable def wZ_.r0 (K : Nat) : Nat → (((Int) × ((Int) × ((Int) × ((Nat) × (Unit))))) × ((List UInt8 × Nat) × (Unit))) → Option ((Jq9 × ((List UInt8 × Nat) × (Unit))) ⊕ (Jq9 × ((List UInt8 × Nat) × (Unit)))) :=
  loopV [(.exit 0, { regs := [(3, (.int .i64)), (10, (.int .i64))], heap := [.iter] }), (.ret, { regs := [(8, (.int .i64)), (9, (.int .i64))], heap := [.iter] })] { regs := [(1, (.int .i64)), (3, (.int .i64)), (10, (.int .i64)), (23, (.loc 0 false []))], heap := [.iter] } (interp (wZ_.env.at K) wZ_.hint (callF (wZ_.env.at K) 7) (Code.sub [1, 1, 1, 0, 1, 0, 0] (Tryz.f273.body.getD .skip)) _)
theorem wZ_.s0 (K n : Nat) (x : (((Int) × ((Int) × ((Int) × ((Nat) × (Unit))))) × ((List UInt8 × Nat) × (Unit)))) : wZ_.r0 K (n + 1) x = wZ_.t0 K (wZ_.r0 K n) x := by kernel_rfl
theorem wZ_.e0 (K n : Nat) : wZ_.r0 K n = wZ_.l0 K n := eqR (l := wZ_.l0 K) _ (wZ_.s0 K) (fun _ _ => rfl) (fun _ => rfl) n
theorem wZ_.body_eq (K : Nat) (x : wZ_.spec.args.den) : body (wZ_.env.at K) 8 273 wZ_.spec x = wZ_.tr (wZ_.r0 K) K x.1 x.2.1 x.2.2.1 x.2.2.2.1 := by kernel_rfl
theorem wZ_.contract : Contract Tryz.prog gl 273 wZ_.spec :=
  contract_of (E := wZ_.env) (kn rfl (FnsOK_of ⟨⟨Tryz.func273, Tryz.call273⟩, trivial⟩)) (SpecsOK_of ⟨wbR.contract, trivial⟩) Tryz.call273 rfl rfl fun K x r h => by
    rw [wZ_.body_eq, show wZ_.r0 K = wZ_.l0 K from funext (wZ_.e0 K)]; exact h
def wbN.spec : Dp.Spec := ⟨(.scons .str Kq5), (.tup Kq7), false, fun K x => wbN K x.1 x.2.1⟩
def wbN.hint : Dp.Hint := { n := 11 }
noncomputable def wbN.env : Dp.Env := ⟨ti, gl, [], [], [(250, Tryz.f250, wbN.hint)], [(273, wZ_.spec)], 0, 40⟩
theorem wbN.body_eq (K : Nat) (x : wbN.spec.args.den) : body (wbN.env.at K) 8 250 wbN.spec x = wbN K x.1 x.2.1 := by kernel_rfl
theorem wbN.contract : Contract Tryz.prog gl 250 wbN.spec :=
  contract_of (E := wbN.env) (kn rfl (FnsOK_of ⟨⟨Tryz.func250, Tryz.call250⟩, trivial⟩)) (SpecsOK_of ⟨wZ_.contract, trivial⟩) Tryz.call250 rfl rfl fun K x r h => by
    rw [wbN.body_eq]; exact h
def wbS.spec : Dp.Spec := ⟨Kq1, (.int .i64), false, fun K x => wbS K x.1⟩
def wbS.hint : Dp.Hint := { n := 14 }
noncomputable def wbS.env : Dp.Env := ⟨ti, gl, [], [], [(204, Tryz.f204, wbS.hint)], [(251, wbI.spec), (250, wbN.spec)], 0, 40⟩
theorem wbS.body_eq (K : Nat) (x : wbS.spec.args.den) : body (wbS.env.at K) 8 204 wbS.spec x = wbS K x.1 := by kernel_rfl
theorem wbS.contract : Contract Tryz.prog gl 204 wbS.spec :=
  contract_of (E := wbS.env) (kn rfl (FnsOK_of ⟨⟨Tryz.func204, Tryz.call204⟩, trivial⟩)) (SpecsOK_of ⟨wbI.contract, wbN.contract, trivial⟩) Tryz.call204 rfl rfl fun K x r h => by
    rw [wbS.body_eq]; exact h
def wbX.spec : Dp.Spec := ⟨Kq5, (.int .i64), false, fun K x => wbX K x.1⟩
def wbX.hint : Dp.Hint := { n := 9 }
noncomputable def wbX.env : Dp.Env := ⟨ti, gl, [], [], [(205, Tryz.f205, wbX.hint)], [], 0, 40⟩
theorem wbX.body_eq (K : Nat) (x : wbX.spec.args.den) : body (wbX.env.at K) 8 205 wbX.spec x = wbX K x.1 := by kernel_rfl
theorem wbX.contract : Contract Tryz.prog gl 205 wbX.spec :=
  contract_of (E := wbX.env) (kn rfl (FnsOK_of ⟨⟨Tryz.func205, Tryz.call205⟩, trivial⟩)) (SpecsOK_of trivial) Tryz.call205 rfl rfl fun K x r h => by
    rw [wbX.body_eq]; exact h
def wbl.spec : Dp.Spec := ⟨Kq1, (.int .i64), false, fun K x => wbl K x.1⟩
def wbl.hint : Dp.Hint := { n := 16, loops := [(2, { regs := [(0, .str), (5, (.arr 12 .str)), (6, (.int .i64))] }, [(.exit 0, { regs := [] }), (.ret, { regs := [(2, (.int .i64))] })])] }
noncomputable def wbl.env : Dp.Env := ⟨ti, gl, [], [], [(207, Tryz.f207, wbl.hint)], [], 0, 40⟩
noncomputable def wbl.r0 (K : Nat) : Nat → Jq19 → Option (Jq8 ⊕ (Jq3 × (Unit))) :=
  loopV [(.exit 0, { regs := [] }), (.ret, { regs := [(2, (.int .i64))] })] { regs := [(0, .str), (5, (.arr 12 .str)), (6, (.int .i64))] } (interp (wbl.env.at K) wbl.hint (callF (wbl.env.at K) 7) (Code.sub [1, 0, 1, 0, 0] (Tryz.f207.body.getD .skip)) _)
theorem wbl.s0 (K n : Nat) (x : Jq19) : wbl.r0 K (n + 1) x = wbl.t0 K (wbl.r0 K n) x := by kernel_rfl
theorem wbl.e0 (K n : Nat) : wbl.r0 K n = wbl.l0 K n := eqR (l := wbl.l0 K) _ (wbl.s0 K) (fun _ _ => rfl) (fun _ => rfl) n
theorem wbl.body_eq (K : Nat) (x : wbl.spec.args.den) : body (wbl.env.at K) 8 207 wbl.spec x = wbl.tr (wbl.r0 K) K x.1 := by kernel_rfl
theorem wbl.contract : Contract Tryz.prog gl 207 wbl.spec :=
  contract_of (E := wbl.env) (kn rfl (FnsOK_of ⟨⟨Tryz.func207, Tryz.call207⟩, trivial⟩)) (SpecsOK_of trivial) Tryz.call207 rfl rfl fun K x r h => by
    rw [wbl.body_eq, show wbl.r0 K = wbl.l0 K from funext (wbl.e0 K)]; exact h
def wb8.spec : Dp.Spec := ⟨(.scons (.int .i64) Kq7), (.int .i64), false, fun K x => wb8 K x.1 x.2.1 x.2.2.1⟩
def wb8.hint : Dp.Hint := { n := 34, conds := [(8, [(.normal, { regs := [(0, (.int .i64)), (1, (.int .i64)), (2, (.int .i64))] })])] }
noncomputable def wb8.env : Dp.Env := ⟨ti, gl, [], [], [(252, Tryz.f252, wb8.hint)], [], 0, 40⟩
theorem wb8.body_eq (K : Nat) (x : wb8.spec.args.den) : body (wb8.env.at K) 8 252 wb8.spec x = wb8 K x.1 x.2.1 x.2.2.1 := by kernel_rfl
theorem wb8.contract : Contract Tryz.prog gl 252 wb8.spec :=
  contract_of (E := wb8.env) (kn rfl (FnsOK_of ⟨⟨Tryz.func252, Tryz.call252⟩, trivial⟩)) (SpecsOK_of trivial) Tryz.call252 rfl rfl fun K x r h => by
    rw [wb8.body_eq]; exact h
def wbY.spec : Dp.Spec := ⟨Kq5, (.tup (.scons (.int .i64) (.scons (.int .i64) (.scons (.int .i64) (.scons .bool .snil))))), false, fun K x => wbY K x.1⟩
def wbY.hint : Dp.Hint := { n := 70, conds := [(62, [(.normal, { regs := [(8, (.int .i64)), (9, (.int .i64)), (10, (.int .i64))] })])], regions := [(1, [(.normal, { regs := [(0, (.int .i64)), (16, .bool)] })])] }
noncomputable def wbY.env : Dp.Env := ⟨ti, gl, [], [], [(253, Tryz.f253, wbY.hint)], [], 0, 40⟩
theorem wbY.body_eq (K : Nat) (x : wbY.spec.args.den) : body (wbY.env.at K) 8 253 wbY.spec x = wbY K x.1 := by kernel_rfl
theorem wbY.contract : Contract Tryz.prog gl 253 wbY.spec :=
  contract_of (E := wbY.env) (kn rfl (FnsOK_of ⟨⟨Tryz.func253, Tryz.call253⟩, trivial⟩)) (SpecsOK_of trivial) Tryz.call253 rfl rfl fun K x r h => by
    rw [wbY.body_eq]; exact h
def wcd.spec : Dp.Spec := ⟨(.scons (.int .i64) Kq7), (.tup (.scons (.int .i64) (.scons .bool .snil))), false, fun K x => wcd K x.1 x.2.1 x.2.2.1⟩
def wcd.hint : Dp.Hint := { n := 64, regions := [(1, [(.normal, { regs := [(0, (.int .i64)), (1, (.int .i64)), (2, (.int .i64)), (34, .bool)] })]), (5, [(.normal, { regs := [(8, (.int .i64)), (62, .bool)] })])] }
noncomputable def wcd.env : Dp.Env := ⟨ti, gl, [], [], [(206, Tryz.f206, wcd.hint)], [(252, wb8.spec), (253, wbY.spec)], 0, 40⟩
theorem wcd.body_eq (K : Nat) (x : wcd.spec.args.den) : body (wcd.env.at K) 8 206 wcd.spec x = wcd K x.1 x.2.1 x.2.2.1 := by kernel_rfl
theorem wcd.contract : Contract Tryz.prog gl 206 wcd.spec :=
  contract_of (E := wcd.env) (kn rfl (FnsOK_of ⟨⟨Tryz.func206, Tryz.call206⟩, trivial⟩)) (SpecsOK_of ⟨wb8.contract, wbY.contract, trivial⟩) Tryz.call206 rfl rfl fun K x r h => by
    rw [wcd.body_eq]; exact h
def wcc.spec : Dp.Spec := ⟨(.scons .str (.scons (.int .i64) (.scons (.int .i64) (.scons (.int .i64) Kq7)))), (.int .i64), false, fun K x => wcc K x.1 x.2.1 x.2.2.1 x.2.2.2.1 x.2.2.2.2.1 x.2.2.2.2.2.1⟩
def wcc.hint : Dp.Hint := { n := 97, conds := [(31, [(.normal, { regs := [(1, (.int .i64)), (2, (.int .i64)), (5, (.int .i64)), (13, (.fn 203 (.scons (.ref .str) .snil))), (14, (.int .i64))] })])], regions := [(3, [(.normal, { regs := [(1, (.int .i64)), (2, (.int .i64)), (5, (.int .i64)), (13, (.fn 203 (.scons (.ref .str) .snil))), (14, (.int .i64)), (31, .bool)] })]), (7, [(.normal, { regs := [(15, (.int .i64)), (17, (.int .i64)), (18, (.int .i64)), (19, (.int .i64)), (86, .bool)] })])], imm := [6] }
noncomputable def wcc.env : Dp.Env := ⟨ti, gl, [], [], [(157, Tryz.f157, wcc.hint)], [(203, wbH.spec), (204, wbS.spec), (205, wbX.spec), (207, wbl.spec), (206, wcd.spec)], 0, 40⟩
theorem wcc.body_eq (K : Nat) (x : wcc.spec.args.den) : body (wcc.env.at K) 8 157 wcc.spec x = wcc K x.1 x.2.1 x.2.2.1 x.2.2.2.1 x.2.2.2.2.1 x.2.2.2.2.2.1 := by kernel_rfl
theorem wcc.contract : Contract Tryz.prog gl 157 wcc.spec :=
  contract_of (E := wcc.env) (kn rfl (FnsOK_of ⟨⟨Tryz.func157, Tryz.call157⟩, trivial⟩)) (SpecsOK_of ⟨wbH.contract, wbS.contract, wbX.contract, wbl.contract, wcd.contract, trivial⟩) Tryz.call157 rfl rfl fun K x r h => by
    rw [wcc.body_eq]; exact h
def wbh.spec : Dp.Spec := ⟨Kq5, .str, false, fun K x => wbh K x.1⟩
def wbh.hint : Dp.Hint := { n := 5 }
noncomputable def wbh.env : Dp.Env := ⟨ti, gl, [], [], [(210, Tryz.f210, wbh.hint)], [(256, itoa.spec)], 0, 40⟩
theorem wbh.body_eq (K : Nat) (x : wbh.spec.args.den) : body (wbh.env.at K) 8 210 wbh.spec x = wbh K x.1 := by kernel_rfl
theorem wbh.contract : Contract Tryz.prog gl 210 wbh.spec :=
  contract_of (E := wbh.env) (kn rfl (FnsOK_of ⟨⟨Tryz.func210, Tryz.call210⟩, trivial⟩)) (SpecsOK_of ⟨itoa.contract, trivial⟩) Tryz.call210 rfl rfl fun K x r h => by
    rw [wbh.body_eq]; exact h
def wbJ.spec : Dp.Spec := ⟨Kq7, .str, false, fun K x => wbJ K x.1 x.2.1⟩
def wbJ.hint : Dp.Hint := { n := 28, regions := [(2, [(.normal, { regs := [(1, (.int .i64)), (5, .str), (19, .bool)] })])] }
noncomputable def wbJ.env : Dp.Env := ⟨ti, gl, [], [], [(209, Tryz.f209, wbJ.hint)], [(210, wbh.spec), (255, repeatS.spec)], 0, 40⟩
theorem wbJ.body_eq (K : Nat) (x : wbJ.spec.args.den) : body (wbJ.env.at K) 8 209 wbJ.spec x = wbJ K x.1 x.2.1 := by kernel_rfl
theorem wbJ.contract : Contract Tryz.prog gl 209 wbJ.spec :=
  contract_of (E := wbJ.env) (kn rfl (FnsOK_of ⟨⟨Tryz.func209, Tryz.call209⟩, trivial⟩)) (SpecsOK_of ⟨wbh.contract, repeatS.contract, trivial⟩) Tryz.call209 rfl rfl fun K x r h => by
    rw [wbJ.body_eq]; exact h
def wbP.spec : Dp.Spec := ⟨Kq5, (.int .i64), false, fun K x => wbP K x.1⟩
def wbP.hint : Dp.Hint := { n := 9 }
noncomputable def wbP.env : Dp.Env := ⟨ti, gl, [], [], [(254, Tryz.f254, wbP.hint)], [], 0, 40⟩
theorem wbP.body_eq (K : Nat) (x : wbP.spec.args.den) : body (wbP.env.at K) 8 254 wbP.spec x = wbP K x.1 := by kernel_rfl
theorem wbP.contract : Contract Tryz.prog gl 254 wbP.spec :=
  contract_of (E := wbP.env) (kn rfl (FnsOK_of ⟨⟨Tryz.func254, Tryz.call254⟩, trivial⟩)) (SpecsOK_of trivial) Tryz.call254 rfl rfl fun K x r h => by
    rw [wbP.body_eq]; exact h
def wce.spec : Dp.Spec := ⟨Kq5, (.scons (.int .i64) (.scons (.int .i64) (.scons (.int .i64) (.scons (.int .i64) Kq1)))), false, fun K x => wce K x.1⟩
def wce.hint : Dp.Hint := { n := 39 }
noncomputable def wce.env : Dp.Env := ⟨ti, gl, [], [], [(208, Tryz.f208, wce.hint)], [(253, wbY.spec), (209, wbJ.spec), (254, wbP.spec), (72, joinS.spec)], 0, 40⟩
theorem wce.body_eq (K : Nat) (x : wce.spec.args.den) : body (wce.env.at K) 8 208 wce.spec x = wce K x.1 := by kernel_rfl
theorem wce.contract : Contract Tryz.prog gl 208 wce.spec :=
  contract_of (E := wce.env) (kn rfl (FnsOK_of ⟨⟨Tryz.func208, Tryz.call208⟩, trivial⟩)) (SpecsOK_of ⟨wbY.contract, wbJ.contract, wbP.contract, joinS.contract, trivial⟩) Tryz.call208 rfl rfl fun K x r h => by
    rw [wce.body_eq]; exact h
def wbL.spec : Dp.Spec := ⟨Kq5, .str, false, fun K x => wbL K x.1⟩
def wbL.hint : Dp.Hint := { n := 33, regions := [(1, [(.normal, { regs := [(0, (.int .i64)), (9, .bool)] })])] }
noncomputable def wbL.env : Dp.Env := ⟨ti, gl, [], [], [(158, Tryz.f158, wbL.hint)], [(210, wbh.spec), (209, wbJ.spec), (208, wce.spec), (72, joinS.spec)], 0, 40⟩
theorem wbL.body_eq (K : Nat) (x : wbL.spec.args.den) : body (wbL.env.at K) 8 158 wbL.spec x = wbL K x.1 := by kernel_rfl
theorem wbL.contract : Contract Tryz.prog gl 158 wbL.spec :=
  contract_of (E := wbL.env) (kn rfl (FnsOK_of ⟨⟨Tryz.func158, Tryz.call158⟩, trivial⟩)) (SpecsOK_of ⟨wbh.contract, wbJ.contract, wce.contract, joinS.contract, trivial⟩) Tryz.call158 rfl rfl fun K x r h => by
    rw [wbL.body_eq]; exact h
def wcb.spec : Dp.Spec := ⟨Kq5, .str, false, fun K x => wcb K x.1⟩
def wcb.hint : Dp.Hint := { n := 37, regions := [(1, [(.normal, { regs := [(0, (.int .i64)), (10, .bool)] })])] }
noncomputable def wcb.env : Dp.Env := ⟨ti, gl, [], [], [(159, Tryz.f159, wcb.hint)], [(209, wbJ.spec), (208, wce.spec), (72, joinS.spec)], 0, 40⟩
theorem wcb.body_eq (K : Nat) (x : wcb.spec.args.den) : body (wcb.env.at K) 8 159 wcb.spec x = wcb K x.1 := by kernel_rfl
theorem wcb.contract : Contract Tryz.prog gl 159 wcb.spec :=
  contract_of (E := wcb.env) (kn rfl (FnsOK_of ⟨⟨Tryz.func159, Tryz.call159⟩, trivial⟩)) (SpecsOK_of ⟨wbJ.contract, wce.contract, joinS.contract, trivial⟩) Tryz.call159 rfl rfl fun K x r h => by
    rw [wcb.body_eq]; exact h
def wbU.spec : Dp.Spec := ⟨Kq5, .str, false, fun K x => wbU K x.1⟩
def wbU.hint : Dp.Hint := { n := 39, conds := [(18, [(.normal, { regs := [(3, (.loc 0 false [])), (4, .str)], heap := [(.scons (.int .i64) (.scons (.int .i64) (.scons (.int .i64) (.scons (.int .i64) Kq1))))] })])], regions := [(1, [(.normal, { regs := [(0, (.int .i64)), (10, .bool)] })])] }
noncomputable def wbU.env : Dp.Env := ⟨ti, gl, [], [], [(160, Tryz.f160, wbU.hint)], [(210, wbh.spec), (208, wce.spec), (72, joinS.spec)], 0, 40⟩
theorem wbU.body_eq (K : Nat) (x : wbU.spec.args.den) : body (wbU.env.at K) 8 160 wbU.spec x = wbU K x.1 := by kernel_rfl
theorem wbU.contract : Contract Tryz.prog gl 160 wbU.spec :=
  contract_of (E := wbU.env) (kn rfl (FnsOK_of ⟨⟨Tryz.func160, Tryz.call160⟩, trivial⟩)) (SpecsOK_of ⟨wbh.contract, wce.contract, joinS.contract, trivial⟩) Tryz.call160 rfl rfl fun K x r h => by
    rw [wbU.body_eq]; exact h
def wb9.spec : Dp.Spec := ⟨Kq1, (.tup Kq7), false, fun K x => wb9 K x.1⟩
def wb9.hint : Dp.Hint := { n := 52, regions := [(3, [(.normal, { regs := [(0, .str), (4, (.int .i64)), (5, (.int .i64)), (20, .bool)] })]), (6, [(.normal, { regs := [(0, .str), (6, (.int .i64)), (39, .bool)] })]), (9, [(.normal, { regs := [(7, (.int .i64)), (50, .bool)] })])] }
noncomputable def wb9.env : Dp.Env := ⟨ti, gl, [], [], [(113, Tryz.f113, wb9.hint)], [(156, wbE.spec), (157, wcc.spec), (158, wbL.spec), (159, wcb.spec), (160, wbU.spec)], 0, 40⟩
theorem wb9.body_eq (K : Nat) (x : wb9.spec.args.den) : body (wb9.env.at K) 8 113 wb9.spec x = wb9 K x.1 := by kernel_rfl
theorem wb9.contract : Contract Tryz.prog gl 113 wb9.spec :=
  contract_of (E := wb9.env) (kn rfl (FnsOK_of ⟨⟨Tryz.func113, Tryz.call113⟩, trivial⟩)) (SpecsOK_of ⟨wbE.contract, wcc.contract, wbL.contract, wcb.contract, wbU.contract, trivial⟩) Tryz.call113 rfl rfl fun K x r h => by
    rw [wb9.body_eq]; exact h
def wb7.spec : Dp.Spec := ⟨(.scons (.list Kq3) Kq1), (.tup (.scons (.int .i64) (.scons .bool .snil))), false, fun K x => wb7 K x.1 x.2.1⟩
def wb7.hint : Dp.Hint := { n := 25 }
noncomputable def wb7.env : Dp.Env := ⟨ti, gl, [], [], [(52, Tryz.f52, wb7.hint)], [(71, wR_.spec), (113, wb9.spec)], 0, 40⟩
theorem wb7.body_eq (K : Nat) (x : wb7.spec.args.den) : body (wb7.env.at K) 8 52 wb7.spec x = wb7 K x.1 x.2.1 := by kernel_rfl
theorem wb7.contract : Contract Tryz.prog gl 52 wb7.spec :=
  contract_of (E := wb7.env) (kn rfl (FnsOK_of ⟨⟨Tryz.func52, Tryz.call52⟩, trivial⟩)) (SpecsOK_of ⟨wR_.contract, wb9.contract, trivial⟩) Tryz.call52 rfl rfl fun K x r h => by
    rw [wb7.body_eq]; exact h
def wbx.spec : Dp.Spec := ⟨(.scons (.scons Kq6 .snil) .snil), (.tup (.scons (.int .i64) (.scons .bool .snil))), false, fun K x => wbx K x.1⟩
def wbx.hint : Dp.Hint := { n := 10, imm := [1] }
noncomputable def wbx.env : Dp.Env := ⟨ti, gl, [], [], [(53, Tryz.f53, wbx.hint)], [(52, wb7.spec)], 0, 40⟩
theorem wbx.body_eq (K : Nat) (x : wbx.spec.args.den) : body (wbx.env.at K) 8 53 wbx.spec x = wbx K x.1 := by kernel_rfl
theorem wbx.contract : Contract Tryz.prog gl 53 wbx.spec :=
  contract_of (E := wbx.env) (kn rfl (FnsOK_of ⟨⟨Tryz.func53, Tryz.call53⟩, trivial⟩)) (SpecsOK_of ⟨wb7.contract, trivial⟩) Tryz.call53 rfl rfl fun K x r h => by
    rw [wbx.body_eq]; exact h
def wbv.spec : Dp.Spec := ⟨(.scons (.list Kq3) Kq1), (.tup (.scons .str (.scons .bool .snil))), false, fun K x => wbv K x.1 x.2.1⟩
def wbv.hint : Dp.Hint := { n := 15 }
noncomputable def wbv.env : Dp.Env := ⟨ti, gl, [], [], [(29, Tryz.f29, wbv.hint)], [(71, wR_.spec), (72, joinS.spec)], 0, 40⟩
theorem wbv.body_eq (K : Nat) (x : wbv.spec.args.den) : body (wbv.env.at K) 8 29 wbv.spec x = wbv K x.1 x.2.1 := by kernel_rfl
theorem wbv.contract : Contract Tryz.prog gl 29 wbv.spec :=
  contract_of (E := wbv.env) (kn rfl (FnsOK_of ⟨⟨Tryz.func29, Tryz.call29⟩, trivial⟩)) (SpecsOK_of ⟨wR_.contract, joinS.contract, trivial⟩) Tryz.call29 rfl rfl fun K x r h => by
    rw [wbv.body_eq]; exact h
def wb2.spec : Dp.Spec := ⟨(.scons Kq8 (.scons Kq6 .snil)), Kq8, false, fun K x => wb2 K x.1 x.2.1⟩
def wb2.hint : Dp.Hint := { n := 52, conds := [(24, [(.normal, { regs := [(2, (.ref Kq8)), (3, (.ref Kq6)), (4, (.loc 0 false [])), (5, (.loc 1 false [])), (6, (.slw 2))], heap := [Kq8, (.scons Kq6 .snil), (.row Kq3), Kq4], app := [2] })]), (36, [(.normal, { regs := [(2, (.ref Kq8)), (4, (.loc 0 false [])), (6, (.slw 2))], heap := [Kq8, (.scons Kq6 .snil), (.row Kq3), Kq4], app := [2] })])], own := [18], imm := [2, 3] }
noncomputable def wb2.env : Dp.Env := ⟨ti, gl, [], [(28, wW_.ospec)], [(20, Tryz.f20, wb2.hint)], [(61, w5_.spec), (31, wca.spec), (53, wbx.spec), (29, wbv.spec)], 0, 40⟩
theorem wb2.body_eq (K : Nat) (x : wb2.spec.args.den) : body (wb2.env.at K) 8 20 wb2.spec x = wb2 K x.1 x.2.1 := by kernel_rfl
theorem wb2.contract : Contract Tryz.prog gl 20 wb2.spec :=
  contract_of (E := wb2.env) (kn rfl (FnsOK_of ⟨⟨Tryz.func20, Tryz.call20⟩, trivial⟩)) (SpecsOK_of ⟨w5_.contract, wca.contract, wbx.contract, wbv.contract, trivial⟩ trivial ⟨wW_.ocontract, trivial⟩) Tryz.call20 rfl rfl fun K x r h => by
    rw [wb2.body_eq]; exact h
def wm_.spec : Dp.Spec := ⟨(.scons .str (.scons (.int .u8) .snil)), .str, false, fun K x => wm_ K x.1 x.2.1⟩
def wm_.hint : Dp.Hint := { n := 23, regions := [(1, [(.normal, { regs := [(0, .str), (1, (.int .u8)), (16, .bool)] })])], loops := [(1, { regs := [(0, .str), (1, (.int .u8))] }, [(.exit 0, { regs := [(0, .str)] })])] }
noncomputable def wm_.env : Dp.Env := ⟨ti, gl, [], [], [(243, Tryz.f243, wm_.hint)], [], 0, 40⟩
noncomputable def wm_.r0 (K : Nat) : Nat → Jq25 → Option (Jq24) :=
  loopV [(.exit 0, { regs := [(0, .str)] })] { regs := [(0, .str), (1, (.int .u8))] } (interp (wm_.env.at K) wm_.hint (callF (wm_.env.at K) 7) (Code.sub [1, 0, 0, 0] (Tryz.f243.body.getD .skip)) _)
theorem wm_.s0 (K n : Nat) (x : Jq25) : wm_.r0 K (n + 1) x = wm_.t0 K (wm_.r0 K n) x := by kernel_rfl
theorem wm_.e0 (K n : Nat) : wm_.r0 K n = wm_.l0 K n := eqR (l := wm_.l0 K) _ (wm_.s0 K) (fun _ _ => rfl) (fun _ => rfl) n
theorem wm_.body_eq (K : Nat) (x : wm_.spec.args.den) : body (wm_.env.at K) 8 243 wm_.spec x = wm_.tr (wm_.r0 K) K x.1 x.2.1 := by kernel_rfl
theorem wm_.contract : Contract Tryz.prog gl 243 wm_.spec :=
  contract_of (E := wm_.env) (kn rfl (FnsOK_of ⟨⟨Tryz.func243, Tryz.call243⟩, trivial⟩)) (SpecsOK_of trivial) Tryz.call243 rfl rfl fun K x r h => by
    rw [wm_.body_eq, show wm_.r0 K = wm_.l0 K from funext (wm_.e0 K)]; exact h
def wg_.spec : Dp.Spec := ⟨(.scons .str (.scons (.ref (.arr 256 .bool)) .snil)), .str, false, fun K x => wg_ K x.1 x.2.1⟩
def wg_.hint : Dp.Hint := { n := 22, loops := [(1, { regs := [(0, .str), (1, (.ref (.arr 256 .bool)))] }, [(.exit 0, { regs := [(0, .str)] })])] }
noncomputable def wg_.env : Dp.Env := ⟨ti, gl, [], [], [(246, Tryz.f246, wg_.hint)], [(269, wI_.spec)], 0, 40⟩
noncomputable def wg_.r0 (K : Nat) : Nat → Jq32 → Option (Jq24) :=
  loopV [(.exit 0, { regs := [(0, .str)] })] { regs := [(0, .str), (1, (.ref (.arr 256 .bool)))] } (interp (wg_.env.at K) wg_.hint (callF (wg_.env.at K) 7) (Code.sub [1, 0, 0, 0] (Tryz.f246.body.getD .skip)) _)
theorem wg_.s0 (K n : Nat) (x : Jq32) : wg_.r0 K (n + 1) x = wg_.t0 K (wg_.r0 K n) x := by kernel_rfl
theorem wg_.e0 (K n : Nat) : wg_.r0 K n = wg_.l0 K n := eqR (l := wg_.l0 K) _ (wg_.s0 K) (fun _ _ => rfl) (fun _ => rfl) n
theorem wg_.body_eq (K : Nat) (x : wg_.spec.args.den) : body (wg_.env.at K) 8 246 wg_.spec x = wg_.tr (wg_.r0 K) K x.1 x.2.1 := by kernel_rfl
theorem wg_.contract : Contract Tryz.prog gl 246 wg_.spec :=
  contract_of (E := wg_.env) (kn rfl (FnsOK_of ⟨⟨Tryz.func246, Tryz.call246⟩, trivial⟩)) (SpecsOK_of ⟨wI_.contract, trivial⟩) Tryz.call246 rfl rfl fun K x r h => by
    rw [wg_.body_eq, show wg_.r0 K = wg_.l0 K from funext (wg_.e0 K)]; exact h
def wbV.spec : Dp.Spec := ⟨Kq3, .str, false, fun K x => wbV K x.1 x.2.1⟩
def wbV.hint : Dp.Hint := { n := 43, regions := [(1, [(.normal, { regs := [(0, .str), (1, .str), (12, .bool)] })]), (3, [(.normal, { regs := [(0, .str), (1, .str), (21, .bool)] })])] }
noncomputable def wbV.env : Dp.Env := ⟨ti, gl, [], [], [(201, Tryz.f201, wbV.hint)], [(242, wl_.spec), (245, wf_.spec), (243, wm_.spec), (246, wg_.spec), (244, asciiSet.spec)], 0, 40⟩
theorem wbV.body_eq (K : Nat) (x : wbV.spec.args.den) : body (wbV.env.at K) 8 201 wbV.spec x = wbV K x.1 x.2.1 := by kernel_rfl
theorem wbV.contract : Contract Tryz.prog gl 201 wbV.spec :=
  contract_of (E := wbV.env) (kn rfl (FnsOK_of ⟨⟨Tryz.func201, Tryz.call201⟩, trivial⟩)) (SpecsOK_of ⟨wl_.contract, wf_.contract, wm_.contract, wg_.contract, asciiSet.contract, trivial⟩) Tryz.call201 rfl rfl fun K x r h => by
    rw [wbV.body_eq]; exact h
def wbT.spec : Dp.Spec := ⟨Kq1, .str, false, fun K x => wbT K x.1⟩
def wbT.hint : Dp.Hint := { n := 5 }
noncomputable def wbT.env : Dp.Env := ⟨ti, gl, [], [], [(155, Tryz.f155, wbT.hint)], [(201, wbV.spec)], 0, 40⟩
theorem wbT.body_eq (K : Nat) (x : wbT.spec.args.den) : body (wbT.env.at K) 8 155 wbT.spec x = wbT K x.1 := by kernel_rfl
theorem wbT.contract : Contract Tryz.prog gl 155 wbT.spec :=
  contract_of (E := wbT.env) (kn rfl (FnsOK_of ⟨⟨Tryz.func155, Tryz.call155⟩, trivial⟩)) (SpecsOK_of ⟨wbV.contract, trivial⟩) Tryz.call155 rfl rfl fun K x r h => by
    rw [wbT.body_eq]; exact h
def wQ_.spec : Dp.Spec := ⟨Kq1, (.tup (.scons (.list .str) Kq5)), false, fun K x => wQ_ K x.1⟩
def wQ_.hint : Dp.Hint := { n := 49, conds := [(20, [(.exit 1, { regs := [(1, (.ref .str)), (4, (.loc 1 false [])), (6, (.fn 172 (.scons (.ref .str) (.scons (.loc 2 false []) (.scons (.loc 1 false []) .snil))))), (7, .bool), (8, (.int .i64))], heap := [(.row .str), (.slw 0), (.int .i64)], app := [0] }), (.normal, { regs := [(1, (.ref .str)), (4, (.loc 1 false [])), (6, (.fn 172 (.scons (.ref .str) (.scons (.loc 2 false []) (.scons (.loc 1 false []) .snil))))), (7, .bool), (8, (.int .i64))], heap := [(.row .str), (.slw 0), (.int .i64)], app := [0] })]), (33, [(.normal, { regs := [(1, (.ref .str)), (4, (.loc 1 false [])), (6, (.fn 172 (.scons (.ref .str) (.scons (.loc 2 false []) (.scons (.loc 1 false []) .snil))))), (7, .bool), (8, (.int .i64))], heap := [(.row .str), (.slw 0), (.int .i64)], app := [0] })])], blocks := [(1, [(.normal, { regs := [(1, (.ref .str)), (4, (.loc 1 false [])), (6, (.fn 172 (.scons (.ref .str) (.scons (.loc 2 false []) (.scons (.loc 1 false []) .snil))))), (7, .bool), (8, (.int .i64))], heap := [(.row .str), (.slw 0), (.int .i64)], app := [0] })])], regions := [(11, [(.normal, { regs := [(1, (.ref .str)), (4, (.loc 1 false [])), (6, (.fn 172 (.scons (.ref .str) (.scons (.loc 2 false []) (.scons (.loc 1 false []) .snil))))), (7, .bool), (8, (.int .i64)), (9, (.int .u8)), (25, .bool)], heap := [(.row .str), (.slw 0), (.int .i64)], app := [0] })]), (13, [(.normal, { regs := [(1, (.ref .str)), (4, (.loc 1 false [])), (6, (.fn 172 (.scons (.ref .str) (.scons (.loc 2 false []) (.scons (.loc 1 false []) .snil))))), (7, .bool), (8, (.int .i64)), (33, .bool)], heap := [(.row .str), (.slw 0), (.int .i64)], app := [0] })]), (14, [(.normal, { regs := [(1, (.ref .str)), (4, (.loc 1 false [])), (6, (.fn 172 (.scons (.ref .str) (.scons (.loc 2 false []) (.scons (.loc 1 false []) .snil))))), (7, .bool), (8, (.int .i64))], heap := [(.row .str), (.slw 0), (.int .i64)], app := [0] })])], loops := [(6, { regs := [(1, (.ref .str)), (4, (.loc 1 false [])), (6, (.fn 172 (.scons (.ref .str) (.scons (.loc 2 false []) (.scons (.loc 1 false []) .snil))))), (7, .bool), (8, (.int .i64))], heap := [(.row .str), (.slw 0), (.int .i64)], app := [0] }, [(.exit 0, { regs := [(1, (.ref .str)), (4, (.loc 1 false [])), (6, (.fn 172 (.scons (.ref .str) (.scons (.loc 2 false []) (.scons (.loc 1 false []) .snil))))), (7, .bool)], heap := [(.row .str), (.slw 0), (.int .i64)], app := [0] })])], own := [4], imm := [1] }
def wQ_.hint172 : Dp.Hint := { n := 19 }
noncomputable def wQ_.env : Dp.Env := ⟨ti, gl, [], [], [(130, Tryz.f130, wQ_.hint), (172, Tryz.f172, wQ_.hint172)], [(155, wbT.spec)], 0, 40⟩
noncomputable def wQ_.r0 (K : Nat) : Nat → Jq10 → Option ((((List UInt8) × ((Nat) × (((List UInt8) × Jq28) × Jq7))) × Jq31)) :=
  loopV [(.exit 0, { regs := [(1, (.ref .str)), (4, (.loc 1 false [])), (6, (.fn 172 (.scons (.ref .str) (.scons (.loc 2 false []) (.scons (.loc 1 false []) .snil))))), (7, .bool)], heap := [(.row .str), (.slw 0), (.int .i64)], app := [0] })] { regs := [(1, (.ref .str)), (4, (.loc 1 false [])), (6, (.fn 172 (.scons (.ref .str) (.scons (.loc 2 false []) (.scons (.loc 1 false []) .snil))))), (7, .bool), (8, (.int .i64))], heap := [(.row .str), (.slw 0), (.int .i64)], app := [0] } (interp (wQ_.env.at K) wQ_.hint (callF (wQ_.env.at K) 7) (Code.sub [1, 0, 1, 1, 1, 1, 1, 0, 1, 0, 0] (Tryz.f130.body.getD .skip)) _)
theorem wQ_.s0 (K n : Nat) (x : Jq10) : wQ_.r0 K (n + 1) x = wQ_.t0 K (wQ_.r0 K n) x := by kernel_rfl
theorem wQ_.e0 (K n : Nat) : wQ_.r0 K n = wQ_.l0 K n := eqR (l := wQ_.l0 K) _ (wQ_.s0 K) (fun _ _ => rfl) (fun _ => rfl) n
theorem wQ_.body_eq (K : Nat) (x : wQ_.spec.args.den) : body (wQ_.env.at K) 8 130 wQ_.spec x = wQ_.tr (wQ_.r0 K) K x.1 := by kernel_rfl
theorem wQ_.contract : Contract Tryz.prog gl 130 wQ_.spec :=
  contract_of (E := wQ_.env) (kn rfl (FnsOK_of ⟨⟨Tryz.func130, Tryz.call130⟩, ⟨Tryz.func172, Tryz.call172⟩, trivial⟩)) (SpecsOK_of ⟨wbT.contract, trivial⟩) Tryz.call130 rfl rfl fun K x r h => by
    rw [wQ_.body_eq, show wQ_.r0 K = wQ_.l0 K from funext (wQ_.e0 K)]; exact h
def wn_.spec : Dp.Spec := ⟨(.scons (.list Kq3) .snil), (.list .str), false, fun K x => wn_ K x.1⟩
def wn_.hint : Dp.Hint := { n := 27, conds := [(21, [(.normal, { regs := [(3, (.slw 1)), (9, (.list .str)), (10, (.int .i64)), (11, (.int .i64))], heap := [(.row .str), (.row .str)], app := [1] })])], loops := [(3, { regs := [(3, (.slw 1)), (9, (.list .str)), (10, (.int .i64)), (11, (.int .i64))], heap := [(.row .str), (.row .str)], app := [1] }, [(.exit 0, { regs := [(3, (.slw 1))], heap := [(.row .str), (.row .str)], app := [1] })])], own := [2, 3] }
noncomputable def wn_.env : Dp.Env := ⟨ti, gl, [], [], [(118, Tryz.f118, wn_.hint)], [(71, wR_.spec), (130, wQ_.spec)], 0, 40⟩
noncomputable def wn_.r0 (K : Nat) : Nat → (((Unit) × ((List (List UInt8)) × Jq9)) × Jq6) → Option ((Jq8 × Jq6)) :=
  loopV [(.exit 0, { regs := [(3, (.slw 1))], heap := [(.row .str), (.row .str)], app := [1] })] { regs := [(3, (.slw 1)), (9, (.list .str)), (10, (.int .i64)), (11, (.int .i64))], heap := [(.row .str), (.row .str)], app := [1] } (interp (wn_.env.at K) wn_.hint (callF (wn_.env.at K) 7) (Code.sub [1, 1, 0, 1, 0, 0] (Tryz.f118.body.getD .skip)) _)
theorem wn_.s0 (K n : Nat) (x : (((Unit) × ((List (List UInt8)) × Jq9)) × Jq6)) : wn_.r0 K (n + 1) x = wn_.t0 K (wn_.r0 K n) x := by kernel_rfl
theorem wn_.e0 (K n : Nat) : wn_.r0 K n = wn_.l0 K n := eqR (l := wn_.l0 K) _ (wn_.s0 K) (fun _ _ => rfl) (fun _ => rfl) n
theorem wn_.body_eq (K : Nat) (x : wn_.spec.args.den) : body (wn_.env.at K) 8 118 wn_.spec x = wn_.tr (wn_.r0 K) K x.1 := by kernel_rfl
theorem wn_.contract : Contract Tryz.prog gl 118 wn_.spec :=
  contract_of (E := wn_.env) (kn rfl (FnsOK_of ⟨⟨Tryz.func118, Tryz.call118⟩, trivial⟩)) (SpecsOK_of ⟨wR_.contract, wQ_.contract, trivial⟩) Tryz.call118 rfl rfl fun K x r h => by
    rw [wn_.body_eq, show wn_.r0 K = wn_.l0 K from funext (wn_.e0 K)]; exact h
def wn_.ospec : Dp.OSpec := { args := (.scons (.list Kq3) .snil), e := .str, F := fun K x => wn_ K x.1 }
theorem wn_.obody_eq (K : Nat) (x : wn_.ospec.args.den) : bodyO (wn_.env.at K) 8 118 wn_.ospec x = wn_.tr (wn_.r0 K) K x.1 := by kernel_rfl
theorem wn_.ocontract : OContract Tryz.prog gl 118 wn_.ospec :=
  ocontract_of (E := wn_.env) (kn rfl (FnsOK_of ⟨⟨Tryz.func118, Tryz.call118⟩, trivial⟩)) (SpecsOK_of ⟨wR_.contract, wQ_.contract, trivial⟩) Tryz.call118 rfl rfl rfl fun K x r h => by
    rw [wn_.obody_eq, show wn_.r0 K = wn_.l0 K from funext (wn_.e0 K)]; exact h
def w4_.spec : Dp.Spec := ⟨(.scons (.list Kq3) .snil), (.list Kq3), false, fun K x => w4_ K x.1⟩
def w4_.hint : Dp.Hint := { n := 20, loops := [(3, { regs := [(0, (.list Kq3)), (3, (.slw 0)), (8, (.arr 10 .str)), (9, (.int .i64))], heap := [(.row .str)], app := [0] }, [(.exit 0, { regs := [(0, (.list Kq3)), (3, (.slw 0))], heap := [(.row .str)], app := [0] })])], own := [7], frz := [19] }
noncomputable def w4_.env : Dp.Env := ⟨ti, gl, [], [(118, wn_.ospec)], [(64, Tryz.f64, w4_.hint)], [(28, wW_.spec)], 0, 40⟩
noncomputable def w4_.r0 (K : Nat) : Nat → ((Jq1 × ((Unit) × ((List (List UInt8)) × Jq3))) × Jq15) → Option (((Jq1 × Jq8) × Jq15)) :=
  loopV [(.exit 0, { regs := [(0, (.list Kq3)), (3, (.slw 0))], heap := [(.row .str)], app := [0] })] { regs := [(0, (.list Kq3)), (3, (.slw 0)), (8, (.arr 10 .str)), (9, (.int .i64))], heap := [(.row .str)], app := [0] } (interp (w4_.env.at K) w4_.hint (callF (w4_.env.at K) 7) (Code.sub [1, 1, 0, 1, 0, 0] (Tryz.f64.body.getD .skip)) _)
theorem w4_.s0 (K n : Nat) (x : ((Jq1 × ((Unit) × ((List (List UInt8)) × Jq3))) × Jq15)) : w4_.r0 K (n + 1) x = w4_.t0 K (w4_.r0 K n) x := by kernel_rfl
theorem w4_.e0 (K n : Nat) : w4_.r0 K n = w4_.l0 K n := eqR (l := w4_.l0 K) _ (w4_.s0 K) (fun _ _ => rfl) (fun _ => rfl) n
theorem w4_.body_eq (K : Nat) (x : w4_.spec.args.den) : body (w4_.env.at K) 8 64 w4_.spec x = w4_.tr (w4_.r0 K) K x.1 := by kernel_rfl
theorem w4_.contract : Contract Tryz.prog gl 64 w4_.spec :=
  contract_of (E := w4_.env) (kn rfl (FnsOK_of ⟨⟨Tryz.func64, Tryz.call64⟩, trivial⟩)) (SpecsOK_of ⟨wW_.contract, trivial⟩ trivial ⟨wn_.ocontract, trivial⟩) Tryz.call64 rfl rfl fun K x r h => by
    rw [w4_.body_eq, show w4_.r0 K = w4_.l0 K from funext (w4_.e0 K)]; exact h
def wL_.spec : Dp.Spec := ⟨(.scons Kq2 (.scons Kq6 Kq5)), Kq2, false, fun K x => wL_ K x.1 x.2.1 x.2.2.1⟩
def wL_.hint : Dp.Hint := { n := 46, loops := [(4, { regs := [(2, (.int .i64)), (3, (.loc 0 false [])), (6, (.loc 1 false [])), (7, (.list Kq3)), (8, (.slw 2)), (17, (.list Kq3)), (18, (.int .i64)), (19, (.int .i64))], heap := [Kq2, Kq2, (.row .str)], app := [2] }, [(.exit 0, { regs := [(2, (.int .i64)), (3, (.loc 0 false [])), (6, (.loc 1 false [])), (7, (.list Kq3)), (8, (.slw 2))], heap := [Kq2, Kq2, (.row .str)], app := [2] })])], own := [16, 31, 40], imm := [4] }
noncomputable def wL_.env : Dp.Env := ⟨ti, gl, [], [(28, wW_.ospec)], [(23, Tryz.f23, wL_.hint)], [(28, wW_.spec), (64, w4_.spec)], 0, 40⟩
noncomputable def wL_.r0 (K : Nat) : Nat → (((Int) × ((Nat) × ((Nat) × (Jq1 × Jq23)))) × (Jq4 × (Jq4 × Jq15))) → Option ((((Int) × ((Nat) × ((Nat) × (Jq1 × Jq8)))) × (Jq4 × (Jq4 × Jq15)))) :=
  loopV [(.exit 0, { regs := [(2, (.int .i64)), (3, (.loc 0 false [])), (6, (.loc 1 false [])), (7, (.list Kq3)), (8, (.slw 2))], heap := [Kq2, Kq2, (.row .str)], app := [2] })] { regs := [(2, (.int .i64)), (3, (.loc 0 false [])), (6, (.loc 1 false [])), (7, (.list Kq3)), (8, (.slw 2)), (17, (.list Kq3)), (18, (.int .i64)), (19, (.int .i64))], heap := [Kq2, Kq2, (.row .str)], app := [2] } (interp (wL_.env.at K) wL_.hint (callF (wL_.env.at K) 7) (Code.sub [1, 1, 1, 0, 1, 0, 0] (Tryz.f23.body.getD .skip)) _)
theorem wL_.s0 (K n : Nat) (x : (((Int) × ((Nat) × ((Nat) × (Jq1 × Jq23)))) × (Jq4 × (Jq4 × Jq15)))) : wL_.r0 K (n + 1) x = wL_.t0 K (wL_.r0 K n) x := by kernel_rfl
theorem wL_.e0 (K n : Nat) : wL_.r0 K n = wL_.l0 K n := eqR (l := wL_.l0 K) _ (wL_.s0 K) (fun _ _ => rfl) (fun _ => rfl) n
theorem wL_.body_eq (K : Nat) (x : wL_.spec.args.den) : body (wL_.env.at K) 8 23 wL_.spec x = wL_.tr (wL_.r0 K) K x.1 x.2.1 x.2.2.1 := by kernel_rfl
theorem wL_.contract : Contract Tryz.prog gl 23 wL_.spec :=
  contract_of (E := wL_.env) (kn rfl (FnsOK_of ⟨⟨Tryz.func23, Tryz.call23⟩, trivial⟩)) (SpecsOK_of ⟨wW_.contract, w4_.contract, trivial⟩ trivial ⟨wW_.ocontract, trivial⟩) Tryz.call23 rfl rfl fun K x r h => by
    rw [wL_.body_eq, show wL_.r0 K = wL_.l0 K from funext (wL_.e0 K)]; exact h
def wbz.spec : Dp.Spec := ⟨Kq1, (.tup (.scons (.list Kq4) (.scons .bool Kq5))), false, fun K x => wbz K x.1⟩
def wbz.hint : Dp.Hint := { n := 62, conds := [(24, [(.exit 1, { regs := [(0, .str), (5, (.slw 1)), (6, (.int .i64)), (7, .bool), (8, (.int .i64))], heap := [(.row Kq4), (.row Kq4)], app := [1] }), (.normal, { regs := [(0, .str), (5, (.slw 1)), (6, (.int .i64)), (7, .bool), (8, (.int .i64))], heap := [(.row Kq4), (.row Kq4)], app := [1] })]), (28, [(.normal, { regs := [(0, .str), (5, (.slw 1)), (6, (.int .i64)), (7, .bool), (8, (.int .i64))], heap := [(.row Kq4), (.row Kq4)], app := [1] })])], blocks := [(1, [(.normal, { regs := [(0, .str), (5, (.slw 1)), (6, (.int .i64)), (7, .bool), (8, (.int .i64))], heap := [(.row Kq4), (.row Kq4)], app := [1] }), (.ret, { regs := [(2, (.slw 3)), (3, .bool), (4, (.int .i64))], heap := [(.row Kq4), (.row Kq4), Kq4, (.row Kq4)], app := [1] })])], regions := [(11, [(.normal, { regs := [(0, .str), (5, (.slw 1)), (6, (.int .i64)), (7, .bool), (8, (.int .i64)), (37, .bool)], heap := [(.row Kq4), (.row Kq4)], app := [1] })])], loops := [(6, { regs := [(0, .str), (5, (.slw 1)), (6, (.int .i64)), (7, .bool), (8, (.int .i64))], heap := [(.row Kq4), (.row Kq4)], app := [1] }, [(.exit 0, { regs := [(5, (.slw 1))], heap := [(.row Kq4), (.row Kq4)], app := [1] }), (.ret, { regs := [(2, (.slw 3)), (3, .bool), (4, (.int .i64))], heap := [(.row Kq4), (.row Kq4), Kq4, (.row Kq4)], app := [1] })])], own := [2, 2, 2, 2, 5] }
noncomputable def wbz.env : Dp.Env := ⟨ti, gl, [], [], [(111, Tryz.f111, wbz.hint)], [(73, wX_.spec), (155, wbT.spec)], 0, 40⟩
noncomputable def wbz.r0 (K : Nat) : Nat → Jq27 → Option ((Jq8 × Jq14) ⊕ Jq13) :=
  loopV [(.exit 0, { regs := [(5, (.slw 1))], heap := [(.row Kq4), (.row Kq4)], app := [1] }), (.ret, { regs := [(2, (.slw 3)), (3, .bool), (4, (.int .i64))], heap := [(.row Kq4), (.row Kq4), Kq4, (.row Kq4)], app := [1] })] { regs := [(0, .str), (5, (.slw 1)), (6, (.int .i64)), (7, .bool), (8, (.int .i64))], heap := [(.row Kq4), (.row Kq4)], app := [1] } (interp (wbz.env.at K) wbz.hint (callF (wbz.env.at K) 7) (Code.sub [1, 0, 1, 1, 1, 1, 0, 1, 0, 0] (Tryz.f111.body.getD .skip)) _)
theorem wbz.s0 (K n : Nat) (x : Jq27) : wbz.r0 K (n + 1) x = wbz.t0 K (wbz.r0 K n) x := by kernel_rfl
theorem wbz.e0 (K n : Nat) : wbz.r0 K n = wbz.l0 K n := eqR (l := wbz.l0 K) _ (wbz.s0 K) (fun _ _ => rfl) (fun _ => rfl) n
theorem wbz.body_eq (K : Nat) (x : wbz.spec.args.den) : body (wbz.env.at K) 8 111 wbz.spec x = wbz.tr (wbz.r0 K) K x.1 := by kernel_rfl
theorem wbz.contract : Contract Tryz.prog gl 111 wbz.spec :=
  contract_of (E := wbz.env) (kn rfl (FnsOK_of ⟨⟨Tryz.func111, Tryz.call111⟩, trivial⟩)) (SpecsOK_of ⟨wX_.contract, wbT.contract, trivial⟩) Tryz.call111 rfl rfl fun K x r h => by
    rw [wbz.body_eq, show wbz.r0 K = wbz.l0 K from funext (wbz.e0 K)]; exact h
def wbZ.spec : Dp.Spec := ⟨(.scons Kq4 .snil), Kq4, false, fun K x => wbZ K x.1⟩
def wbZ.hint : Dp.Hint := { n := 6, imm := [1] }
noncomputable def wbZ.env : Dp.Env := ⟨ti, gl, [], [], [(121, Tryz.f121, wbZ.hint)], [], 0, 40⟩
theorem wbZ.body_eq (K : Nat) (x : wbZ.spec.args.den) : body (wbZ.env.at K) 8 121 wbZ.spec x = wbZ K x.1 := by kernel_rfl
theorem wbZ.contract : Contract Tryz.prog gl 121 wbZ.spec :=
  contract_of (E := wbZ.env) (kn rfl (FnsOK_of ⟨⟨Tryz.func121, Tryz.call121⟩, trivial⟩)) (SpecsOK_of trivial) Tryz.call121 rfl rfl fun K x r h => by
    rw [wbZ.body_eq]; exact h
def wb1.spec : Dp.Spec := ⟨(.scons Kq4 (.scons Kq4 .snil)), .bool, false, fun K x => wb1 K x.1 x.2.1⟩
def wb1.hint : Dp.Hint := { n := 10, imm := [2, 3] }
noncomputable def wb1.env : Dp.Env := ⟨ti, gl, [], [], [(66, Tryz.f66, wb1.hint)], [(121, wbZ.spec)], 0, 40⟩
theorem wb1.body_eq (K : Nat) (x : wb1.spec.args.den) : body (wb1.env.at K) 8 66 wb1.spec x = wb1 K x.1 x.2.1 := by kernel_rfl
theorem wb1.contract : Contract Tryz.prog gl 66 wb1.spec :=
  contract_of (E := wb1.env) (kn rfl (FnsOK_of ⟨⟨Tryz.func66, Tryz.call66⟩, trivial⟩)) (SpecsOK_of ⟨wbZ.contract, trivial⟩) Tryz.call66 rfl rfl fun K x r h => by
    rw [wb1.body_eq]; exact h
def wbj.spec : Dp.Spec := ⟨(.scons .str (.scons Kq4 .snil)), .bool, false, fun K x => wbj K x.1 x.2.1⟩
def wbj.hint : Dp.Hint := { n := 30, regions := [(5, [(.normal, { regs := [(3, (.ref Kq4)), (6, .bool), (16, (.list Kq4)), (17, (.int .i64)), (18, (.int .i64))], heap := [Kq4] })])], loops := [(3, { regs := [(3, (.ref Kq4)), (6, .bool), (16, (.list Kq4)), (17, (.int .i64)), (18, (.int .i64))] }, [(.exit 0, { regs := [(6, .bool)] })])], imm := [3] }
noncomputable def wbj.env : Dp.Env := ⟨ti, gl, [], [], [(112, Tryz.f112, wbj.hint)], [(111, wbz.spec), (66, wb1.spec)], 0, 40⟩
noncomputable def wbj.r0 (K : Nat) : Nat → ((Jq5 × ((Bool) × ((List Jq5) × Jq9))) × (Unit)) → Option (Jq29) :=
  loopV [(.exit 0, { regs := [(6, .bool)] })] { regs := [(3, (.ref Kq4)), (6, .bool), (16, (.list Kq4)), (17, (.int .i64)), (18, (.int .i64))] } (interp (wbj.env.at K) wbj.hint (callF (wbj.env.at K) 7) (Code.sub [1, 1, 0, 1, 0, 0] (Tryz.f112.body.getD .skip)) _)
theorem wbj.s0 (K n : Nat) (x : ((Jq5 × ((Bool) × ((List Jq5) × Jq9))) × (Unit))) : wbj.r0 K (n + 1) x = wbj.t0 K (wbj.r0 K n) x := by kernel_rfl
theorem wbj.e0 (K n : Nat) : wbj.r0 K n = wbj.l0 K n := eqR (l := wbj.l0 K) _ (wbj.s0 K) (fun _ _ => rfl) (fun _ => rfl) n
theorem wbj.body_eq (K : Nat) (x : wbj.spec.args.den) : body (wbj.env.at K) 8 112 wbj.spec x = wbj.tr (wbj.r0 K) K x.1 x.2.1 := by kernel_rfl
theorem wbj.contract : Contract Tryz.prog gl 112 wbj.spec :=
  contract_of (E := wbj.env) (kn rfl (FnsOK_of ⟨⟨Tryz.func112, Tryz.call112⟩, trivial⟩)) (SpecsOK_of ⟨wbz.contract, wb1.contract, trivial⟩) Tryz.call112 rfl rfl fun K x r h => by
    rw [wbj.body_eq, show wbj.r0 K = wbj.l0 K from funext (wbj.e0 K)]; exact h
def wbp.spec : Dp.Spec := ⟨(.scons (.scons Kq6 .snil) Kq1), .bool, false, fun K x => wbp K x.1 x.2.1⟩
def wbp.hint : Dp.Hint := { n := 30, imm := [2] }
noncomputable def wbp.env : Dp.Env := ⟨ti, gl, [], [], [(51, Tryz.f51, wbp.hint)], [(61, w5_.spec), (111, wbz.spec), (112, wbj.spec)], 0, 40⟩
theorem wbp.body_eq (K : Nat) (x : wbp.spec.args.den) : body (wbp.env.at K) 8 51 wbp.spec x = wbp K x.1 x.2.1 := by kernel_rfl
theorem wbp.contract : Contract Tryz.prog gl 51 wbp.spec :=
  contract_of (E := wbp.env) (kn rfl (FnsOK_of ⟨⟨Tryz.func51, Tryz.call51⟩, trivial⟩)) (SpecsOK_of ⟨w5_.contract, wbz.contract, wbj.contract, trivial⟩) Tryz.call51 rfl rfl fun K x r h => by
    rw [wbp.body_eq]; exact h
def wbo.spec : Dp.Spec := ⟨(.scons Kq8 (.scons Kq6 .snil)), .bool, false, fun K x => wbo K x.1 x.2.1⟩
def wbo.hint : Dp.Hint := { n := 57, regions := [(1, [(.normal, { regs := [(2, (.ref Kq8)), (3, (.ref Kq6)), (24, .bool)] })])], imm := [2, 3] }
noncomputable def wbo.env : Dp.Env := ⟨ti, gl, [], [], [(14, Tryz.f14, wbo.hint)], [(52, wb7.spec), (53, wbx.spec), (29, wbv.spec), (51, wbp.spec)], 0, 40⟩
theorem wbo.body_eq (K : Nat) (x : wbo.spec.args.den) : body (wbo.env.at K) 8 14 wbo.spec x = wbo K x.1 x.2.1 := by kernel_rfl
theorem wbo.contract : Contract Tryz.prog gl 14 wbo.spec :=
  contract_of (E := wbo.env) (kn rfl (FnsOK_of ⟨⟨Tryz.func14, Tryz.call14⟩, trivial⟩)) (SpecsOK_of ⟨wb7.contract, wbx.contract, wbv.contract, wbp.contract, trivial⟩) Tryz.call14 rfl rfl fun K x r h => by
    rw [wbo.body_eq]; exact h
def wbn.spec : Dp.Spec := ⟨(.scons Kq6 (.scons Kq6 .snil)), .bool, false, fun K x => wbn K x.1 x.2.1⟩
def wbn.hint : Dp.Hint := { n := 62, regions := [(5, [(.normal, { regs := [(4, .bool)], heap := [Kq4, Kq4] })])], imm := [2, 3] }
noncomputable def wbn.env : Dp.Env := ⟨ti, gl, [], [], [(25, Tryz.f25, wbn.hint)], [(61, w5_.spec), (29, wbv.spec), (66, wb1.spec)], 0, 40⟩
theorem wbn.body_eq (K : Nat) (x : wbn.spec.args.den) : body (wbn.env.at K) 8 25 wbn.spec x = wbn K x.1 x.2.1 := by kernel_rfl
theorem wbn.contract : Contract Tryz.prog gl 25 wbn.spec :=
  contract_of (E := wbn.env) (kn rfl (FnsOK_of ⟨⟨Tryz.func25, Tryz.call25⟩, trivial⟩)) (SpecsOK_of ⟨w5_.contract, wbv.contract, wb1.contract, trivial⟩) Tryz.call25 rfl rfl fun K x r h => by
    rw [wbn.body_eq]; exact h
def wP_.spec : Dp.Spec := ⟨.snil, .bool, false, fun K x => wP_ K⟩
def wP_.hint : Dp.Hint := { n := 76 }
noncomputable def wP_.env : Dp.Env := ⟨ti, gl, [], [], [(13, Tryz.f13, wP_.hint)], [(17, wba.spec), (20, wb2.spec), (23, wL_.spec), (14, wbo.spec), (25, wbn.spec)], 0, 40⟩
theorem wP_.body_eq (K : Nat) (x : wP_.spec.args.den) : body (wP_.env.at K) 8 13 wP_.spec x = wP_ K := by kernel_rfl
theorem wP_.contract : Contract Tryz.prog gl 13 wP_.spec :=
  contract_of (E := wP_.env) (kn rfl (FnsOK_of ⟨⟨Tryz.func13, Tryz.call13⟩, trivial⟩)) (SpecsOK_of ⟨wba.contract, wb2.contract, wL_.contract, wbo.contract, wbn.contract, trivial⟩) Tryz.call13 rfl rfl fun K x r h => by
    rw [wP_.body_eq]; exact h
def ws_.spec : Dp.Spec := ⟨Kq1, .str, false, fun K x => ws_ K x.1⟩
def ws_.hint : Dp.Hint := { n := 35, conds := [(24, [(.normal, { regs := [(3, (.slw 0)), (4, (.int .i64))], heap := [(.row (.int .u8))] })])], regions := [(5, [(.normal, { regs := [(3, (.slw 0)), (4, (.int .i64)), (24, .bool)], heap := [(.row (.int .u8))] })])], loops := [(3, { regs := [(3, (.slw 0)), (4, (.int .i64))], heap := [(.row (.int .u8))] }, [(.exit 0, { regs := [(3, (.slw 0))], heap := [(.row (.int .u8))] })])], own := [6] }
noncomputable def ws_.env : Dp.Env := ⟨ti, gl, [], [], [(141, Tryz.f141, ws_.hint)], [], 0, 40⟩
noncomputable def ws_.r0 (K : Nat) : Nat → (((Unit) × Jq3) × Jq30) → Option ((Jq8 × Jq30)) :=
  loopV [(.exit 0, { regs := [(3, (.slw 0))], heap := [(.row (.int .u8))] })] { regs := [(3, (.slw 0)), (4, (.int .i64))], heap := [(.row (.int .u8))] } (interp (ws_.env.at K) ws_.hint (callF (ws_.env.at K) 7) (Code.sub [1, 1, 0, 1, 0, 0] (Tryz.f141.body.getD .skip)) _)
theorem ws_.s0 (K n : Nat) (x : (((Unit) × Jq3) × Jq30)) : ws_.r0 K (n + 1) x = ws_.t0 K (ws_.r0 K n) x := by kernel_rfl
theorem ws_.e0 (K n : Nat) : ws_.r0 K n = ws_.l0 K n := eqR (l := ws_.l0 K) _ (ws_.s0 K) (fun _ _ => rfl) (fun _ => rfl) n
theorem ws_.body_eq (K : Nat) (x : ws_.spec.args.den) : body (ws_.env.at K) 8 141 ws_.spec x = ws_.tr (ws_.r0 K) K x.1 := by kernel_rfl
theorem ws_.contract : Contract Tryz.prog gl 141 ws_.spec :=
  contract_of (E := ws_.env) (kn rfl (FnsOK_of ⟨⟨Tryz.func141, Tryz.call141⟩, trivial⟩)) (SpecsOK_of trivial) Tryz.call141 rfl rfl fun K x r h => by
    rw [ws_.body_eq, show ws_.r0 K = ws_.l0 K from funext (ws_.e0 K)]; exact h
def w2_.spec : Dp.Spec := ⟨Kq3, .bool, false, fun K x => w2_ K x.1 x.2.1⟩
def w2_.hint : Dp.Hint := { n := 10 }
noncomputable def w2_.env : Dp.Env := ⟨ti, gl, [], [], [(117, Tryz.f117, w2_.hint)], [(141, ws_.spec)], 0, 40⟩
theorem w2_.body_eq (K : Nat) (x : w2_.spec.args.den) : body (w2_.env.at K) 8 117 w2_.spec x = w2_ K x.1 x.2.1 := by kernel_rfl
theorem w2_.contract : Contract Tryz.prog gl 117 w2_.spec :=
  contract_of (E := w2_.env) (kn rfl (FnsOK_of ⟨⟨Tryz.func117, Tryz.call117⟩, trivial⟩)) (SpecsOK_of ⟨ws_.contract, trivial⟩) Tryz.call117 rfl rfl fun K x r h => by
    rw [w2_.body_eq]; exact h
def wu_.spec : Dp.Spec := ⟨(.scons (.list Kq3) Kq1), (.list .str), false, fun K x => wu_ K x.1 x.2.1⟩
def wu_.hint : Dp.Hint := { n := 29, conds := [(19, [(.normal, { regs := [(0, (.list Kq3)), (1, .str), (5, (.slw 1)), (6, (.int .i64))], heap := [(.row .str), (.row .str)], app := [1] })])], loops := [(3, { regs := [(0, (.list Kq3)), (1, .str), (5, (.slw 1)), (6, (.int .i64))], heap := [(.row .str), (.row .str)], app := [1] }, [(.exit 0, { regs := [(5, (.slw 1))], heap := [(.row .str), (.row .str)], app := [1] })])], own := [4, 5] }
noncomputable def wu_.env : Dp.Env := ⟨ti, gl, [], [], [(74, Tryz.f74, wu_.hint)], [(117, w2_.spec)], 0, 40⟩
noncomputable def wu_.r0 (K : Nat) : Nat → ((Jq1 × ((List UInt8) × ((Unit) × Jq3))) × Jq6) → Option ((Jq8 × Jq6)) :=
  loopV [(.exit 0, { regs := [(5, (.slw 1))], heap := [(.row .str), (.row .str)], app := [1] })] { regs := [(0, (.list Kq3)), (1, .str), (5, (.slw 1)), (6, (.int .i64))], heap := [(.row .str), (.row .str)], app := [1] } (interp (wu_.env.at K) wu_.hint (callF (wu_.env.at K) 7) (Code.sub [1, 1, 0, 1, 0, 0] (Tryz.f74.body.getD .skip)) _)
theorem wu_.s0 (K n : Nat) (x : ((Jq1 × ((List UInt8) × ((Unit) × Jq3))) × Jq6)) : wu_.r0 K (n + 1) x = wu_.t0 K (wu_.r0 K n) x := by kernel_rfl
theorem wu_.e0 (K n : Nat) : wu_.r0 K n = wu_.l0 K n := eqR (l := wu_.l0 K) _ (wu_.s0 K) (fun _ _ => rfl) (fun _ => rfl) n
theorem wu_.body_eq (K : Nat) (x : wu_.spec.args.den) : body (wu_.env.at K) 8 74 wu_.spec x = wu_.tr (wu_.r0 K) K x.1 x.2.1 := by kernel_rfl
theorem wu_.contract : Contract Tryz.prog gl 74 wu_.spec :=
  contract_of (E := wu_.env) (kn rfl (FnsOK_of ⟨⟨Tryz.func74, Tryz.call74⟩, trivial⟩)) (SpecsOK_of ⟨w2_.contract, trivial⟩) Tryz.call74 rfl rfl fun K x r h => by
    rw [wu_.body_eq, show wu_.r0 K = wu_.l0 K from funext (wu_.e0 K)]; exact h
def wy_.spec : Dp.Spec := ⟨(.scons (.list .str) .snil), .str, false, fun K x => wy_ K x.1⟩
def wy_.hint : Dp.Hint := { n := 22, conds := [(12, [(.normal, { regs := [(0, (.list .str)), (3, .str), (4, (.int .i64))] })])], loops := [(3, { regs := [(0, (.list .str)), (3, .str), (4, (.int .i64))] }, [(.exit 0, { regs := [(3, .str)] })])] }
noncomputable def wy_.env : Dp.Env := ⟨ti, gl, [], [], [(114, Tryz.f114, wy_.hint)], [], 0, 40⟩
noncomputable def wy_.r0 (K : Nat) : Nat → (((List (List UInt8)) × ((List UInt8) × Jq3)) × (Unit)) → Option (Jq24) :=
  loopV [(.exit 0, { regs := [(3, .str)] })] { regs := [(0, (.list .str)), (3, .str), (4, (.int .i64))] } (interp (wy_.env.at K) wy_.hint (callF (wy_.env.at K) 7) (Code.sub [1, 1, 0, 1, 0, 0] (Tryz.f114.body.getD .skip)) _)
theorem wy_.s0 (K n : Nat) (x : (((List (List UInt8)) × ((List UInt8) × Jq3)) × (Unit))) : wy_.r0 K (n + 1) x = wy_.t0 K (wy_.r0 K n) x := by kernel_rfl
theorem wy_.e0 (K n : Nat) : wy_.r0 K n = wy_.l0 K n := eqR (l := wy_.l0 K) _ (wy_.s0 K) (fun _ _ => rfl) (fun _ => rfl) n
theorem wy_.body_eq (K : Nat) (x : wy_.spec.args.den) : body (wy_.env.at K) 8 114 wy_.spec x = wy_.tr (wy_.r0 K) K x.1 := by kernel_rfl
theorem wy_.contract : Contract Tryz.prog gl 114 wy_.spec :=
  contract_of (E := wy_.env) (kn rfl (FnsOK_of ⟨⟨Tryz.func114, Tryz.call114⟩, trivial⟩)) (SpecsOK_of trivial) Tryz.call114 rfl rfl fun K x r h => by
    rw [wy_.body_eq, show wy_.r0 K = wy_.l0 K from funext (wy_.e0 K)]; exact h
def w7_.spec : Dp.Spec := ⟨(.scons (.list Kq3) Kq1), (.tup (.scons .str (.scons .bool .snil))), false, fun K x => w7_ K x.1 x.2.1⟩
def w7_.hint : Dp.Hint := { n := 15 }
noncomputable def w7_.env : Dp.Env := ⟨ti, gl, [], [], [(54, Tryz.f54, w7_.hint)], [(74, wu_.spec), (114, wy_.spec)], 0, 40⟩
theorem w7_.body_eq (K : Nat) (x : w7_.spec.args.den) : body (w7_.env.at K) 8 54 w7_.spec x = w7_ K x.1 x.2.1 := by kernel_rfl
theorem w7_.contract : Contract Tryz.prog gl 54 w7_.spec :=
  contract_of (E := w7_.env) (kn rfl (FnsOK_of ⟨⟨Tryz.func54, Tryz.call54⟩, trivial⟩)) (SpecsOK_of ⟨wu_.contract, wy_.contract, trivial⟩) Tryz.call54 rfl rfl fun K x r h => by
    rw [w7_.body_eq]; exact h
def wbr.spec : Dp.Spec := ⟨(.scons (.int .u8) .snil), .bool, false, fun K x => wbr K x.1⟩
def wbr.hint : Dp.Hint := { n := 9 }
noncomputable def wbr.env : Dp.Env := ⟨ti, gl, [], [], [(161, Tryz.f161, wbr.hint)], [], 0, 40⟩
theorem wbr.body_eq (K : Nat) (x : wbr.spec.args.den) : body (wbr.env.at K) 8 161 wbr.spec x = wbr K x.1 := by kernel_rfl
theorem wbr.contract : Contract Tryz.prog gl 161 wbr.spec :=
  contract_of (E := wbr.env) (kn rfl (FnsOK_of ⟨⟨Tryz.func161, Tryz.call161⟩, trivial⟩)) (SpecsOK_of trivial) Tryz.call161 rfl rfl fun K x r h => by
    rw [wbr.body_eq]; exact h
def wd_.spec : Dp.Spec := ⟨Kq1, .str, false, fun K x => wd_ K x.1⟩
def wd_.hint : Dp.Hint := { n := 30, regions := [(1, [(.normal, { regs := [(0, .str), (10, .bool)] })]), (3, [(.normal, { regs := [(0, .str), (23, .bool)] })])], loops := [(1, { regs := [(0, .str)] }, [(.exit 0, { regs := [(0, .str)] })]), (3, { regs := [(0, .str)] }, [(.exit 2, { regs := [(0, .str)] })])] }
noncomputable def wd_.env : Dp.Env := ⟨ti, gl, [], [], [(115, Tryz.f115, wd_.hint)], [(161, wbr.spec)], 0, 40⟩
noncomputable def wd_.r1 (K : Nat) : Nat → Jq24 → Option (Jq24) :=
  loopV [(.exit 2, { regs := [(0, .str)] })] { regs := [(0, .str)] } (interp (wd_.env.at K) wd_.hint (callF (wd_.env.at K) 7) (Code.sub [1, 1, 0, 0, 0] (Tryz.f115.body.getD .skip)) _)
theorem wd_.s1 (K n : Nat) (x : Jq24) : wd_.r1 K (n + 1) x = wd_.t1 K (wd_.r1 K n) x := by kernel_rfl
theorem wd_.e1 (K n : Nat) : wd_.r1 K n = wd_.l1 K n := eqR (l := wd_.l1 K) _ (wd_.s1 K) (fun _ _ => rfl) (fun _ => rfl) n
noncomputable def wd_.r0 (K : Nat) : Nat → Jq24 → Option (Jq24) :=
  loopV [(.exit 0, { regs := [(0, .str)] })] { regs := [(0, .str)] } (interp (wd_.env.at K) wd_.hint (callF (wd_.env.at K) 7) (Code.sub [1, 0, 0, 0] (Tryz.f115.body.getD .skip)) _)
theorem wd_.s0 (K n : Nat) (x : Jq24) : wd_.r0 K (n + 1) x = wd_.t0 K (wd_.r0 K n) x := by kernel_rfl
theorem wd_.e0 (K n : Nat) : wd_.r0 K n = wd_.l0 K n := eqR (l := wd_.l0 K) _ (wd_.s0 K) (fun _ _ => rfl) (fun _ => rfl) n
theorem wd_.body_eq (K : Nat) (x : wd_.spec.args.den) : body (wd_.env.at K) 8 115 wd_.spec x = wd_.tr (wd_.r0 K) (wd_.r1 K) K x.1 := by kernel_rfl
theorem wd_.contract : Contract Tryz.prog gl 115 wd_.spec :=
  contract_of (E := wd_.env) (kn rfl (FnsOK_of ⟨⟨Tryz.func115, Tryz.call115⟩, trivial⟩)) (SpecsOK_of ⟨wbr.contract, trivial⟩) Tryz.call115 rfl rfl fun K x r h => by
    rw [wd_.body_eq, show wd_.r0 K = wd_.l0 K from funext (wd_.e0 K), show wd_.r1 K = wd_.l1 K from funext (wd_.e1 K)]; exact h
def wbw.spec : Dp.Spec := ⟨(.scons (.int .u8) .snil), .bool, false, fun K x => wbw K x.1⟩
def wbw.hint : Dp.Hint := { n := 13 }
noncomputable def wbw.env : Dp.Env := ⟨ti, gl, [], [], [(129, Tryz.f129, wbw.hint)], [], 0, 40⟩
theorem wbw.body_eq (K : Nat) (x : wbw.spec.args.den) : body (wbw.env.at K) 8 129 wbw.spec x = wbw K x.1 := by kernel_rfl
theorem wbw.contract : Contract Tryz.prog gl 129 wbw.spec :=
  contract_of (E := wbw.env) (kn rfl (FnsOK_of ⟨⟨Tryz.func129, Tryz.call129⟩, trivial⟩)) (SpecsOK_of trivial) Tryz.call129 rfl rfl fun K x r h => by
    rw [wbw.body_eq]; exact h
def wk_.spec : Dp.Spec := ⟨Kq1, (.tup (.scons Kq4 (.scons .bool .snil))), false, fun K x => wk_ K x.1⟩
def wk_.hint : Dp.Hint := { n := 55, conds := [(13, [(.normal, { regs := [(0, .str), (2, (.loc 0 false [])), (4, (.loc 1 false []))], heap := [Kq4, Kq4] })])], regions := [(2, [(.normal, { regs := [(0, .str), (2, (.loc 0 false [])), (4, (.loc 1 false [])), (13, .bool)], heap := [Kq4, Kq4] })]), (5, [(.normal, { regs := [(0, .str), (2, (.loc 0 false [])), (4, (.loc 1 false [])), (32, .bool)], heap := [Kq4, Kq4] })])], loops := [(9, { regs := [(2, (.loc 0 false [])), (4, (.loc 1 false [])), (5, (.int .i64))], heap := [Kq4, Kq4] }, [(.exit 0, { regs := [(2, (.loc 0 false [])), (4, (.loc 1 false []))], heap := [Kq4, Kq4] }), (.ret, { regs := [(2, (.loc 0 false [])), (3, .bool)], heap := [Kq4, Kq4] })])] }
noncomputable def wk_.env : Dp.Env := ⟨ti, gl, [], [], [(75, Tryz.f75, wk_.hint)], [(129, wbw.spec)], 0, 40⟩
noncomputable def wk_.r0 (K : Nat) : Nat → (((Nat) × ((Nat) × Jq3)) × Jq21) → Option ((Jq28 × Jq21) ⊕ (((Nat) × Jq7) × Jq21)) :=
  loopV [(.exit 0, { regs := [(2, (.loc 0 false [])), (4, (.loc 1 false []))], heap := [Kq4, Kq4] }), (.ret, { regs := [(2, (.loc 0 false [])), (3, .bool)], heap := [Kq4, Kq4] })] { regs := [(2, (.loc 0 false [])), (4, (.loc 1 false [])), (5, (.int .i64))], heap := [Kq4, Kq4] } (interp (wk_.env.at K) wk_.hint (callF (wk_.env.at K) 7) (Code.sub [1, 1, 1, 1, 1, 0, 1, 0, 0] (Tryz.f75.body.getD .skip)) _)
theorem wk_.s0 (K n : Nat) (x : (((Nat) × ((Nat) × Jq3)) × Jq21)) : wk_.r0 K (n + 1) x = wk_.t0 K (wk_.r0 K n) x := by kernel_rfl
theorem wk_.e0 (K n : Nat) : wk_.r0 K n = wk_.l0 K n := eqR (l := wk_.l0 K) _ (wk_.s0 K) (fun _ _ => rfl) (fun _ => rfl) n
theorem wk_.body_eq (K : Nat) (x : wk_.spec.args.den) : body (wk_.env.at K) 8 75 wk_.spec x = wk_.tr (wk_.r0 K) K x.1 := by kernel_rfl
theorem wk_.contract : Contract Tryz.prog gl 75 wk_.spec :=
  contract_of (E := wk_.env) (kn rfl (FnsOK_of ⟨⟨Tryz.func75, Tryz.call75⟩, trivial⟩)) (SpecsOK_of ⟨wbw.contract, trivial⟩) Tryz.call75 rfl rfl fun K x r h => by
    rw [wk_.body_eq, show wk_.r0 K = wk_.l0 K from funext (wk_.e0 K)]; exact h
def wF_.spec : Dp.Spec := ⟨Kq1, (.tup (.scons (.list Kq4) (.scons .bool Kq5))), false, fun K x => wF_ K x.1⟩
def wF_.hint : Dp.Hint := { n := 65, conds := [(36, [(.normal, { regs := [(0, .str), (5, (.slw 1)), (6, .str), (7, .bool), (8, (.int .i64))], heap := [(.row Kq4), (.row Kq4)], app := [1] })]), (49, [(.normal, { regs := [(0, .str), (5, (.slw 1)), (7, .bool), (8, (.int .i64))], heap := [(.row Kq4), (.row Kq4)], app := [1] }), (.ret, { regs := [(2, (.slw 3)), (3, .bool), (4, (.int .i64))], heap := [(.row Kq4), (.row Kq4), Kq4, (.row Kq4)], app := [1] })])], blocks := [(1, [(.normal, { regs := [(0, .str), (5, (.slw 1)), (6, .str), (7, .bool), (8, (.int .i64))], heap := [(.row Kq4), (.row Kq4)], app := [1] }), (.ret, { regs := [(2, (.slw 3)), (3, .bool), (4, (.int .i64))], heap := [(.row Kq4), (.row Kq4), Kq4, (.row Kq4)], app := [1] })])], regions := [(9, [(.normal, { regs := [(0, .str), (5, (.slw 1)), (6, .str), (7, .bool), (8, (.int .i64)), (32, .bool)], heap := [(.row Kq4), (.row Kq4)], app := [1] })])], loops := [(7, { regs := [(0, .str), (5, (.slw 1)), (6, .str), (7, .bool), (8, (.int .i64))], heap := [(.row Kq4), (.row Kq4)], app := [1] }, [(.exit 0, { regs := [(5, (.slw 1))], heap := [(.row Kq4), (.row Kq4)], app := [1] }), (.ret, { regs := [(2, (.slw 3)), (3, .bool), (4, (.int .i64))], heap := [(.row Kq4), (.row Kq4), Kq4, (.row Kq4)], app := [1] })])], own := [2, 2, 2, 2, 5] }
noncomputable def wF_.env : Dp.Env := ⟨ti, gl, [], [], [(55, Tryz.f55, wF_.hint)], [(115, wd_.spec), (75, wk_.spec)], 0, 40⟩
noncomputable def wF_.r0 (K : Nat) : Nat → (Jq17 × Jq14) → Option ((Jq8 × Jq14) ⊕ Jq13) :=
  loopV [(.exit 0, { regs := [(5, (.slw 1))], heap := [(.row Kq4), (.row Kq4)], app := [1] }), (.ret, { regs := [(2, (.slw 3)), (3, .bool), (4, (.int .i64))], heap := [(.row Kq4), (.row Kq4), Kq4, (.row Kq4)], app := [1] })] { regs := [(0, .str), (5, (.slw 1)), (6, .str), (7, .bool), (8, (.int .i64))], heap := [(.row Kq4), (.row Kq4)], app := [1] } (interp (wF_.env.at K) wF_.hint (callF (wF_.env.at K) 7) (Code.sub [1, 1, 1, 1, 1, 0, 1, 0, 0] (Tryz.f55.body.getD .skip)) _)
theorem wF_.s0 (K n : Nat) (x : (Jq17 × Jq14)) : wF_.r0 K (n + 1) x = wF_.t0 K (wF_.r0 K n) x := by kernel_rfl
theorem wF_.e0 (K n : Nat) : wF_.r0 K n = wF_.l0 K n := eqR (l := wF_.l0 K) _ (wF_.s0 K) (fun _ _ => rfl) (fun _ => rfl) n
theorem wF_.body_eq (K : Nat) (x : wF_.spec.args.den) : body (wF_.env.at K) 8 55 wF_.spec x = wF_.tr (wF_.r0 K) K x.1 := by kernel_rfl
theorem wF_.contract : Contract Tryz.prog gl 55 wF_.spec :=
  contract_of (E := wF_.env) (kn rfl (FnsOK_of ⟨⟨Tryz.func55, Tryz.call55⟩, trivial⟩)) (SpecsOK_of ⟨wd_.contract, wk_.contract, trivial⟩) Tryz.call55 rfl rfl fun K x r h => by
    rw [wF_.body_eq, show wF_.r0 K = wF_.l0 K from funext (wF_.e0 K)]; exact h
def wbf.spec : Dp.Spec := ⟨(.scons Kq6 .snil), (.tup (.scons Kq4 (.scons .bool .snil))), false, fun K x => wbf K x.1⟩
def wbf.hint : Dp.Hint := { n := 18, imm := [1] }
noncomputable def wbf.env : Dp.Env := ⟨ti, gl, [], [], [(34, Tryz.f34, wbf.hint)], [(74, wu_.spec), (75, wk_.spec)], 0, 40⟩
theorem wbf.body_eq (K : Nat) (x : wbf.spec.args.den) : body (wbf.env.at K) 8 34 wbf.spec x = wbf K x.1 := by kernel_rfl
theorem wbf.contract : Contract Tryz.prog gl 34 wbf.spec :=
  contract_of (E := wbf.env) (kn rfl (FnsOK_of ⟨⟨Tryz.func34, Tryz.call34⟩, trivial⟩)) (SpecsOK_of ⟨wu_.contract, wk_.contract, trivial⟩) Tryz.call34 rfl rfl fun K x r h => by
    rw [wbf.body_eq]; exact h
def wbs.spec : Dp.Spec := ⟨(.scons Kq4 (.scons Kq4 .snil)), .bool, false, fun K x => wbs K x.1 x.2.1⟩
def wbs.hint : Dp.Hint := { n := 10, imm := [2, 3] }
noncomputable def wbs.env : Dp.Env := ⟨ti, gl, [], [], [(67, Tryz.f67, wbs.hint)], [], 0, 40⟩
theorem wbs.body_eq (K : Nat) (x : wbs.spec.args.den) : body (wbs.env.at K) 8 67 wbs.spec x = wbs K x.1 x.2.1 := by kernel_rfl
theorem wbs.contract : Contract Tryz.prog gl 67 wbs.spec :=
  contract_of (E := wbs.env) (kn rfl (FnsOK_of ⟨⟨Tryz.func67, Tryz.call67⟩, trivial⟩)) (SpecsOK_of trivial) Tryz.call67 rfl rfl fun K x r h => by
    rw [wbs.body_eq]; exact h
def wE_.spec : Dp.Spec := ⟨(.scons .str (.scons Kq4 .snil)), .bool, false, fun K x => wE_ K x.1 x.2.1⟩
def wE_.hint : Dp.Hint := { n := 31, regions := [(5, [(.normal, { regs := [(3, (.ref Kq4)), (5, (.list Kq4)), (6, .bool), (8, (.int .i64))] })])], loops := [(3, { regs := [(3, (.ref Kq4)), (5, (.list Kq4)), (6, .bool), (8, (.int .i64))] }, [(.exit 0, { regs := [(6, .bool)] })])], imm := [3] }
noncomputable def wE_.env : Dp.Env := ⟨ti, gl, [], [], [(56, Tryz.f56, wE_.hint)], [(55, wF_.spec), (67, wbs.spec)], 0, 40⟩
noncomputable def wE_.r0 (K : Nat) : Nat → ((Jq5 × ((List Jq5) × ((Bool) × Jq3))) × (Unit)) → Option (Jq29) :=
  loopV [(.exit 0, { regs := [(6, .bool)] })] { regs := [(3, (.ref Kq4)), (5, (.list Kq4)), (6, .bool), (8, (.int .i64))] } (interp (wE_.env.at K) wE_.hint (callF (wE_.env.at K) 7) (Code.sub [1, 1, 0, 1, 0, 0] (Tryz.f56.body.getD .skip)) _)
theorem wE_.s0 (K n : Nat) (x : ((Jq5 × ((List Jq5) × ((Bool) × Jq3))) × (Unit))) : wE_.r0 K (n + 1) x = wE_.t0 K (wE_.r0 K n) x := by kernel_rfl
theorem wE_.e0 (K n : Nat) : wE_.r0 K n = wE_.l0 K n := eqR (l := wE_.l0 K) _ (wE_.s0 K) (fun _ _ => rfl) (fun _ => rfl) n
theorem wE_.body_eq (K : Nat) (x : wE_.spec.args.den) : body (wE_.env.at K) 8 56 wE_.spec x = wE_.tr (wE_.r0 K) K x.1 x.2.1 := by kernel_rfl
theorem wE_.contract : Contract Tryz.prog gl 56 wE_.spec :=
  contract_of (E := wE_.env) (kn rfl (FnsOK_of ⟨⟨Tryz.func56, Tryz.call56⟩, trivial⟩)) (SpecsOK_of ⟨wF_.contract, wbs.contract, trivial⟩) Tryz.call56 rfl rfl fun K x r h => by
    rw [wE_.body_eq, show wE_.r0 K = wE_.l0 K from funext (wE_.e0 K)]; exact h
def wM_.spec : Dp.Spec := ⟨(.scons (.int .u8) .snil), (.tup (.scons (.int .i64) (.scons .bool .snil))), false, fun K x => wM_ K x.1⟩
def wM_.hint : Dp.Hint := { n := 24, regions := [(5, [(.normal, { regs := [(0, (.int .u8)), (4, .str), (5, .str), (6, (.int .i64)), (22, .bool)] })])], loops := [(3, { regs := [(0, (.int .u8)), (4, .str), (5, .str), (6, (.int .i64))] }, [(.exit 0, { regs := [] }), (.ret, { regs := [(2, (.int .i64)), (3, .bool)] })])] }
noncomputable def wM_.env : Dp.Env := ⟨ti, gl, [], [], [(268, Tryz.f268, wM_.hint)], [], 0, 40⟩
noncomputable def wM_.r0 (K : Nat) : Nat → (((Int) × ((List UInt8) × ((List UInt8) × Jq3))) × (Unit)) → Option (Jq8 ⊕ (Jq18 × (Unit))) :=
  loopV [(.exit 0, { regs := [] }), (.ret, { regs := [(2, (.int .i64)), (3, .bool)] })] { regs := [(0, (.int .u8)), (4, .str), (5, .str), (6, (.int .i64))] } (interp (wM_.env.at K) wM_.hint (callF (wM_.env.at K) 7) (Code.sub [1, 1, 0, 1, 0, 0] (Tryz.f268.body.getD .skip)) _)
theorem wM_.s0 (K n : Nat) (x : (((Int) × ((List UInt8) × ((List UInt8) × Jq3))) × (Unit))) : wM_.r0 K (n + 1) x = wM_.t0 K (wM_.r0 K n) x := by kernel_rfl
theorem wM_.e0 (K n : Nat) : wM_.r0 K n = wM_.l0 K n := eqR (l := wM_.l0 K) _ (wM_.s0 K) (fun _ _ => rfl) (fun _ => rfl) n
theorem wM_.body_eq (K : Nat) (x : wM_.spec.args.den) : body (wM_.env.at K) 8 268 wM_.spec x = wM_.tr (wM_.r0 K) K x.1 := by kernel_rfl
theorem wM_.contract : Contract Tryz.prog gl 268 wM_.spec :=
  contract_of (E := wM_.env) (kn rfl (FnsOK_of ⟨⟨Tryz.func268, Tryz.call268⟩, trivial⟩)) (SpecsOK_of trivial) Tryz.call268 rfl rfl fun K x r h => by
    rw [wM_.body_eq, show wM_.r0 K = wM_.l0 K from funext (wM_.e0 K)]; exact h
def wJ_.spec : Dp.Spec := ⟨(.scons .str (.scons (.int .i64) Kq7)), (.tup Kq7), false, fun K x => wJ_ K x.1 x.2.1 x.2.2.1 x.2.2.2.1⟩
def wJ_.hint : Dp.Hint := { n := 52, regions := [(1, [(.normal, { regs := [(0, .str), (1, (.int .i64)), (3, (.int .i64)), (22, .bool)] })]), (8, [(.normal, { regs := [(0, .str), (1, (.int .i64)), (3, (.int .i64)), (10, (.int .i64)), (11, (.int .i64)), (12, (.int .i64)), (42, .bool)] })])], loops := [(5, { regs := [(0, .str), (1, (.int .i64)), (3, (.int .i64)), (10, (.int .i64)), (11, (.int .i64))] }, [(.exit 0, { regs := [(3, (.int .i64)), (10, (.int .i64))] }), (.ret, { regs := [(8, (.int .i64)), (9, (.int .i64))] })])] }
noncomputable def wJ_.env : Dp.Env := ⟨ti, gl, [], [], [(259, Tryz.f259, wJ_.hint)], [(268, wM_.spec)], 0, 40⟩
noncomputable def wJ_.r0 (K : Nat) : Nat → (((List UInt8) × ((Int) × ((Int) × Jq9))) × (Unit)) → Option ((Jq9 × (Unit)) ⊕ (Jq9 × (Unit))) :=
  loopV [(.exit 0, { regs := [(3, (.int .i64)), (10, (.int .i64))] }), (.ret, { regs := [(8, (.int .i64)), (9, (.int .i64))] })] { regs := [(0, .str), (1, (.int .i64)), (3, (.int .i64)), (10, (.int .i64)), (11, (.int .i64))] } (interp (wJ_.env.at K) wJ_.hint (callF (wJ_.env.at K) 7) (Code.sub [1, 1, 1, 0, 1, 0, 0] (Tryz.f259.body.getD .skip)) _)
theorem wJ_.s0 (K n : Nat) (x : (((List UInt8) × ((Int) × ((Int) × Jq9))) × (Unit))) : wJ_.r0 K (n + 1) x = wJ_.t0 K (wJ_.r0 K n) x := by kernel_rfl
theorem wJ_.e0 (K n : Nat) : wJ_.r0 K n = wJ_.l0 K n := eqR (l := wJ_.l0 K) _ (wJ_.s0 K) (fun _ _ => rfl) (fun _ => rfl) n
theorem wJ_.body_eq (K : Nat) (x : wJ_.spec.args.den) : body (wJ_.env.at K) 8 259 wJ_.spec x = wJ_.tr (wJ_.r0 K) K x.1 x.2.1 x.2.2.1 x.2.2.2.1 := by kernel_rfl
theorem wJ_.contract : Contract Tryz.prog gl 259 wJ_.spec :=
  contract_of (E := wJ_.env) (kn rfl (FnsOK_of ⟨⟨Tryz.func259, Tryz.call259⟩, trivial⟩)) (SpecsOK_of ⟨wM_.contract, trivial⟩) Tryz.call259 rfl rfl fun K x r h => by
    rw [wJ_.body_eq, show wJ_.r0 K = wJ_.l0 K from funext (wJ_.e0 K)]; exact h
def wbF.spec : Dp.Spec := ⟨(.scons .str Kq5), (.tup Kq7), false, fun K x => wbF K x.1 x.2.1⟩
def wbF.hint : Dp.Hint := { n := 11 }
noncomputable def wbF.env : Dp.Env := ⟨ti, gl, [], [], [(213, Tryz.f213, wbF.hint)], [(259, wJ_.spec)], 0, 40⟩
theorem wbF.body_eq (K : Nat) (x : wbF.spec.args.den) : body (wbF.env.at K) 8 213 wbF.spec x = wbF K x.1 x.2.1 := by kernel_rfl
theorem wbF.contract : Contract Tryz.prog gl 213 wbF.spec :=
  contract_of (E := wbF.env) (kn rfl (FnsOK_of ⟨⟨Tryz.func213, Tryz.call213⟩, trivial⟩)) (SpecsOK_of ⟨wJ_.contract, trivial⟩) Tryz.call213 rfl rfl fun K x r h => by
    rw [wbF.body_eq]; exact h
def wU_.spec : Dp.Spec := ⟨(.scons .str Kq7), (.int .i64), false, fun K x => wU_ K x.1 x.2.1 x.2.2.1⟩
def wU_.hint : Dp.Hint := { n := 32, regions := [(1, [(.normal, { regs := [(0, .str), (1, (.int .i64)), (2, (.int .i64)), (18, .bool)] })])] }
noncomputable def wU_.env : Dp.Env := ⟨ti, gl, [], [], [(163, Tryz.f163, wU_.hint)], [(213, wbF.spec)], 0, 40⟩
theorem wU_.body_eq (K : Nat) (x : wU_.spec.args.den) : body (wU_.env.at K) 8 163 wU_.spec x = wU_ K x.1 x.2.1 x.2.2.1 := by kernel_rfl
theorem wU_.contract : Contract Tryz.prog gl 163 wU_.spec :=
  contract_of (E := wU_.env) (kn rfl (FnsOK_of ⟨⟨Tryz.func163, Tryz.call163⟩, trivial⟩)) (SpecsOK_of ⟨wbF.contract, trivial⟩) Tryz.call163 rfl rfl fun K x r h => by
    rw [wU_.body_eq]; exact h
def w1_.spec : Dp.Spec := ⟨Kq5, .str, false, fun K x => w1_ K x.1⟩
def w1_.hint : Dp.Hint := { n := 9 }
noncomputable def w1_.env : Dp.Env := ⟨ti, gl, [], [], [(211, Tryz.f211, w1_.hint)], [], 0, 40⟩
theorem w1_.body_eq (K : Nat) (x : w1_.spec.args.den) : body (w1_.env.at K) 8 211 w1_.spec x = w1_ K x.1 := by kernel_rfl
theorem w1_.contract : Contract Tryz.prog gl 211 w1_.spec :=
  contract_of (E := w1_.env) (kn rfl (FnsOK_of ⟨⟨Tryz.func211, Tryz.call211⟩, trivial⟩)) (SpecsOK_of trivial) Tryz.call211 rfl rfl fun K x r h => by
    rw [w1_.body_eq]; exact h
def wbt.spec : Dp.Spec := ⟨Kq5, .bool, false, fun K x => wbt K x.1⟩
def wbt.hint : Dp.Hint := { n := 16 }
noncomputable def wbt.env : Dp.Env := ⟨ti, gl, [], [], [(278, Tryz.f278, wbt.hint)], [], 0, 40⟩
theorem wbt.body_eq (K : Nat) (x : wbt.spec.args.den) : body (wbt.env.at K) 8 278 wbt.spec x = wbt K x.1 := by kernel_rfl
theorem wbt.contract : Contract Tryz.prog gl 278 wbt.spec :=
  contract_of (E := wbt.env) (kn rfl (FnsOK_of ⟨⟨Tryz.func278, Tryz.call278⟩, trivial⟩)) (SpecsOK_of trivial) Tryz.call278 rfl rfl fun K x r h => by
    rw [wbt.body_eq]; exact h
def wbg.spec : Dp.Spec := ⟨Kq7, (.int .i64), false, fun K x => wbg K x.1 x.2.1⟩
def wbg.hint : Dp.Hint := { n := 16, regions := [(1, [(.normal, { regs := [(1, (.int .i64)), (10, .bool)] })])] }
noncomputable def wbg.env : Dp.Env := ⟨ti, gl, [], [], [(257, Tryz.f257, wbg.hint)], [(278, wbt.spec)], 0, 40⟩
theorem wbg.body_eq (K : Nat) (x : wbg.spec.args.den) : body (wbg.env.at K) 8 257 wbg.spec x = wbg K x.1 x.2.1 := by kernel_rfl
theorem wbg.contract : Contract Tryz.prog gl 257 wbg.spec :=
  contract_of (E := wbg.env) (kn rfl (FnsOK_of ⟨⟨Tryz.func257, Tryz.call257⟩, trivial⟩)) (SpecsOK_of ⟨wbt.contract, trivial⟩) Tryz.call257 rfl rfl fun K x r h => by
    rw [wbg.body_eq]; exact h
def wbq.spec : Dp.Spec := ⟨Kq5, (.int .i64), false, fun K x => wbq K x.1⟩
def wbq.hint : Dp.Hint := { n := 5 }
noncomputable def wbq.env : Dp.Env := ⟨ti, gl, [], [], [(258, Tryz.f258, wbq.hint)], [(278, wbt.spec)], 0, 40⟩
theorem wbq.body_eq (K : Nat) (x : wbq.spec.args.den) : body (wbq.env.at K) 8 258 wbq.spec x = wbq K x.1 := by kernel_rfl
theorem wbq.contract : Contract Tryz.prog gl 258 wbq.spec :=
  contract_of (E := wbq.env) (kn rfl (FnsOK_of ⟨⟨Tryz.func258, Tryz.call258⟩, trivial⟩)) (SpecsOK_of ⟨wbt.contract, trivial⟩) Tryz.call258 rfl rfl fun K x r h => by
    rw [wbq.body_eq]; exact h
def wj_.spec : Dp.Spec := ⟨(.scons (.int .i64) Kq7), (.tup (.scons (.int .i64) (.scons .bool .snil))), false, fun K x => wj_ K x.1 x.2.1 x.2.2.1⟩
def wj_.hint : Dp.Hint := { n := 58, regions := [(1, [(.normal, { regs := [(0, (.int .i64)), (1, (.int .i64)), (2, (.int .i64)), (35, .bool)] })])], loops := [(5, { regs := [(0, (.int .i64)), (1, (.int .i64)), (8, (.int .i64)), (9, (.int .i64))] }, [(.exit 0, { regs := [(0, (.int .i64)), (1, (.int .i64)), (8, (.int .i64))] })]), (9, { regs := [(0, (.int .i64)), (1, (.int .i64)), (8, (.int .i64)), (10, (.int .i64))] }, [(.exit 2, { regs := [(8, (.int .i64))] })])] }
noncomputable def wj_.env : Dp.Env := ⟨ti, gl, [], [], [(212, Tryz.f212, wj_.hint)], [(257, wbg.spec), (258, wbq.spec)], 0, 40⟩
noncomputable def wj_.r1 (K : Nat) : Nat → (((Int) × ((Int) × Jq9)) × (Unit)) → Option ((Jq3 × (Unit))) :=
  loopV [(.exit 2, { regs := [(8, (.int .i64))] })] { regs := [(0, (.int .i64)), (1, (.int .i64)), (8, (.int .i64)), (10, (.int .i64))] } (interp (wj_.env.at K) wj_.hint (callF (wj_.env.at K) 7) (Code.sub [1, 1, 1, 1, 0, 1, 0, 0] (Tryz.f212.body.getD .skip)) _)
theorem wj_.s1 (K n : Nat) (x : (((Int) × ((Int) × Jq9)) × (Unit))) : wj_.r1 K (n + 1) x = wj_.t1 K (wj_.r1 K n) x := by kernel_rfl
theorem wj_.e1 (K n : Nat) : wj_.r1 K n = wj_.l1 K n := eqR (l := wj_.l1 K) _ (wj_.s1 K) (fun _ _ => rfl) (fun _ => rfl) n
noncomputable def wj_.r0 (K : Nat) : Nat → (((Int) × ((Int) × Jq9)) × (Unit)) → Option (Jq26) :=
  loopV [(.exit 0, { regs := [(0, (.int .i64)), (1, (.int .i64)), (8, (.int .i64))] })] { regs := [(0, (.int .i64)), (1, (.int .i64)), (8, (.int .i64)), (9, (.int .i64))] } (interp (wj_.env.at K) wj_.hint (callF (wj_.env.at K) 7) (Code.sub [1, 1, 1, 0, 1, 0, 0] (Tryz.f212.body.getD .skip)) _)
theorem wj_.s0 (K n : Nat) (x : (((Int) × ((Int) × Jq9)) × (Unit))) : wj_.r0 K (n + 1) x = wj_.t0 K (wj_.r0 K n) x := by kernel_rfl
theorem wj_.e0 (K n : Nat) : wj_.r0 K n = wj_.l0 K n := eqR (l := wj_.l0 K) _ (wj_.s0 K) (fun _ _ => rfl) (fun _ => rfl) n
theorem wj_.body_eq (K : Nat) (x : wj_.spec.args.den) : body (wj_.env.at K) 8 212 wj_.spec x = wj_.tr (wj_.r0 K) (wj_.r1 K) K x.1 x.2.1 x.2.2.1 := by kernel_rfl
theorem wj_.contract : Contract Tryz.prog gl 212 wj_.spec :=
  contract_of (E := wj_.env) (kn rfl (FnsOK_of ⟨⟨Tryz.func212, Tryz.call212⟩, trivial⟩)) (SpecsOK_of ⟨wbg.contract, wbq.contract, trivial⟩) Tryz.call212 rfl rfl fun K x r h => by
    rw [wj_.body_eq, show wj_.r0 K = wj_.l0 K from funext (wj_.e0 K), show wj_.r1 K = wj_.l1 K from funext (wj_.e1 K)]; exact h
def wH_.spec : Dp.Spec := ⟨(.scons .str (.scons (.int .i64) (.scons (.int .i64) Kq7))), (.int .i64), false, fun K x => wH_ K x.1 x.2.1 x.2.2.1 x.2.2.2.1 x.2.2.2.2.1⟩
def wH_.hint : Dp.Hint := { n := 92, regions := [(1, [(.normal, { regs := [(0, .str), (1, (.int .i64)), (2, (.int .i64)), (3, (.int .i64)), (4, (.int .i64)), (25, .bool)] })]), (9, [(.normal, { regs := [(12, (.int .i64)), (14, (.int .i64)), (15, (.int .i64)), (16, (.int .i64)), (81, .bool)] })])], loops := [(4, { regs := [(0, .str), (1, (.int .i64)), (2, (.int .i64)), (3, (.int .i64)), (4, (.int .i64)), (11, (.int .i64))] }, [(.exit 0, { regs := [] }), (.ret, { regs := [(10, (.int .i64))] })])] }
noncomputable def wH_.env : Dp.Env := ⟨ti, gl, [], [], [(162, Tryz.f162, wH_.hint)], [(163, wU_.spec), (211, w1_.spec), (212, wj_.spec)], 0, 40⟩
noncomputable def wH_.r0 (K : Nat) : Nat → (((List UInt8) × ((Int) × ((Int) × ((Int) × Jq9)))) × (Unit)) → Option (Jq8 ⊕ (Jq3 × (Unit))) :=
  loopV [(.exit 0, { regs := [] }), (.ret, { regs := [(10, (.int .i64))] })] { regs := [(0, .str), (1, (.int .i64)), (2, (.int .i64)), (3, (.int .i64)), (4, (.int .i64)), (11, (.int .i64))] } (interp (wH_.env.at K) wH_.hint (callF (wH_.env.at K) 7) (Code.sub [1, 1, 0, 1, 0, 0] (Tryz.f162.body.getD .skip)) _)
theorem wH_.s0 (K n : Nat) (x : (((List UInt8) × ((Int) × ((Int) × ((Int) × Jq9)))) × (Unit))) : wH_.r0 K (n + 1) x = wH_.t0 K (wH_.r0 K n) x := by kernel_rfl
theorem wH_.e0 (K n : Nat) : wH_.r0 K n = wH_.l0 K n := eqR (l := wH_.l0 K) _ (wH_.s0 K) (fun _ _ => rfl) (fun _ => rfl) n
theorem wH_.body_eq (K : Nat) (x : wH_.spec.args.den) : body (wH_.env.at K) 8 162 wH_.spec x = wH_.tr (wH_.r0 K) K x.1 x.2.1 x.2.2.1 x.2.2.2.1 x.2.2.2.2.1 := by kernel_rfl
theorem wH_.contract : Contract Tryz.prog gl 162 wH_.spec :=
  contract_of (E := wH_.env) (kn rfl (FnsOK_of ⟨⟨Tryz.func162, Tryz.call162⟩, trivial⟩)) (SpecsOK_of ⟨wU_.contract, w1_.contract, wj_.contract, trivial⟩) Tryz.call162 rfl rfl fun K x r h => by
    rw [wH_.body_eq, show wH_.r0 K = wH_.l0 K from funext (wH_.e0 K)]; exact h
def wc_.spec : Dp.Spec := ⟨Kq5, (.tup (.scons (.int .i64) (.scons (.int .i64) (.scons (.int .i64) (.scons .bool .snil))))), false, fun K x => wc_ K x.1⟩
def wc_.hint : Dp.Hint := { n := 40, regions := [(1, [(.normal, { regs := [(0, (.int .i64)), (13, .bool)] })])], loops := [(4, { regs := [(0, (.int .i64)), (6, (.int .i64)), (7, (.int .i64))] }, [(.exit 0, { regs := [(0, (.int .i64)), (6, (.int .i64)), (7, (.int .i64))] })]), (7, { regs := [(0, (.int .i64)), (6, (.int .i64)), (7, (.int .i64))] }, [(.exit 2, { regs := [(0, (.int .i64)), (6, (.int .i64)), (7, (.int .i64))] })])] }
noncomputable def wc_.env : Dp.Env := ⟨ti, gl, [], [], [(214, Tryz.f214, wc_.hint)], [(257, wbg.spec), (258, wbq.spec)], 0, 40⟩
noncomputable def wc_.r1 (K : Nat) : Nat → Jq26 → Option (Jq26) :=
  loopV [(.exit 2, { regs := [(0, (.int .i64)), (6, (.int .i64)), (7, (.int .i64))] })] { regs := [(0, (.int .i64)), (6, (.int .i64)), (7, (.int .i64))] } (interp (wc_.env.at K) wc_.hint (callF (wc_.env.at K) 7) (Code.sub [1, 1, 1, 1, 0, 0, 0] (Tryz.f214.body.getD .skip)) _)
theorem wc_.s1 (K n : Nat) (x : Jq26) : wc_.r1 K (n + 1) x = wc_.t1 K (wc_.r1 K n) x := by kernel_rfl
theorem wc_.e1 (K n : Nat) : wc_.r1 K n = wc_.l1 K n := eqR (l := wc_.l1 K) _ (wc_.s1 K) (fun _ _ => rfl) (fun _ => rfl) n
noncomputable def wc_.r0 (K : Nat) : Nat → Jq26 → Option (Jq26) :=
  loopV [(.exit 0, { regs := [(0, (.int .i64)), (6, (.int .i64)), (7, (.int .i64))] })] { regs := [(0, (.int .i64)), (6, (.int .i64)), (7, (.int .i64))] } (interp (wc_.env.at K) wc_.hint (callF (wc_.env.at K) 7) (Code.sub [1, 1, 1, 0, 0, 0] (Tryz.f214.body.getD .skip)) _)
theorem wc_.s0 (K n : Nat) (x : Jq26) : wc_.r0 K (n + 1) x = wc_.t0 K (wc_.r0 K n) x := by kernel_rfl
theorem wc_.e0 (K n : Nat) : wc_.r0 K n = wc_.l0 K n := eqR (l := wc_.l0 K) _ (wc_.s0 K) (fun _ _ => rfl) (fun _ => rfl) n
theorem wc_.body_eq (K : Nat) (x : wc_.spec.args.den) : body (wc_.env.at K) 8 214 wc_.spec x = wc_.tr (wc_.r0 K) (wc_.r1 K) K x.1 := by kernel_rfl
theorem wc_.contract : Contract Tryz.prog gl 214 wc_.spec :=
  contract_of (E := wc_.env) (kn rfl (FnsOK_of ⟨⟨Tryz.func214, Tryz.call214⟩, trivial⟩)) (SpecsOK_of ⟨wbg.contract, wbq.contract, trivial⟩) Tryz.call214 rfl rfl fun K x r h => by
    rw [wc_.body_eq, show wc_.r0 K = wc_.l0 K from funext (wc_.e0 K), show wc_.r1 K = wc_.l1 K from funext (wc_.e1 K)]; exact h
def wV_.spec : Dp.Spec := ⟨Kq5, (.int .i64), false, fun K x => wV_ K x.1⟩
def wV_.hint : Dp.Hint := { n := 9 }
noncomputable def wV_.env : Dp.Env := ⟨ti, gl, [], [], [(216, Tryz.f216, wV_.hint)], [], 0, 40⟩
theorem wV_.body_eq (K : Nat) (x : wV_.spec.args.den) : body (wV_.env.at K) 8 216 wV_.spec x = wV_ K x.1 := by kernel_rfl
theorem wV_.contract : Contract Tryz.prog gl 216 wV_.spec :=
  contract_of (E := wV_.env) (kn rfl (FnsOK_of ⟨⟨Tryz.func216, Tryz.call216⟩, trivial⟩)) (SpecsOK_of trivial) Tryz.call216 rfl rfl fun K x r h => by
    rw [wV_.body_eq]; exact h
def wbu.spec : Dp.Spec := ⟨Kq5, .str, false, fun K x => wbu K x.1⟩
def wbu.hint : Dp.Hint := { n := 7 }
noncomputable def wbu.env : Dp.Env := ⟨ti, gl, [], [], [(215, Tryz.f215, wbu.hint)], [], 0, 40⟩
theorem wbu.body_eq (K : Nat) (x : wbu.spec.args.den) : body (wbu.env.at K) 8 215 wbu.spec x = wbu K x.1 := by kernel_rfl
theorem wbu.contract : Contract Tryz.prog gl 215 wbu.spec :=
  contract_of (E := wbu.env) (kn rfl (FnsOK_of ⟨⟨Tryz.func215, Tryz.call215⟩, trivial⟩)) (SpecsOK_of trivial) Tryz.call215 rfl rfl fun K x r h => by
    rw [wbu.body_eq]; exact h
def wp_.spec : Dp.Spec := ⟨(.scons (.int .u64) (.scons (.int .u64) .snil)), .str, false, fun K x => wp_ K x.1 x.2.1⟩
def wp_.hint : Dp.Hint := { n := 31, loops := [(3, { regs := [(0, (.int .u64)), (1, (.int .u64)), (5, .str), (6, .str)] }, [(.exit 0, { regs := [(0, (.int .u64)), (5, .str), (6, .str)] })])] }
noncomputable def wp_.env : Dp.Env := ⟨ti, gl, [], [], [(260, Tryz.f260, wp_.hint)], [], 0, 40⟩
noncomputable def wp_.r0 (K : Nat) : Nat → (((Int) × ((Int) × Jq11)) × (Unit)) → Option ((((Int) × Jq11) × (Unit))) :=
  loopV [(.exit 0, { regs := [(0, (.int .u64)), (5, .str), (6, .str)] })] { regs := [(0, (.int .u64)), (1, (.int .u64)), (5, .str), (6, .str)] } (interp (wp_.env.at K) wp_.hint (callF (wp_.env.at K) 7) (Code.sub [1, 1, 1, 0, 0, 0] (Tryz.f260.body.getD .skip)) _)
theorem wp_.s0 (K n : Nat) (x : (((Int) × ((Int) × Jq11)) × (Unit))) : wp_.r0 K (n + 1) x = wp_.t0 K (wp_.r0 K n) x := by kernel_rfl
theorem wp_.e0 (K n : Nat) : wp_.r0 K n = wp_.l0 K n := eqR (l := wp_.l0 K) _ (wp_.s0 K) (fun _ _ => rfl) (fun _ => rfl) n
theorem wp_.body_eq (K : Nat) (x : wp_.spec.args.den) : body (wp_.env.at K) 8 260 wp_.spec x = wp_.tr (wp_.r0 K) K x.1 x.2.1 := by kernel_rfl
theorem wp_.contract : Contract Tryz.prog gl 260 wp_.spec :=
  contract_of (E := wp_.env) (kn rfl (FnsOK_of ⟨⟨Tryz.func260, Tryz.call260⟩, trivial⟩)) (SpecsOK_of trivial) Tryz.call260 rfl rfl fun K x r h => by
    rw [wp_.body_eq, show wp_.r0 K = wp_.l0 K from funext (wp_.e0 K)]; exact h
def wbd.spec : Dp.Spec := ⟨Kq5, .str, false, fun K x => wbd K x.1⟩
def wbd.hint : Dp.Hint := { n := 13 }
noncomputable def wbd.env : Dp.Env := ⟨ti, gl, [], [], [(219, Tryz.f219, wbd.hint)], [(260, wp_.spec)], 0, 40⟩
theorem wbd.body_eq (K : Nat) (x : wbd.spec.args.den) : body (wbd.env.at K) 8 219 wbd.spec x = wbd K x.1 := by kernel_rfl
theorem wbd.contract : Contract Tryz.prog gl 219 wbd.spec :=
  contract_of (E := wbd.env) (kn rfl (FnsOK_of ⟨⟨Tryz.func219, Tryz.call219⟩, trivial⟩)) (SpecsOK_of ⟨wp_.contract, trivial⟩) Tryz.call219 rfl rfl fun K x r h => by
    rw [wbd.body_eq]; exact h
def wq_.spec : Dp.Spec := ⟨Kq7, .str, false, fun K x => wq_ K x.1 x.2.1⟩
def wq_.hint : Dp.Hint := { n := 22, regions := [(2, [(.normal, { regs := [(1, (.int .i64)), (5, .str), (13, .bool)] })])], loops := [(4, { regs := [(1, (.int .i64)), (5, .str)] }, [(.exit 0, { regs := [(5, .str)] })])] }
noncomputable def wq_.env : Dp.Env := ⟨ti, gl, [], [], [(217, Tryz.f217, wq_.hint)], [(219, wbd.spec)], 0, 40⟩
noncomputable def wq_.r0 (K : Nat) : Nat → (((Int) × Jq0) × (Unit)) → Option (Jq24) :=
  loopV [(.exit 0, { regs := [(5, .str)] })] { regs := [(1, (.int .i64)), (5, .str)] } (interp (wq_.env.at K) wq_.hint (callF (wq_.env.at K) 7) (Code.sub [1, 1, 1, 0, 0, 0] (Tryz.f217.body.getD .skip)) _)
theorem wq_.s0 (K n : Nat) (x : (((Int) × Jq0) × (Unit))) : wq_.r0 K (n + 1) x = wq_.t0 K (wq_.r0 K n) x := by kernel_rfl
theorem wq_.e0 (K n : Nat) : wq_.r0 K n = wq_.l0 K n := eqR (l := wq_.l0 K) _ (wq_.s0 K) (fun _ _ => rfl) (fun _ => rfl) n
theorem wq_.body_eq (K : Nat) (x : wq_.spec.args.den) : body (wq_.env.at K) 8 217 wq_.spec x = wq_.tr (wq_.r0 K) K x.1 x.2.1 := by kernel_rfl
theorem wq_.contract : Contract Tryz.prog gl 217 wq_.spec :=
  contract_of (E := wq_.env) (kn rfl (FnsOK_of ⟨⟨Tryz.func217, Tryz.call217⟩, trivial⟩)) (SpecsOK_of ⟨wbd.contract, trivial⟩) Tryz.call217 rfl rfl fun K x r h => by
    rw [wq_.body_eq, show wq_.r0 K = wq_.l0 K from funext (wq_.e0 K)]; exact h
def w8_.spec : Dp.Spec := ⟨Kq5, .str, false, fun K x => w8_ K x.1⟩
def w8_.hint : Dp.Hint := { n := 20 }
noncomputable def w8_.env : Dp.Env := ⟨ti, gl, [], [], [(218, Tryz.f218, w8_.hint)], [(217, wq_.spec)], 0, 40⟩
theorem w8_.body_eq (K : Nat) (x : w8_.spec.args.den) : body (w8_.env.at K) 8 218 w8_.spec x = w8_ K x.1 := by kernel_rfl
theorem w8_.contract : Contract Tryz.prog gl 218 w8_.spec :=
  contract_of (E := w8_.env) (kn rfl (FnsOK_of ⟨⟨Tryz.func218, Tryz.call218⟩, trivial⟩)) (SpecsOK_of ⟨wq_.contract, trivial⟩) Tryz.call218 rfl rfl fun K x r h => by
    rw [w8_.body_eq]; exact h
def w9_.spec : Dp.Spec := ⟨Kq5, .str, false, fun K x => w9_ K x.1⟩
def w9_.hint : Dp.Hint := { n := 43, regions := [(1, [(.normal, { regs := [(0, (.int .i64)), (12, .bool)] })])] }
noncomputable def w9_.env : Dp.Env := ⟨ti, gl, [], [], [(164, Tryz.f164, w9_.hint)], [(211, w1_.spec), (214, wc_.spec), (216, wV_.spec), (215, wbu.spec), (217, wq_.spec), (218, w8_.spec)], 0, 40⟩
theorem w9_.body_eq (K : Nat) (x : w9_.spec.args.den) : body (w9_.env.at K) 8 164 w9_.spec x = w9_ K x.1 := by kernel_rfl
theorem w9_.contract : Contract Tryz.prog gl 164 w9_.spec :=
  contract_of (E := w9_.env) (kn rfl (FnsOK_of ⟨⟨Tryz.func164, Tryz.call164⟩, trivial⟩)) (SpecsOK_of ⟨w1_.contract, wc_.contract, wV_.contract, wbu.contract, wq_.contract, w8_.contract, trivial⟩) Tryz.call164 rfl rfl fun K x r h => by
    rw [w9_.body_eq]; exact h
def wbB.spec : Dp.Spec := ⟨Kq5, .str, false, fun K x => wbB K x.1⟩
def wbB.hint : Dp.Hint := { n := 43, regions := [(1, [(.normal, { regs := [(0, (.int .i64)), (12, .bool)] })])] }
noncomputable def wbB.env : Dp.Env := ⟨ti, gl, [], [], [(165, Tryz.f165, wbB.hint)], [(211, w1_.spec), (214, wc_.spec), (216, wV_.spec), (215, wbu.spec), (217, wq_.spec), (218, w8_.spec)], 0, 40⟩
theorem wbB.body_eq (K : Nat) (x : wbB.spec.args.den) : body (wbB.env.at K) 8 165 wbB.spec x = wbB K x.1 := by kernel_rfl
theorem wbB.contract : Contract Tryz.prog gl 165 wbB.spec :=
  contract_of (E := wbB.env) (kn rfl (FnsOK_of ⟨⟨Tryz.func165, Tryz.call165⟩, trivial⟩)) (SpecsOK_of ⟨w1_.contract, wc_.contract, wV_.contract, wbu.contract, wq_.contract, w8_.contract, trivial⟩) Tryz.call165 rfl rfl fun K x r h => by
    rw [wbB.body_eq]; exact h
def wbc.spec : Dp.Spec := ⟨Kq5, .str, false, fun K x => wbc K x.1⟩
def wbc.hint : Dp.Hint := { n := 48, conds := [(25, [(.normal, { regs := [(0, (.int .i64)), (3, (.int .i64)), (4, (.int .i64)), (7, .str)] })])], regions := [(1, [(.normal, { regs := [(0, (.int .i64)), (13, .bool)] })])] }
noncomputable def wbc.env : Dp.Env := ⟨ti, gl, [], [], [(166, Tryz.f166, wbc.hint)], [(211, w1_.spec), (214, wc_.spec), (216, wV_.spec), (215, wbu.spec), (219, wbd.spec), (217, wq_.spec), (218, w8_.spec)], 0, 40⟩
theorem wbc.body_eq (K : Nat) (x : wbc.spec.args.den) : body (wbc.env.at K) 8 166 wbc.spec x = wbc K x.1 := by kernel_rfl
theorem wbc.contract : Contract Tryz.prog gl 166 wbc.spec :=
  contract_of (E := wbc.env) (kn rfl (FnsOK_of ⟨⟨Tryz.func166, Tryz.call166⟩, trivial⟩)) (SpecsOK_of ⟨w1_.contract, wc_.contract, wV_.contract, wbu.contract, wbd.contract, wq_.contract, w8_.contract, trivial⟩) Tryz.call166 rfl rfl fun K x r h => by
    rw [wbc.body_eq]; exact h
def wD_.spec : Dp.Spec := ⟨Kq1, (.tup Kq7), false, fun K x => wD_ K x.1⟩
def wD_.hint : Dp.Hint := { n := 87, conds := [(42, [(.normal, { regs := [(0, .str), (5, (.int .i64)), (6, (.int .i64))] })]), (70, [(.normal, { regs := [(0, .str), (8, (.int .i64))] })])], regions := [(2, [(.normal, { regs := [(0, .str), (4, (.int .i64)), (23, .bool)] })]), (5, [(.normal, { regs := [(0, .str), (5, (.int .i64)), (34, .bool)] })]), (12, [(.normal, { regs := [(0, .str), (7, (.int .i64)), (65, .bool)] })]), (18, [(.normal, { regs := [(9, (.int .i64)), (85, .bool)] })])], loops := [(5, { regs := [(0, .str), (5, (.int .i64))] }, [(.exit 0, { regs := [(0, .str), (5, (.int .i64))] })])] }
noncomputable def wD_.env : Dp.Env := ⟨ti, gl, [], [], [(116, Tryz.f116, wD_.hint)], [(163, wU_.spec), (162, wH_.spec), (164, w9_.spec), (165, wbB.spec), (166, wbc.spec)], 0, 40⟩
noncomputable def wD_.r0 (K : Nat) : Nat → Jq25 → Option (Jq25) :=
  loopV [(.exit 0, { regs := [(0, .str), (5, (.int .i64))] })] { regs := [(0, .str), (5, (.int .i64))] } (interp (wD_.env.at K) wD_.hint (callF (wD_.env.at K) 7) (Code.sub [1, 1, 1, 0, 0, 0] (Tryz.f116.body.getD .skip)) _)
theorem wD_.s0 (K n : Nat) (x : Jq25) : wD_.r0 K (n + 1) x = wD_.t0 K (wD_.r0 K n) x := by kernel_rfl
theorem wD_.e0 (K n : Nat) : wD_.r0 K n = wD_.l0 K n := eqR (l := wD_.l0 K) _ (wD_.s0 K) (fun _ _ => rfl) (fun _ => rfl) n
theorem wD_.body_eq (K : Nat) (x : wD_.spec.args.den) : body (wD_.env.at K) 8 116 wD_.spec x = wD_.tr (wD_.r0 K) K x.1 := by kernel_rfl
theorem wD_.contract : Contract Tryz.prog gl 116 wD_.spec :=
  contract_of (E := wD_.env) (kn rfl (FnsOK_of ⟨⟨Tryz.func116, Tryz.call116⟩, trivial⟩)) (SpecsOK_of ⟨wU_.contract, wH_.contract, w9_.contract, wbB.contract, wbc.contract, trivial⟩) Tryz.call116 rfl rfl fun K x r h => by
    rw [wD_.body_eq, show wD_.r0 K = wD_.l0 K from funext (wD_.e0 K)]; exact h
def wbC.spec : Dp.Spec := ⟨(.scons (.list Kq3) Kq1), (.tup (.scons (.int .i64) (.scons .bool .snil))), false, fun K x => wbC K x.1 x.2.1⟩
def wbC.hint : Dp.Hint := { n := 25 }
noncomputable def wbC.env : Dp.Env := ⟨ti, gl, [], [], [(57, Tryz.f57, wbC.hint)], [(74, wu_.spec), (116, wD_.spec)], 0, 40⟩
theorem wbC.body_eq (K : Nat) (x : wbC.spec.args.den) : body (wbC.env.at K) 8 57 wbC.spec x = wbC K x.1 x.2.1 := by kernel_rfl
theorem wbC.contract : Contract Tryz.prog gl 57 wbC.spec :=
  contract_of (E := wbC.env) (kn rfl (FnsOK_of ⟨⟨Tryz.func57, Tryz.call57⟩, trivial⟩)) (SpecsOK_of ⟨wu_.contract, wD_.contract, trivial⟩) Tryz.call57 rfl rfl fun K x r h => by
    rw [wbC.body_eq]; exact h
def wbi.spec : Dp.Spec := ⟨(.scons Kq8 (.scons Kq6 .snil)), .bool, false, fun K x => wbi K x.1 x.2.1⟩
def wbi.hint : Dp.Hint := { n := 77, regions := [(1, [(.normal, { regs := [(2, (.ref Kq8)), (3, (.ref Kq6)), (28, .bool)] })]), (7, [(.normal, { regs := [(4, .bool)], heap := [Kq4] })])], imm := [2, 3] }
noncomputable def wbi.env : Dp.Env := ⟨ti, gl, [], [], [(15, Tryz.f15, wbi.hint)], [(54, w7_.spec), (55, wF_.spec), (34, wbf.spec), (56, wE_.spec), (57, wbC.spec)], 0, 40⟩
theorem wbi.body_eq (K : Nat) (x : wbi.spec.args.den) : body (wbi.env.at K) 8 15 wbi.spec x = wbi K x.1 x.2.1 := by kernel_rfl
theorem wbi.contract : Contract Tryz.prog gl 15 wbi.spec :=
  contract_of (E := wbi.env) (kn rfl (FnsOK_of ⟨⟨Tryz.func15, Tryz.call15⟩, trivial⟩)) (SpecsOK_of ⟨w7_.contract, wF_.contract, wbf.contract, wE_.contract, wbC.contract, trivial⟩) Tryz.call15 rfl rfl fun K x r h => by
    rw [wbi.body_eq]; exact h
def wC_.spec : Dp.Spec := ⟨(.scons .str (.scons (.list .str) .snil)), .bool, false, fun K x => wC_ K x.1 x.2.1⟩
def wC_.hint : Dp.Hint := { n := 18, loops := [(2, { regs := [(0, .str), (1, (.list .str)), (5, (.int .i64))] }, [(.exit 0, { regs := [] }), (.ret, { regs := [(4, .bool)] })])] }
noncomputable def wC_.env : Dp.Env := ⟨ti, gl, [], [], [(60, Tryz.f60, wC_.hint)], [(117, w2_.spec)], 0, 40⟩
noncomputable def wC_.r0 (K : Nat) : Nat → Jq19 → Option (Jq8 ⊕ Jq29) :=
  loopV [(.exit 0, { regs := [] }), (.ret, { regs := [(4, .bool)] })] { regs := [(0, .str), (1, (.list .str)), (5, (.int .i64))] } (interp (wC_.env.at K) wC_.hint (callF (wC_.env.at K) 7) (Code.sub [1, 0, 1, 0, 0] (Tryz.f60.body.getD .skip)) _)
theorem wC_.s0 (K n : Nat) (x : Jq19) : wC_.r0 K (n + 1) x = wC_.t0 K (wC_.r0 K n) x := by kernel_rfl
theorem wC_.e0 (K n : Nat) : wC_.r0 K n = wC_.l0 K n := eqR (l := wC_.l0 K) _ (wC_.s0 K) (fun _ _ => rfl) (fun _ => rfl) n
theorem wC_.body_eq (K : Nat) (x : wC_.spec.args.den) : body (wC_.env.at K) 8 60 wC_.spec x = wC_.tr (wC_.r0 K) K x.1 x.2.1 := by kernel_rfl
theorem wC_.contract : Contract Tryz.prog gl 60 wC_.spec :=
  contract_of (E := wC_.env) (kn rfl (FnsOK_of ⟨⟨Tryz.func60, Tryz.call60⟩, trivial⟩)) (SpecsOK_of ⟨w2_.contract, trivial⟩) Tryz.call60 rfl rfl fun K x r h => by
    rw [wC_.body_eq, show wC_.r0 K = wC_.l0 K from funext (wC_.e0 K)]; exact h
def wi_.spec : Dp.Spec := ⟨(.scons Kq6 .snil), Kq6, false, fun K x => wi_ K x.1⟩
def wi_.hint : Dp.Hint := { n := 32, conds := [(20, [(.normal, { regs := [(1, (.ref Kq6)), (2, (.loc 0 false [])), (3, (.loc 2 false [])), (4, (.int .i64))], heap := [Kq6, (.row Kq3), (.scons (.int .i64) (.scons .str (.scons (.int .i64) (.scons (.slw 1) Kq1))))], app := [1] })])], loops := [(3, { regs := [(1, (.ref Kq6)), (2, (.loc 0 false [])), (3, (.loc 2 false [])), (4, (.int .i64))], heap := [Kq6, (.row Kq3), (.scons (.int .i64) (.scons .str (.scons (.int .i64) (.scons (.slw 1) Kq1))))], app := [1] }, [(.exit 0, { regs := [(2, (.loc 0 false [])), (3, (.loc 2 false []))], heap := [Kq6, (.row Kq3), (.scons (.int .i64) (.scons .str (.scons (.int .i64) (.scons (.slw 1) Kq1))))], app := [1] })])], own := [5], imm := [1] }
noncomputable def wi_.env : Dp.Env := ⟨ti, gl, [], [], [(18, Tryz.f18, wi_.hint)], [(60, wC_.spec)], 0, 40⟩
noncomputable def wi_.r0 (K : Nat) : Nat → ((((Int) × Jq2) × ((Nat) × ((Nat) × Jq3))) × Jq16) → Option ((Jq28 × Jq16)) :=
  loopV [(.exit 0, { regs := [(2, (.loc 0 false [])), (3, (.loc 2 false []))], heap := [Kq6, (.row Kq3), (.scons (.int .i64) (.scons .str (.scons (.int .i64) (.scons (.slw 1) Kq1))))], app := [1] })] { regs := [(1, (.ref Kq6)), (2, (.loc 0 false [])), (3, (.loc 2 false [])), (4, (.int .i64))], heap := [Kq6, (.row Kq3), (.scons (.int .i64) (.scons .str (.scons (.int .i64) (.scons (.slw 1) Kq1))))], app := [1] } (interp (wi_.env.at K) wi_.hint (callF (wi_.env.at K) 7) (Code.sub [1, 1, 0, 1, 0, 0] (Tryz.f18.body.getD .skip)) _)
theorem wi_.s0 (K n : Nat) (x : ((((Int) × Jq2) × ((Nat) × ((Nat) × Jq3))) × Jq16)) : wi_.r0 K (n + 1) x = wi_.t0 K (wi_.r0 K n) x := by kernel_rfl
theorem wi_.e0 (K n : Nat) : wi_.r0 K n = wi_.l0 K n := eqR (l := wi_.l0 K) _ (wi_.s0 K) (fun _ _ => rfl) (fun _ => rfl) n
theorem wi_.body_eq (K : Nat) (x : wi_.spec.args.den) : body (wi_.env.at K) 8 18 wi_.spec x = wi_.tr (wi_.r0 K) K x.1 := by kernel_rfl
theorem wi_.contract : Contract Tryz.prog gl 18 wi_.spec :=
  contract_of (E := wi_.env) (kn rfl (FnsOK_of ⟨⟨Tryz.func18, Tryz.call18⟩, trivial⟩)) (SpecsOK_of ⟨wC_.contract, trivial⟩) Tryz.call18 rfl rfl fun K x r h => by
    rw [wi_.body_eq, show wi_.r0 K = wi_.l0 K from funext (wi_.e0 K)]; exact h
def wo_.spec : Dp.Spec := ⟨(.scons (.list Kq3) (.scons (.list Kq3) .snil)), .bool, false, fun K x => wo_ K x.1 x.2.1⟩
def wo_.hint : Dp.Hint := { n := 26, loops := [(4, { regs := [(0, (.list Kq3)), (1, (.list Kq3)), (5, (.int .i64))] }, [(.exit 0, { regs := [] }), (.ret, { regs := [(4, .bool)] })])] }
noncomputable def wo_.env : Dp.Env := ⟨ti, gl, [], [], [(32, Tryz.f32, wo_.hint)], [], 0, 40⟩
noncomputable def wo_.r0 (K : Nat) : Nat → ((Jq1 × (Jq1 × Jq3)) × (Unit)) → Option (Jq8 ⊕ Jq29) :=
  loopV [(.exit 0, { regs := [] }), (.ret, { regs := [(4, .bool)] })] { regs := [(0, (.list Kq3)), (1, (.list Kq3)), (5, (.int .i64))] } (interp (wo_.env.at K) wo_.hint (callF (wo_.env.at K) 7) (Code.sub [1, 1, 0, 1, 0, 0] (Tryz.f32.body.getD .skip)) _)
theorem wo_.s0 (K n : Nat) (x : ((Jq1 × (Jq1 × Jq3)) × (Unit))) : wo_.r0 K (n + 1) x = wo_.t0 K (wo_.r0 K n) x := by kernel_rfl
theorem wo_.e0 (K n : Nat) : wo_.r0 K n = wo_.l0 K n := eqR (l := wo_.l0 K) _ (wo_.s0 K) (fun _ _ => rfl) (fun _ => rfl) n
theorem wo_.body_eq (K : Nat) (x : wo_.spec.args.den) : body (wo_.env.at K) 8 32 wo_.spec x = wo_.tr (wo_.r0 K) K x.1 x.2.1 := by kernel_rfl
theorem wo_.contract : Contract Tryz.prog gl 32 wo_.spec :=
  contract_of (E := wo_.env) (kn rfl (FnsOK_of ⟨⟨Tryz.func32, Tryz.call32⟩, trivial⟩)) (SpecsOK_of trivial) Tryz.call32 rfl rfl fun K x r h => by
    rw [wo_.body_eq, show wo_.r0 K = wo_.l0 K from funext (wo_.e0 K)]; exact h
def wN_.spec : Dp.Spec := ⟨(.scons Kq6 (.scons Kq6 .snil)), .bool, false, fun K x => wN_ K x.1 x.2.1⟩
def wN_.hint : Dp.Hint := { n := 38, imm := [2, 3] }
noncomputable def wN_.env : Dp.Env := ⟨ti, gl, [], [], [(16, Tryz.f16, wN_.hint)], [(32, wo_.spec)], 0, 40⟩
theorem wN_.body_eq (K : Nat) (x : wN_.spec.args.den) : body (wN_.env.at K) 8 16 wN_.spec x = wN_ K x.1 x.2.1 := by kernel_rfl
theorem wN_.contract : Contract Tryz.prog gl 16 wN_.spec :=
  contract_of (E := wN_.env) (kn rfl (FnsOK_of ⟨⟨Tryz.func16, Tryz.call16⟩, trivial⟩)) (SpecsOK_of ⟨wo_.contract, trivial⟩) Tryz.call16 rfl rfl fun K x r h => by
    rw [wN_.body_eq]; exact h
def wb_.spec : Dp.Spec := ⟨(.scons (.list Kq3) (.scons (.list .str) .snil)), (.list Kq3), false, fun K x => wb_ K x.1 x.2.1⟩
def wb_.hint : Dp.Hint := { n := 44, conds := [(35, [(.normal, { regs := [(0, (.list Kq3)), (1, (.list .str)), (5, (.slw 1)), (6, (.int .i64))], heap := [(.row Kq3), (.row Kq3)], app := [1] })])], regions := [(9, [(.normal, { regs := [(0, (.list Kq3)), (1, (.list .str)), (5, (.slw 1)), (6, (.int .i64)), (7, .bool), (8, (.int .i64))], heap := [(.row Kq3), (.row Kq3)], app := [1] })])], loops := [(3, { regs := [(0, (.list Kq3)), (1, (.list .str)), (5, (.slw 1)), (6, (.int .i64))], heap := [(.row Kq3), (.row Kq3)], app := [1] }, [(.exit 0, { regs := [(5, (.slw 1))], heap := [(.row Kq3), (.row Kq3)], app := [1] })]), (7, { regs := [(0, (.list Kq3)), (1, (.list .str)), (5, (.slw 1)), (6, (.int .i64)), (7, .bool), (8, (.int .i64))], heap := [(.row Kq3), (.row Kq3)], app := [1] }, [(.exit 2, { regs := [(0, (.list Kq3)), (1, (.list .str)), (5, (.slw 1)), (6, (.int .i64)), (7, .bool)], heap := [(.row Kq3), (.row Kq3)], app := [1] })])], own := [4, 5] }
noncomputable def wb_.env : Dp.Env := ⟨ti, gl, [], [], [(62, Tryz.f62, wb_.hint)], [(117, w2_.spec)], 0, 40⟩
noncomputable def wb_.r0 (K : Nat) : Nat → ((Jq1 × ((List (List UInt8)) × ((Unit) × ((Int) × ((Bool) × Jq3))))) × Jq12) → Option (((Jq1 × ((List (List UInt8)) × ((Unit) × Jq18))) × Jq12)) :=
  loopV [(.exit 2, { regs := [(0, (.list Kq3)), (1, (.list .str)), (5, (.slw 1)), (6, (.int .i64)), (7, .bool)], heap := [(.row Kq3), (.row Kq3)], app := [1] })] { regs := [(0, (.list Kq3)), (1, (.list .str)), (5, (.slw 1)), (6, (.int .i64)), (7, .bool), (8, (.int .i64))], heap := [(.row Kq3), (.row Kq3)], app := [1] } (interp (wb_.env.at K) wb_.hint (callF (wb_.env.at K) 7) (Code.sub [1, 1, 0, 1, 0, 0, 1, 0, 0, 1, 0, 1, 0, 0] (Tryz.f62.body.getD .skip)) _)
theorem wb_.s0 (K n : Nat) (x : ((Jq1 × ((List (List UInt8)) × ((Unit) × ((Int) × ((Bool) × Jq3))))) × Jq12)) : wb_.r0 K (n + 1) x = wb_.t0 K (wb_.r0 K n) x := by kernel_rfl
theorem wb_.e0 (K n : Nat) : wb_.r0 K n = wb_.l0 K n := eqR (l := wb_.l0 K) _ (wb_.s0 K) (fun _ _ => rfl) (fun _ => rfl) n
noncomputable def wb_.r1 (K : Nat) : Nat → ((Jq1 × Jq31) × Jq12) → Option ((Jq8 × Jq12)) :=
  loopV [(.exit 0, { regs := [(5, (.slw 1))], heap := [(.row Kq3), (.row Kq3)], app := [1] })] { regs := [(0, (.list Kq3)), (1, (.list .str)), (5, (.slw 1)), (6, (.int .i64))], heap := [(.row Kq3), (.row Kq3)], app := [1] } (interp (wb_.env.at K) wb_.hint (callF (wb_.env.at K) 7) (Code.sub [1, 1, 0, 1, 0, 0] (Tryz.f62.body.getD .skip)) _)
theorem wb_.s1 (K n : Nat) (x : ((Jq1 × Jq31) × Jq12)) : wb_.r1 K (n + 1) x = wb_.t1 (wb_.r0 K) K (wb_.r1 K n) x := by kernel_rfl
theorem wb_.e1 (K n : Nat) : wb_.r1 K n = wb_.l1 K n := by
  induction n with
  | zero => funext x; rfl
  | succ n ih => funext x; rw [wb_.s1, ih, show wb_.r0 K = wb_.l0 K from funext (wb_.e0 K)]; rfl
theorem wb_.body_eq (K : Nat) (x : wb_.spec.args.den) : body (wb_.env.at K) 8 62 wb_.spec x = wb_.tr (wb_.r1 K) K x.1 x.2.1 := by kernel_rfl
theorem wb_.contract : Contract Tryz.prog gl 62 wb_.spec :=
  contract_of (E := wb_.env) (kn rfl (FnsOK_of ⟨⟨Tryz.func62, Tryz.call62⟩, trivial⟩)) (SpecsOK_of ⟨w2_.contract, trivial⟩) Tryz.call62 rfl rfl fun K x r h => by
    rw [wb_.body_eq, show wb_.r1 K = wb_.l1 K from funext (wb_.e1 K)]; exact h
def wb_.ospec : Dp.OSpec := { args := (.scons (.list Kq3) (.scons (.list .str) .snil)), e := Kq3, F := fun K x => wb_ K x.1 x.2.1 }
theorem wb_.obody_eq (K : Nat) (x : wb_.ospec.args.den) : bodyO (wb_.env.at K) 8 62 wb_.ospec x = wb_.tr (wb_.r1 K) K x.1 x.2.1 := by kernel_rfl
theorem wb_.ocontract : OContract Tryz.prog gl 62 wb_.ospec :=
  ocontract_of (E := wb_.env) (kn rfl (FnsOK_of ⟨⟨Tryz.func62, Tryz.call62⟩, trivial⟩)) (SpecsOK_of ⟨w2_.contract, trivial⟩) Tryz.call62 rfl rfl rfl fun K x r h => by
    rw [wb_.obody_eq, show wb_.r1 K = wb_.l1 K from funext (wb_.e1 K)]; exact h
def wbK.spec : Dp.Spec := ⟨(.scons Kq4 .snil), .str, false, fun K x => wbK K x.1⟩
def wbK.hint : Dp.Hint := { n := 13, imm := [1] }
noncomputable def wbK.env : Dp.Env := ⟨ti, gl, [], [], [(63, Tryz.f63, wbK.hint)], [], 0, 40⟩
theorem wbK.body_eq (K : Nat) (x : wbK.spec.args.den) : body (wbK.env.at K) 8 63 wbK.spec x = wbK K x.1 := by kernel_rfl
theorem wbK.contract : Contract Tryz.prog gl 63 wbK.spec :=
  contract_of (E := wbK.env) (kn rfl (FnsOK_of ⟨⟨Tryz.func63, Tryz.call63⟩, trivial⟩)) (SpecsOK_of trivial) Tryz.call63 rfl rfl fun K x r h => by
    rw [wbK.body_eq]; exact h
def wbM.spec : Dp.Spec := ⟨(.scons Kq8 (.scons Kq6 .snil)), Kq8, false, fun K x => wbM K x.1 x.2.1⟩
def wbM.hint : Dp.Hint := { n := 50, conds := [(21, [(.normal, { regs := [(2, (.ref Kq8)), (3, (.ref Kq6)), (4, (.loc 0 false [])), (5, (.slw 1))], heap := [Kq8, (.row Kq3), Kq4], app := [1] })]), (34, [(.normal, { regs := [(2, (.ref Kq8)), (4, (.loc 0 false [])), (5, (.slw 1))], heap := [Kq8, (.row Kq3), Kq4], app := [1] })])], own := [15], imm := [2, 3] }
noncomputable def wbM.env : Dp.Env := ⟨ti, gl, [], [(62, wb_.ospec)], [(21, Tryz.f21, wbM.hint)], [(54, w7_.spec), (34, wbf.spec), (57, wbC.spec), (63, wbK.spec)], 0, 40⟩
theorem wbM.body_eq (K : Nat) (x : wbM.spec.args.den) : body (wbM.env.at K) 8 21 wbM.spec x = wbM K x.1 x.2.1 := by kernel_rfl
theorem wbM.contract : Contract Tryz.prog gl 21 wbM.spec :=
  contract_of (E := wbM.env) (kn rfl (FnsOK_of ⟨⟨Tryz.func21, Tryz.call21⟩, trivial⟩)) (SpecsOK_of ⟨w7_.contract, wbf.contract, wbC.contract, wbK.contract, trivial⟩ trivial ⟨wb_.ocontract, trivial⟩) Tryz.call21 rfl rfl fun K x r h => by
    rw [wbM.body_eq]; exact h
def w6_.spec : Dp.Spec := ⟨(.scons Kq8 (.scons Kq8 .snil)), .bool, false, fun K x => w6_ K x.1 x.2.1⟩
def w6_.hint : Dp.Hint := { n := 38, imm := [2, 3] }
noncomputable def w6_.env : Dp.Env := ⟨ti, gl, [], [], [(19, Tryz.f19, w6_.hint)], [(32, wo_.spec)], 0, 40⟩
theorem w6_.body_eq (K : Nat) (x : w6_.spec.args.den) : body (w6_.env.at K) 8 19 w6_.spec x = w6_ K x.1 x.2.1 := by kernel_rfl
theorem w6_.contract : Contract Tryz.prog gl 19 w6_.spec :=
  contract_of (E := w6_.env) (kn rfl (FnsOK_of ⟨⟨Tryz.func19, Tryz.call19⟩, trivial⟩)) (SpecsOK_of ⟨wo_.contract, trivial⟩) Tryz.call19 rfl rfl fun K x r h => by
    rw [w6_.body_eq]; exact h
def wby.spec : Dp.Spec := ⟨(.scons Kq8 (.scons Kq6 .snil)), .bool, false, fun K x => wby K x.1 x.2.1⟩
def wby.hint : Dp.Hint := { n := 40, regions := [(1, [(.normal, { regs := [(2, (.ref Kq8)), (3, (.ref Kq6)), (12, .bool)] })])], imm := [2, 3] }
noncomputable def wby.env : Dp.Env := ⟨ti, gl, [], [], [(3, Tryz.f3, wby.hint)], [(11, wY_.spec), (12, wA_.spec), (17, wba.spec), (20, wb2.spec), (14, wbo.spec), (13, wP_.spec), (15, wbi.spec), (18, wi_.spec), (16, wN_.spec), (21, wbM.spec), (19, w6_.spec)], 0, 40⟩
theorem wby.body_eq (K : Nat) (x : wby.spec.args.den) : body (wby.env.at K) 8 3 wby.spec x = wby K x.1 x.2.1 := by kernel_rfl
theorem wby.contract : Contract Tryz.prog gl 3 wby.spec :=
  contract_of (E := wby.env) (kn rfl (FnsOK_of ⟨⟨Tryz.func3, Tryz.call3⟩, trivial⟩)) (SpecsOK_of ⟨wY_.contract, wA_.contract, wba.contract, wb2.contract, wbo.contract, wP_.contract, wbi.contract, wi_.contract, wN_.contract, wbM.contract, w6_.contract, trivial⟩) Tryz.call3 rfl rfl fun K x r h => by
    rw [wby.body_eq]; exact h
def ww_.spec : Dp.Spec := ⟨(.scons (.list (.scons .str Kq4)) Kq7), .bool, false, fun K x => ww_ K x.1 x.2.1 x.2.2.1⟩
def ww_.hint : Dp.Hint := { n := 41, regions := [(2, [(.normal, { regs := [(0, (.list (.scons .str Kq4))), (1, (.int .i64)), (2, (.int .i64)), (7, (.int .i64)), (16, .bool)] })]), (4, [(.normal, { regs := [(0, (.list (.scons .str Kq4))), (1, (.int .i64)), (2, (.int .i64)), (7, (.int .i64)), (36, .bool)] })])], loops := [(2, { regs := [(0, (.list (.scons .str Kq4))), (1, (.int .i64)), (2, (.int .i64)), (7, (.int .i64))] }, [(.exit 0, { regs := [(0, (.list (.scons .str Kq4))), (1, (.int .i64))] }), (.ret, { regs := [(6, .bool)] })])] }
noncomputable def ww_.env : Dp.Env := ⟨ti, gl, [], [], [(22, Tryz.f22, ww_.hint)], [], 0, 40⟩
noncomputable def ww_.r0 (K : Nat) : Nat → ((Jq22 × ((Int) × Jq9)) × (Unit)) → Option (((Jq22 × Jq3) × (Unit)) ⊕ Jq29) :=
  loopV [(.exit 0, { regs := [(0, (.list (.scons .str Kq4))), (1, (.int .i64))] }), (.ret, { regs := [(6, .bool)] })] { regs := [(0, (.list (.scons .str Kq4))), (1, (.int .i64)), (2, (.int .i64)), (7, (.int .i64))] } (interp (ww_.env.at K) ww_.hint (callF (ww_.env.at K) 7) (Code.sub [1, 0, 1, 0, 0] (Tryz.f22.body.getD .skip)) _)
theorem ww_.s0 (K n : Nat) (x : ((Jq22 × ((Int) × Jq9)) × (Unit))) : ww_.r0 K (n + 1) x = ww_.t0 K (ww_.r0 K n) x := by kernel_rfl
theorem ww_.e0 (K n : Nat) : ww_.r0 K n = ww_.l0 K n := eqR (l := ww_.l0 K) _ (ww_.s0 K) (fun _ _ => rfl) (fun _ => rfl) n
theorem ww_.body_eq (K : Nat) (x : ww_.spec.args.den) : body (ww_.env.at K) 8 22 ww_.spec x = ww_.tr (ww_.r0 K) K x.1 x.2.1 x.2.2.1 := by kernel_rfl
theorem ww_.contract : Contract Tryz.prog gl 22 ww_.spec :=
  contract_of (E := ww_.env) (kn rfl (FnsOK_of ⟨⟨Tryz.func22, Tryz.call22⟩, trivial⟩)) (SpecsOK_of trivial) Tryz.call22 rfl rfl fun K x r h => by
    rw [ww_.body_eq, show ww_.r0 K = ww_.l0 K from funext (ww_.e0 K)]; exact h
def wt_.spec : Dp.Spec := ⟨Kq1, (.tup (.scons (.list .str) Kq5)), false, fun K x => wt_ K x.1⟩
def wt_.hint : Dp.Hint := { n := 76, conds := [(40, [(.normal, { regs := [(0, .str), (4, (.slw 1)), (5, .str), (6, .bool), (7, (.int .i64))], heap := [(.row .str), (.row .str)], app := [1] })]), (53, [(.normal, { regs := [(0, .str), (4, (.slw 1)), (6, .bool), (7, (.int .i64))], heap := [(.row .str), (.row .str)], app := [1] })])], blocks := [(1, [(.normal, { regs := [(0, .str), (4, (.slw 1)), (5, .str), (6, .bool), (7, (.int .i64))], heap := [(.row .str), (.row .str)], app := [1] })])], regions := [(7, [(.normal, { regs := [(0, .str), (4, (.slw 1)), (5, .str), (6, .bool), (7, (.int .i64)), (27, .bool)], heap := [(.row .str), (.row .str)], app := [1] })]), (12, [(.normal, { regs := [(0, .str), (4, (.slw 1)), (5, .str), (6, .bool), (7, (.int .i64)), (50, .bool)], heap := [(.row .str), (.row .str)], app := [1] })])], loops := [(5, { regs := [(0, .str), (4, (.slw 1)), (5, .str), (6, .bool), (7, (.int .i64))], heap := [(.row .str), (.row .str)], app := [1] }, [(.exit 0, { regs := [(4, (.slw 1)), (5, .str), (6, .bool)], heap := [(.row .str), (.row .str)], app := [1] })])], own := [2, 2, 4] }
noncomputable def wt_.env : Dp.Env := ⟨ti, gl, [], [], [(138, Tryz.f138, wt_.hint)], [(115, wd_.spec)], 0, 40⟩
noncomputable def wt_.r0 (K : Nat) : Nat → (Jq17 × Jq6) → Option ((((Unit) × ((List UInt8) × Jq7)) × Jq6)) :=
  loopV [(.exit 0, { regs := [(4, (.slw 1)), (5, .str), (6, .bool)], heap := [(.row .str), (.row .str)], app := [1] })] { regs := [(0, .str), (4, (.slw 1)), (5, .str), (6, .bool), (7, (.int .i64))], heap := [(.row .str), (.row .str)], app := [1] } (interp (wt_.env.at K) wt_.hint (callF (wt_.env.at K) 7) (Code.sub [1, 1, 1, 1, 0, 1, 0, 0] (Tryz.f138.body.getD .skip)) _)
theorem wt_.s0 (K n : Nat) (x : (Jq17 × Jq6)) : wt_.r0 K (n + 1) x = wt_.t0 K (wt_.r0 K n) x := by kernel_rfl
theorem wt_.e0 (K n : Nat) : wt_.r0 K n = wt_.l0 K n := eqR (l := wt_.l0 K) _ (wt_.s0 K) (fun _ _ => rfl) (fun _ => rfl) n
theorem wt_.body_eq (K : Nat) (x : wt_.spec.args.den) : body (wt_.env.at K) 8 138 wt_.spec x = wt_.tr (wt_.r0 K) K x.1 := by kernel_rfl
theorem wt_.contract : Contract Tryz.prog gl 138 wt_.spec :=
  contract_of (E := wt_.env) (kn rfl (FnsOK_of ⟨⟨Tryz.func138, Tryz.call138⟩, trivial⟩)) (SpecsOK_of ⟨wd_.contract, trivial⟩) Tryz.call138 rfl rfl fun K x r h => by
    rw [wt_.body_eq, show wt_.r0 K = wt_.l0 K from funext (wt_.e0 K)]; exact h
def wh_.spec : Dp.Spec := ⟨(.scons (.list Kq3) .snil), (.list .str), false, fun K x => wh_ K x.1⟩
def wh_.hint : Dp.Hint := { n := 28, loops := [(4, { regs := [(3, (.slw 1)), (4, (.list .str)), (5, (.int .i64))], heap := [(.row .str), (.row .str)], app := [1] }, [(.exit 0, { regs := [(3, (.slw 1))], heap := [(.row .str), (.row .str)], app := [1] })])], own := [2, 3] }
noncomputable def wh_.env : Dp.Env := ⟨ti, gl, [], [], [(119, Tryz.f119, wh_.hint)], [(74, wu_.spec), (138, wt_.spec)], 0, 40⟩
noncomputable def wh_.r0 (K : Nat) : Nat → (((Unit) × ((List (List UInt8)) × Jq3)) × Jq6) → Option ((Jq8 × Jq6)) :=
  loopV [(.exit 0, { regs := [(3, (.slw 1))], heap := [(.row .str), (.row .str)], app := [1] })] { regs := [(3, (.slw 1)), (4, (.list .str)), (5, (.int .i64))], heap := [(.row .str), (.row .str)], app := [1] } (interp (wh_.env.at K) wh_.hint (callF (wh_.env.at K) 7) (Code.sub [1, 1, 1, 0, 1, 0, 0] (Tryz.f119.body.getD .skip)) _)
theorem wh_.s0 (K n : Nat) (x : (((Unit) × ((List (List UInt8)) × Jq3)) × Jq6)) : wh_.r0 K (n + 1) x = wh_.t0 K (wh_.r0 K n) x := by kernel_rfl
theorem wh_.e0 (K n : Nat) : wh_.r0 K n = wh_.l0 K n := eqR (l := wh_.l0 K) _ (wh_.s0 K) (fun _ _ => rfl) (fun _ => rfl) n
theorem wh_.body_eq (K : Nat) (x : wh_.spec.args.den) : body (wh_.env.at K) 8 119 wh_.spec x = wh_.tr (wh_.r0 K) K x.1 := by kernel_rfl
theorem wh_.contract : Contract Tryz.prog gl 119 wh_.spec :=
  contract_of (E := wh_.env) (kn rfl (FnsOK_of ⟨⟨Tryz.func119, Tryz.call119⟩, trivial⟩)) (SpecsOK_of ⟨wu_.contract, wt_.contract, trivial⟩) Tryz.call119 rfl rfl fun K x r h => by
    rw [wh_.body_eq, show wh_.r0 K = wh_.l0 K from funext (wh_.e0 K)]; exact h
def wG_.spec : Dp.Spec := ⟨Kq1, .bool, false, fun K x => wG_ K x.1⟩
def wG_.hint : Dp.Hint := { n := 18, loops := [(3, { regs := [(0, .str), (3, (.list .str)), (4, (.int .i64))] }, [(.exit 0, { regs := [] }), (.ret, { regs := [(2, .bool)] })])] }
noncomputable def wG_.env : Dp.Env := ⟨ti, gl, [], [], [(120, Tryz.f120, wG_.hint)], [(117, w2_.spec)], 0, 40⟩
noncomputable def wG_.r0 (K : Nat) : Nat → Jq19 → Option (Jq8 ⊕ Jq29) :=
  loopV [(.exit 0, { regs := [] }), (.ret, { regs := [(2, .bool)] })] { regs := [(0, .str), (3, (.list .str)), (4, (.int .i64))] } (interp (wG_.env.at K) wG_.hint (callF (wG_.env.at K) 7) (Code.sub [1, 1, 0, 1, 0, 0] (Tryz.f120.body.getD .skip)) _)
theorem wG_.s0 (K n : Nat) (x : Jq19) : wG_.r0 K (n + 1) x = wG_.t0 K (wG_.r0 K n) x := by kernel_rfl
theorem wG_.e0 (K n : Nat) : wG_.r0 K n = wG_.l0 K n := eqR (l := wG_.l0 K) _ (wG_.s0 K) (fun _ _ => rfl) (fun _ => rfl) n
theorem wG_.body_eq (K : Nat) (x : wG_.spec.args.den) : body (wG_.env.at K) 8 120 wG_.spec x = wG_.tr (wG_.r0 K) K x.1 := by kernel_rfl
theorem wG_.contract : Contract Tryz.prog gl 120 wG_.spec :=
  contract_of (E := wG_.env) (kn rfl (FnsOK_of ⟨⟨Tryz.func120, Tryz.call120⟩, trivial⟩)) (SpecsOK_of ⟨w2_.contract, trivial⟩) Tryz.call120 rfl rfl fun K x r h => by
    rw [wG_.body_eq, show wG_.r0 K = wG_.l0 K from funext (wG_.e0 K)]; exact h
def wv_.spec : Dp.Spec := ⟨(.scons (.list Kq3) .snil), (.list Kq3), false, fun K x => wv_ K x.1⟩
def wv_.hint : Dp.Hint := { n := 31, conds := [(22, [(.normal, { regs := [(3, (.slw 1)), (4, (.list Kq3)), (5, (.int .i64))], heap := [(.row Kq3), (.row Kq3)], app := [1] })])], loops := [(4, { regs := [(3, (.slw 1)), (4, (.list Kq3)), (5, (.int .i64))], heap := [(.row Kq3), (.row Kq3)], app := [1] }, [(.exit 0, { regs := [(3, (.slw 1))], heap := [(.row Kq3), (.row Kq3)], app := [1] })])], own := [2, 3] }
noncomputable def wv_.env : Dp.Env := ⟨ti, gl, [], [], [(65, Tryz.f65, wv_.hint)], [(62, wb_.spec), (119, wh_.spec), (120, wG_.spec)], 0, 40⟩
noncomputable def wv_.r0 (K : Nat) : Nat → (((Unit) × (Jq1 × Jq3)) × Jq12) → Option ((Jq8 × Jq12)) :=
  loopV [(.exit 0, { regs := [(3, (.slw 1))], heap := [(.row Kq3), (.row Kq3)], app := [1] })] { regs := [(3, (.slw 1)), (4, (.list Kq3)), (5, (.int .i64))], heap := [(.row Kq3), (.row Kq3)], app := [1] } (interp (wv_.env.at K) wv_.hint (callF (wv_.env.at K) 7) (Code.sub [1, 1, 1, 0, 1, 0, 0] (Tryz.f65.body.getD .skip)) _)
theorem wv_.s0 (K n : Nat) (x : (((Unit) × (Jq1 × Jq3)) × Jq12)) : wv_.r0 K (n + 1) x = wv_.t0 K (wv_.r0 K n) x := by kernel_rfl
theorem wv_.e0 (K n : Nat) : wv_.r0 K n = wv_.l0 K n := eqR (l := wv_.l0 K) _ (wv_.s0 K) (fun _ _ => rfl) (fun _ => rfl) n
theorem wv_.body_eq (K : Nat) (x : wv_.spec.args.den) : body (wv_.env.at K) 8 65 wv_.spec x = wv_.tr (wv_.r0 K) K x.1 := by kernel_rfl
theorem wv_.contract : Contract Tryz.prog gl 65 wv_.spec :=
  contract_of (E := wv_.env) (kn rfl (FnsOK_of ⟨⟨Tryz.func65, Tryz.call65⟩, trivial⟩)) (SpecsOK_of ⟨wb_.contract, wh_.contract, wG_.contract, trivial⟩) Tryz.call65 rfl rfl fun K x r h => by
    rw [wv_.body_eq, show wv_.r0 K = wv_.l0 K from funext (wv_.e0 K)]; exact h
def wr_.spec : Dp.Spec := ⟨(.scons Kq2 (.scons Kq6 Kq5)), Kq2, false, fun K x => wr_ K x.1 x.2.1 x.2.2.1⟩
def wr_.hint : Dp.Hint := { n := 44, loops := [(4, { regs := [(2, (.int .i64)), (3, (.ref Kq2)), (6, (.loc 0 false [])), (7, (.list Kq3)), (8, (.slw 1)), (9, (.int .i64))], heap := [Kq2, (.row .str)], app := [1] }, [(.exit 0, { regs := [(2, (.int .i64)), (3, (.ref Kq2)), (6, (.loc 0 false [])), (7, (.list Kq3)), (8, (.slw 1))], heap := [Kq2, (.row .str)], app := [1] })])], own := [16, 38], imm := [3, 4] }
noncomputable def wr_.env : Dp.Env := ⟨ti, gl, [], [(62, wb_.ospec)], [(24, Tryz.f24, wr_.hint)], [(62, wb_.spec), (65, wv_.spec)], 0, 40⟩
noncomputable def wr_.r0 (K : Nat) : Nat → (((Int) × (Jq4 × ((Nat) × (Jq1 × ((Unit) × Jq3))))) × (Jq4 × Jq15)) → Option ((((Int) × (Jq4 × ((Nat) × (Jq1 × Jq8)))) × (Jq4 × Jq15))) :=
  loopV [(.exit 0, { regs := [(2, (.int .i64)), (3, (.ref Kq2)), (6, (.loc 0 false [])), (7, (.list Kq3)), (8, (.slw 1))], heap := [Kq2, (.row .str)], app := [1] })] { regs := [(2, (.int .i64)), (3, (.ref Kq2)), (6, (.loc 0 false [])), (7, (.list Kq3)), (8, (.slw 1)), (9, (.int .i64))], heap := [Kq2, (.row .str)], app := [1] } (interp (wr_.env.at K) wr_.hint (callF (wr_.env.at K) 7) (Code.sub [1, 1, 1, 0, 1, 0, 0] (Tryz.f24.body.getD .skip)) _)
theorem wr_.s0 (K n : Nat) (x : (((Int) × (Jq4 × ((Nat) × (Jq1 × ((Unit) × Jq3))))) × (Jq4 × Jq15))) : wr_.r0 K (n + 1) x = wr_.t0 K (wr_.r0 K n) x := by kernel_rfl
theorem wr_.e0 (K n : Nat) : wr_.r0 K n = wr_.l0 K n := eqR (l := wr_.l0 K) _ (wr_.s0 K) (fun _ _ => rfl) (fun _ => rfl) n
theorem wr_.body_eq (K : Nat) (x : wr_.spec.args.den) : body (wr_.env.at K) 8 24 wr_.spec x = wr_.tr (wr_.r0 K) K x.1 x.2.1 x.2.2.1 := by kernel_rfl
theorem wr_.contract : Contract Tryz.prog gl 24 wr_.spec :=
  contract_of (E := wr_.env) (kn rfl (FnsOK_of ⟨⟨Tryz.func24, Tryz.call24⟩, trivial⟩)) (SpecsOK_of ⟨wb_.contract, wv_.contract, trivial⟩ trivial ⟨wb_.ocontract, trivial⟩) Tryz.call24 rfl rfl fun K x r h => by
    rw [wr_.body_eq, show wr_.r0 K = wr_.l0 K from funext (wr_.e0 K)]; exact h
def wbb.spec : Dp.Spec := ⟨(.scons Kq6 (.scons Kq6 .snil)), .bool, false, fun K x => wbb K x.1 x.2.1⟩
def wbb.hint : Dp.Hint := { n := 63, regions := [(5, [(.normal, { regs := [(4, .bool)], heap := [Kq4, Kq4] })])], imm := [2, 3] }
noncomputable def wbb.env : Dp.Env := ⟨ti, gl, [], [], [(26, Tryz.f26, wbb.hint)], [(54, w7_.spec), (34, wbf.spec), (67, wbs.spec)], 0, 40⟩
theorem wbb.body_eq (K : Nat) (x : wbb.spec.args.den) : body (wbb.env.at K) 8 26 wbb.spec x = wbb K x.1 x.2.1 := by kernel_rfl
theorem wbb.contract : Contract Tryz.prog gl 26 wbb.spec :=
  contract_of (E := wbb.env) (kn rfl (FnsOK_of ⟨⟨Tryz.func26, Tryz.call26⟩, trivial⟩)) (SpecsOK_of ⟨w7_.contract, wbf.contract, wbs.contract, trivial⟩) Tryz.call26 rfl rfl fun K x r h => by
    rw [wbb.body_eq]; exact h
def wx_.spec : Dp.Spec := ⟨(.scons (.list (.scons .str Kq4)) (.scons (.list (.scons .str Kq4)) .snil)), .bool, false, fun K x => wx_ K x.1 x.2.1⟩
def wx_.hint : Dp.Hint := { n := 26, loops := [(4, { regs := [(0, (.list (.scons .str Kq4))), (1, (.list (.scons .str Kq4))), (5, (.int .i64))] }, [(.exit 0, { regs := [] }), (.ret, { regs := [(4, .bool)] })])] }
noncomputable def wx_.env : Dp.Env := ⟨ti, gl, [], [], [(27, Tryz.f27, wx_.hint)], [], 0, 40⟩
noncomputable def wx_.r0 (K : Nat) : Nat → ((Jq22 × (Jq22 × Jq3)) × (Unit)) → Option (Jq8 ⊕ Jq29) :=
  loopV [(.exit 0, { regs := [] }), (.ret, { regs := [(4, .bool)] })] { regs := [(0, (.list (.scons .str Kq4))), (1, (.list (.scons .str Kq4))), (5, (.int .i64))] } (interp (wx_.env.at K) wx_.hint (callF (wx_.env.at K) 7) (Code.sub [1, 1, 0, 1, 0, 0] (Tryz.f27.body.getD .skip)) _)
theorem wx_.s0 (K n : Nat) (x : ((Jq22 × (Jq22 × Jq3)) × (Unit))) : wx_.r0 K (n + 1) x = wx_.t0 K (wx_.r0 K n) x := by kernel_rfl
theorem wx_.e0 (K n : Nat) : wx_.r0 K n = wx_.l0 K n := eqR (l := wx_.l0 K) _ (wx_.s0 K) (fun _ _ => rfl) (fun _ => rfl) n
theorem wx_.body_eq (K : Nat) (x : wx_.spec.args.den) : body (wx_.env.at K) 8 27 wx_.spec x = wx_.tr (wx_.r0 K) K x.1 x.2.1 := by kernel_rfl
theorem wx_.contract : Contract Tryz.prog gl 27 wx_.spec :=
  contract_of (E := wx_.env) (kn rfl (FnsOK_of ⟨⟨Tryz.func27, Tryz.call27⟩, trivial⟩)) (SpecsOK_of trivial) Tryz.call27 rfl rfl fun K x r h => by
    rw [wx_.body_eq, show wx_.r0 K = wx_.l0 K from funext (wx_.e0 K)]; exact h
def wS_.spec : Dp.Spec := ⟨(.scons Kq2 (.scons Kq6 Kq5)), .bool, false, fun K x => wS_ K x.1 x.2.1 x.2.2.1⟩
def wS_.hint : Dp.Hint := { n := 66, regions := [(1, [(.normal, { regs := [(2, (.int .i64)), (3, (.ref Kq2)), (4, (.ref Kq6)), (23, .bool)] })])], imm := [3, 4] }
noncomputable def wS_.env : Dp.Env := ⟨ti, gl, [], [], [(4, Tryz.f4, wS_.hint)], [(12, wA_.spec), (23, wL_.spec), (25, wbn.spec), (13, wP_.spec), (16, wN_.spec), (22, ww_.spec), (24, wr_.spec), (26, wbb.spec), (27, wx_.spec)], 0, 40⟩
theorem wS_.body_eq (K : Nat) (x : wS_.spec.args.den) : body (wS_.env.at K) 8 4 wS_.spec x = wS_ K x.1 x.2.1 x.2.2.1 := by kernel_rfl
theorem wS_.contract : Contract Tryz.prog gl 4 wS_.spec :=
  contract_of (E := wS_.env) (kn rfl (FnsOK_of ⟨⟨Tryz.func4, Tryz.call4⟩, trivial⟩)) (SpecsOK_of ⟨wA_.contract, wL_.contract, wbn.contract, wP_.contract, wN_.contract, ww_.contract, wr_.contract, wbb.contract, wx_.contract, trivial⟩) Tryz.call4 rfl rfl fun K x r h => by
    rw [wS_.body_eq]; exact h
def wbA.spec : Dp.Spec := ⟨(.scons Kq2 (.scons Kq6 (.scons (.int .i64) Kq1))), .bool, false, fun K x => wbA K x.1 x.2.1 x.2.2.1 x.2.2.2.1⟩
def wbA.hint : Dp.Hint := { n := 144, regions := [(1, [(.normal, { regs := [(2, (.int .i64)), (3, .str), (4, (.ref Kq2)), (5, (.ref Kq6)), (37, .bool)] })]), (5, [(.normal, { regs := [(3, .str), (4, (.ref Kq2)), (5, (.ref Kq6)), (9, (.loc 0 false [])), (102, .bool)], heap := [Kq2, Kq2] })])], imm := [4, 5] }
noncomputable def wbA.env : Dp.Env := ⟨ti, gl, [], [], [(5, Tryz.f5, wbA.hint)], [(12, wA_.spec), (28, wW_.spec), (29, wbv.spec), (23, wL_.spec), (13, wP_.spec), (16, wN_.spec), (22, ww_.spec), (27, wx_.spec)], 0, 40⟩
theorem wbA.body_eq (K : Nat) (x : wbA.spec.args.den) : body (wbA.env.at K) 8 5 wbA.spec x = wbA K x.1 x.2.1 x.2.2.1 x.2.2.2.1 := by kernel_rfl
theorem wbA.contract : Contract Tryz.prog gl 5 wbA.spec :=
  contract_of (E := wbA.env) (kn rfl (FnsOK_of ⟨⟨Tryz.func5, Tryz.call5⟩, trivial⟩)) (SpecsOK_of ⟨wA_.contract, wW_.contract, wbv.contract, wL_.contract, wP_.contract, wN_.contract, ww_.contract, wx_.contract, trivial⟩) Tryz.call5 rfl rfl fun K x r h => by
    rw [wbA.body_eq]; exact h
def wbD.spec : Dp.Spec := ⟨(.scons Kq8 (.scons Kq6 .snil)), .bool, false, fun K x => wbD K x.1 x.2.1⟩
def wbD.hint : Dp.Hint := { n := 90, regions := [(1, [(.normal, { regs := [(2, (.ref Kq8)), (3, (.loc 0 false [])), (18, .bool)], heap := [Kq6] })]), (7, [(.normal, { regs := [(2, (.ref Kq8)), (3, (.loc 0 false [])), (6, .bool), (7, (.loc 2 false [])), (8, (.loc 3 false [])), (64, .bool)], heap := [Kq6, Kq4, Kq6, Kq8] })])], imm := [2] }
noncomputable def wbD.env : Dp.Env := ⟨ti, gl, [], [], [(6, Tryz.f6, wbD.hint)], [(11, wY_.spec), (12, wA_.spec), (17, wba.spec), (28, wW_.spec), (30, wb3.spec), (31, wca.spec), (29, wbv.spec), (20, wb2.spec), (14, wbo.spec), (25, wbn.spec), (13, wP_.spec), (32, wo_.spec)], 0, 40⟩
theorem wbD.body_eq (K : Nat) (x : wbD.spec.args.den) : body (wbD.env.at K) 8 6 wbD.spec x = wbD K x.1 x.2.1 := by kernel_rfl
theorem wbD.contract : Contract Tryz.prog gl 6 wbD.spec :=
  contract_of (E := wbD.env) (kn rfl (FnsOK_of ⟨⟨Tryz.func6, Tryz.call6⟩, trivial⟩)) (SpecsOK_of ⟨wY_.contract, wA_.contract, wba.contract, wW_.contract, wb3.contract, wca.contract, wbv.contract, wb2.contract, wbo.contract, wbn.contract, wP_.contract, wo_.contract, trivial⟩) Tryz.call6 rfl rfl fun K x r h => by
    rw [wbD.body_eq]; exact h
end Go.Proofs.X
