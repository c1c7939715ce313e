/- That the machine comes to the plain functions. No condition. -/
import Derived.Test.YtikiloknlchppaaDoorVG1
import Derived.Test.YtikiloknlchppaaDoorVS1
import Derived.Test.YtikiloknlchppaaDoorVS3
import Derived.Test.YtikiloknlchppaaDoorChecked
import Derived.KernelRfl
import Derived.Eval
set_option linter.unusedVariables false
set_option maxRecDepth 20000
namespace Go.Proofs.X
open Go Go.Dp

def ti : List (Nat × TI) := [(1, ⟨.fn, 1, 8, .nilf⟩),
  (2, ⟨.int .i64, 1, 8, (.int .i64)⟩),
  (3, ⟨.int .i64, 1, 8, (.int .i64)⟩),
  (4, ⟨.bool, 1, 1, .bool⟩),
  (5, ⟨.int .u8, 1, 1, (.int .u8)⟩),
  (6, ⟨.int .u8, 1, 1, (.int .u8)⟩),
  (9, ⟨.str, 1, 16, .str⟩),
  (10, ⟨.str, 1, 16, .str⟩),
  (11, ⟨.str, 1, 16, .str⟩),
  (12, ⟨.int .u64, 1, 8, (.int .u64)⟩),
  (15, ⟨.ptr 171, 1, 8, .nilp⟩),
  (16, ⟨.ptr 174, 1, 8, .nilp⟩),
  (17, ⟨.ptr 182, 1, 8, .nilp⟩),
  (18, ⟨.struct [(17, 0)], 1, 8, (.scons .nilp .snil)⟩),
  (19, ⟨.struct [(17, 0)], 1, 8, (.scons .nilp .snil)⟩),
  (20, ⟨.iface false, 1, 16, .nili⟩),
  (21, ⟨.int .i32, 1, 4, (.int .i32)⟩),
  (22, ⟨.struct [(4, 0), (4, 1), (4, 2), (4, 3), (4, 4), (4, 5), (3, 6), (3, 7), (3, 8)], 9, 32, (.scons .bool (.scons .bool (.scons .bool (.scons .bool (.scons .bool (.scons .bool (.scons (.int .i64) (.scons (.int .i64) (.scons (.int .i64) .snil)))))))))⟩),
  (23, ⟨.struct [(4, 0), (4, 1), (4, 2), (4, 3), (4, 4), (4, 5), (3, 6), (3, 7), (3, 8)], 9, 32, (.scons .bool (.scons .bool (.scons .bool (.scons .bool (.scons .bool (.scons .bool (.scons (.int .i64) (.scons (.int .i64) (.scons (.int .i64) .snil)))))))))⟩),
  (24, ⟨.fn, 1, 8, .nilf⟩),
  (25, ⟨.fn, 1, 8, .nilf⟩),
  (26, ⟨.slice 35, 1, 24, (.list (.scons .str (.scons .str .snil)))⟩),
  (27, ⟨.fn, 1, 8, .nilf⟩),
  (28, ⟨.fn, 1, 8, .nilf⟩),
  (29, ⟨.fn, 1, 8, .nilf⟩),
  (30, ⟨.slice 9, 1, 24, (.list .str)⟩),
  (31, ⟨.int .i64, 1, 8, (.int .i64)⟩),
  (33, ⟨.fn, 1, 8, .nilf⟩),
  (34, ⟨.struct [(9, 0), (9, 1)], 2, 32, (.scons .str (.scons .str .snil))⟩),
  (35, ⟨.struct [(9, 0), (9, 1)], 2, 32, (.scons .str (.scons .str .snil))⟩),
  (36, ⟨.fn, 1, 8, .nilf⟩),
  (37, ⟨.fn, 1, 8, .nilf⟩),
  (38, ⟨.fn, 1, 8, .nilf⟩),
  (39, ⟨.fn, 1, 8, .nilf⟩),
  (40, ⟨.slice 67, 1, 24, (.list (.scons .str (.scons .bool (.scons .str .snil))))⟩),
  (41, ⟨.fn, 1, 8, .nilf⟩),
  (42, ⟨.fn, 1, 8, .nilf⟩),
  (43, ⟨.fn, 1, 8, .nilf⟩),
  (44, ⟨.fn, 1, 8, .nilf⟩),
  (45, ⟨.fn, 1, 8, .nilf⟩),
  (47, ⟨.fn, 1, 8, .nilf⟩),
  (48, ⟨.fn, 1, 8, .nilf⟩),
  (49, ⟨.fn, 1, 8, .nilf⟩),
  (50, ⟨.fn, 1, 8, .nilf⟩),
  (51, ⟨.ptr 53, 1, 8, .nilp⟩),
  (52, ⟨.struct [(23, 0)], 9, 32, (.scons (.scons .bool (.scons .bool (.scons .bool (.scons .bool (.scons .bool (.scons .bool (.scons (.int .i64) (.scons (.int .i64) (.scons (.int .i64) .snil))))))))) .snil)⟩),
  (53, ⟨.struct [(23, 0)], 9, 32, (.scons (.scons .bool (.scons .bool (.scons .bool (.scons .bool (.scons .bool (.scons .bool (.scons (.int .i64) (.scons (.int .i64) (.scons (.int .i64) .snil))))))))) .snil)⟩),
  (54, ⟨.fn, 1, 8, .nilf⟩),
  (55, ⟨.fn, 1, 8, .nilf⟩),
  (56, ⟨.fn, 1, 8, .nilf⟩),
  (57, ⟨.fn, 1, 8, .nilf⟩),
  (58, ⟨.fn, 1, 8, .nilf⟩),
  (59, ⟨.fn, 1, 8, .nilf⟩),
  (61, ⟨.fn, 1, 8, .nilf⟩),
  (62, ⟨.fn, 1, 8, .nilf⟩),
  (63, ⟨.fn, 1, 8, .nilf⟩),
  (64, ⟨.fn, 1, 8, .nilf⟩),
  (65, ⟨.fn, 1, 8, .nilf⟩),
  (66, ⟨.struct [(9, 0), (4, 1), (9, 2)], 3, 40, (.scons .str (.scons .bool (.scons .str .snil)))⟩),
  (67, ⟨.struct [(9, 0), (4, 1), (9, 2)], 3, 40, (.scons .str (.scons .bool (.scons .str .snil)))⟩),
  (68, ⟨.fn, 1, 8, .nilf⟩),
  (69, ⟨.fn, 1, 8, .nilf⟩),
  (70, ⟨.fn, 1, 8, .nilf⟩),
  (71, ⟨.fn, 1, 8, .nilf⟩),
  (72, ⟨.slice 5, 1, 24, (.list (.int .u8))⟩),
  (73, ⟨.map 9 3, 1, 8, .unk⟩),
  (74, ⟨.fn, 1, 8, .nilf⟩),
  (75, ⟨.fn, 1, 8, .nilf⟩),
  (76, ⟨.fn, 1, 8, .nilf⟩),
  (77, ⟨.fn, 1, 8, .nilf⟩),
  (78, ⟨.fn, 1, 8, .nilf⟩),
  (80, ⟨.fn, 1, 8, .nilf⟩),
  (81, ⟨.slice 85, 1, 24, (.list (.scons .str (.scons .nilf .snil)))⟩),
  (82, ⟨.fn, 1, 8, .nilf⟩),
  (83, ⟨.fn, 1, 8, .nilf⟩),
  (84, ⟨.struct [(9, 0), (83, 1)], 2, 24, (.scons .str (.scons .nilf .snil))⟩),
  (85, ⟨.struct [(9, 0), (83, 1)], 2, 24, (.scons .str (.scons .nilf .snil))⟩),
  (86, ⟨.fn, 1, 8, .nilf⟩),
  (87, ⟨.ptr 89, 1, 8, .nilp⟩),
  (88, ⟨.struct [(87, 0), (72, 1)], 2, 32, (.scons .nilp (.scons (.list (.int .u8)) .snil))⟩),
  (89, ⟨.struct [(87, 0), (72, 1)], 2, 32, (.scons .nilp (.scons (.list (.int .u8)) .snil))⟩),
  (90, ⟨.iface true, 1, 16, .nili⟩),
  (91, ⟨.iface true, 1, 16, .nili⟩),
  (93, ⟨.fn, 1, 8, .nilf⟩),
  (94, ⟨.fn, 1, 8, .nilf⟩),
  (95, ⟨.fn, 1, 8, .nilf⟩),
  (96, ⟨.fn, 1, 8, .nilf⟩),
  (97, ⟨.int .u64, 1, 8, (.int .u64)⟩),
  (98, ⟨.fn, 1, 8, .nilf⟩),
  (99, ⟨.fn, 1, 8, .nilf⟩),
  (101, ⟨.fn, 1, 8, .nilf⟩),
  (103, ⟨.fn, 1, 8, .nilf⟩),
  (104, ⟨.fn, 1, 8, .nilf⟩),
  (105, ⟨.fn, 1, 8, .nilf⟩),
  (106, ⟨.arr 256 4, 256, 256, (.arr 256 .bool)⟩),
  (107, ⟨.arr 256 4, 256, 256, (.arr 256 .bool)⟩),
  (109, ⟨.fn, 1, 8, .nilf⟩),
  (110, ⟨.fn, 1, 8, .nilf⟩),
  (111, ⟨.ptr 107, 1, 8, .nilp⟩),
  (112, ⟨.ptr 5, 1, 8, .nilp⟩),
  (113, ⟨.fn, 1, 8, .nilf⟩),
  (114, ⟨.fn, 1, 8, .nilf⟩),
  (115, ⟨.int .i64, 1, 8, (.int .i64)⟩),
  (117, ⟨.fn, 1, 8, .nilf⟩),
  (118, ⟨.fn, 1, 8, .nilf⟩),
  (120, ⟨.fn, 1, 8, .nilf⟩),
  (121, ⟨.fn, 1, 8, .nilf⟩),
  (122, ⟨.int .u32, 1, 4, (.int .u32)⟩),
  (123, ⟨.fn, 1, 8, .nilf⟩),
  (124, ⟨.int .u64, 1, 8, (.int .u64)⟩),
  (125, ⟨.slice 70, 1, 24, (.list .nilf)⟩),
  (126, ⟨.fn, 1, 8, .nilf⟩),
  (127, ⟨.fn, 1, 8, .nilf⟩),
  (128, ⟨.fn, 1, 8, .nilf⟩),
  (129, ⟨.fn, 1, 8, .nilf⟩),
  (131, ⟨.fn, 1, 8, .nilf⟩),
  (132, ⟨.fn, 1, 8, .nilf⟩),
  (134, ⟨.fn, 1, 8, .nilf⟩),
  (135, ⟨.fn, 1, 8, .nilf⟩),
  (136, ⟨.fn, 1, 8, .nilf⟩),
  (137, ⟨.fn, 1, 8, .nilf⟩),
  (138, ⟨.int .u64, 1, 8, (.int .u64)⟩),
  (139, ⟨.fn, 1, 8, .nilf⟩),
  (140, ⟨.fn, 1, 8, .nilf⟩),
  (141, ⟨.fn, 1, 8, .nilf⟩),
  (142, ⟨.ptr 3, 1, 8, .nilp⟩),
  (143, ⟨.fn, 1, 8, .nilf⟩),
  (144, ⟨.fn, 1, 8, .nilf⟩),
  (145, ⟨.fn, 1, 8, .nilf⟩),
  (146, ⟨.arr 24 5, 24, 24, (.arr 24 (.int .u8))⟩),
  (147, ⟨.fn, 1, 8, .nilf⟩),
  (149, ⟨.fn, 1, 8, .nilf⟩),
  (150, ⟨.fn, 1, 8, .nilf⟩),
  (151, ⟨.ptr 138, 1, 8, .nilp⟩),
  (153, ⟨.fn, 1, 8, .nilf⟩),
  (154, ⟨.slice 3, 1, 24, (.list (.int .i64))⟩),
  (155, ⟨.fn, 1, 8, .nilf⟩),
  (156, ⟨.fn, 1, 8, .nilf⟩),
  (157, ⟨.arr 20 124, 20, 160, (.arr 20 (.int .u64))⟩),
  (158, ⟨.arr 65 5, 65, 65, (.arr 65 (.int .u8))⟩),
  (159, ⟨.fn, 1, 8, .nilf⟩),
  (160, ⟨.arr 256 5, 256, 256, (.arr 256 (.int .u8))⟩),
  (161, ⟨.struct [(5, 0), (5, 1)], 2, 2, (.scons (.int .u8) (.scons (.int .u8) .snil))⟩),
  (162, ⟨.struct [(5, 0), (5, 1)], 2, 2, (.scons (.int .u8) (.scons (.int .u8) .snil))⟩),
  (163, ⟨.arr 16 162, 32, 32, (.arr 16 (.scons (.int .u8) (.scons (.int .u8) .snil)))⟩),
  (164, ⟨.fn, 1, 8, .nilf⟩),
  (165, ⟨.fn, 1, 8, .nilf⟩),
  (167, ⟨.fn, 1, 8, .nilf⟩),
  (168, ⟨.arr 32 5, 32, 32, (.arr 32 (.int .u8))⟩),
  (169, ⟨.arr 64 5, 64, 64, (.arr 64 (.int .u8))⟩),
  (172, ⟨.arr 0 16, 0, 0, (.arr 0 .nilp)⟩),
  (175, ⟨.fn, 1, 8, .nilf⟩),
  (176, ⟨.int .u8, 1, 1, (.int .u8)⟩),
  (177, ⟨.int .u8, 1, 1, (.int .u8)⟩),
  (178, ⟨.fn, 1, 8, .nilf⟩),
  (179, ⟨.int .i32, 1, 4, (.int .i32)⟩),
  (180, ⟨.int .i32, 1, 4, (.int .i32)⟩),
  (181, ⟨.struct [(12, 0), (12, 1), (122, 2), (176, 3), (5, 4), (5, 5), (177, 6), (178, 7), (112, 8), (179, 9), (180, 10)], 11, 48, (.scons (.int .u64) (.scons (.int .u64) (.scons (.int .u32) (.scons (.int .u8) (.scons (.int .u8) (.scons (.int .u8) (.scons (.int .u8) (.scons .nilf (.scons .nilp (.scons (.int .i32) (.scons (.int .i32) .snil)))))))))))⟩),
  (182, ⟨.struct [(12, 0), (12, 1), (122, 2), (176, 3), (5, 4), (5, 5), (177, 6), (178, 7), (112, 8), (179, 9), (180, 10)], 11, 48, (.scons (.int .u64) (.scons (.int .u64) (.scons (.int .u32) (.scons (.int .u8) (.scons (.int .u8) (.scons (.int .u8) (.scons (.int .u8) (.scons .nilf (.scons .nilp (.scons (.int .i32) (.scons (.int .i32) .snil)))))))))))⟩)]
def gl : List (Nat × TV) := [(0, ⟨.ref (.sint .i64), ()⟩)]
theorem tiOK : ti.all (fun p => tiOK1 Tryd.prog p.1 p.2) = true := by kernel_rfl
theorem mixed : Tryd.prog.follows .mixedOrders = true := Checked.mixed Tryd.checked

def joinS.spec : Dp.Spec := joinSpec
theorem joinS.contract : Contract Tryd.prog gl 35 joinS.spec := joinS_ok
def asciiSet.spec : Dp.Spec := asciiSetSpec
theorem asciiSet.contract : Contract Tryd.prog gl 78 asciiSet.spec := asciiSet_ok
def replaceS.spec : Dp.Spec := replaceSpec
theorem replaceS.contract : Contract Tryd.prog gl 85 replaceS.spec := replaceS_ok rfl
def containsS.spec : Dp.Spec := containsSpec
theorem containsS.contract : Contract Tryd.prog gl 86 containsS.spec := containsS_ok rfl
def ixb.spec : Dp.Spec := indexByteSpec
theorem ixb.contract : Contract Tryd.prog gl 130 ixb.spec := indexByte_contract Tryd.func130 (by decide +kernel) rfl (by kernel_rfl) (by kernel_rfl)
def sortS.mspec : MSpec := sortM
theorem sortS.turns : MContract Tryd.prog 40 sortS.mspec := sortS_ok
def depotref09_Few.spec : Dp.Spec := { args := (.scons (.list (.scons .str (.scons .str .snil))) (.scons (.int .i64) (.scons (.int .i64) .snil))), res := .bool, own := false, F := fun K x => depotref09_Few K x.1 x.2.1 x.2.2.1 }
def depotref09_Few.hint : Dp.Hint := { n := 41, regions := [(2, [(.normal, { regs := [(0, (.list (.scons .str (.scons .str .snil)))), (1, (.int .i64)), (2, (.int .i64)), (7, (.int .i64)), (16, .bool)] })]), (4, [(.normal, { regs := [(0, (.list (.scons .str (.scons .str .snil)))), (1, (.int .i64)), (2, (.int .i64)), (7, (.int .i64)), (36, .bool)] })])], loops := [(2, { regs := [(0, (.list (.scons .str (.scons .str .snil)))), (1, (.int .i64)), (2, (.int .i64)), (7, (.int .i64))] }, [(.exit 0, { regs := [(0, (.list (.scons .str (.scons .str .snil)))), (1, (.int .i64))] }), (.ret, { regs := [(6, .bool)] })])] }
noncomputable def depotref09_Few.env : Dp.Env := { ti := ti, gl := gl, fns := [(14, Tryd.f14, depotref09_Few.hint)], specs := [], K := 0 }
noncomputable def depotref09_Few.r0 (K : Nat) : Nat → (((List ((List UInt8) × ((List UInt8) × (Unit)))) × ((Int) × ((Int) × ((Int) × (Unit))))) × (Unit)) → Option ((((List ((List UInt8) × ((List UInt8) × (Unit)))) × ((Int) × (Unit))) × (Unit)) ⊕ (((Bool) × (Unit)) × (Unit))) :=
  loopV [(.exit 0, { regs := [(0, (.list (.scons .str (.scons .str .snil)))), (1, (.int .i64))] }), (.ret, { regs := [(6, .bool)] })] { regs := [(0, (.list (.scons .str (.scons .str .snil)))), (1, (.int .i64)), (2, (.int .i64)), (7, (.int .i64))] } (interp (depotref09_Few.env.at K) depotref09_Few.hint (callF (depotref09_Few.env.at K) 7) (Code.sub [1, 0, 1, 0, 0] (Tryd.f14.body.getD .skip)) _)
theorem depotref09_Few.s0 (K n : Nat) (x : (((List ((List UInt8) × ((List UInt8) × (Unit)))) × ((Int) × ((Int) × ((Int) × (Unit))))) × (Unit))) : depotref09_Few.r0 K (n + 1) x = depotref09_Few.t0 K (depotref09_Few.r0 K n) x := by kernel_rfl
theorem depotref09_Few.e0 (K n : Nat) : depotref09_Few.r0 K n = depotref09_Few.l0 K n := by
  induction n with
  | zero => funext x; rfl
  | succ n ih => funext x; rw [depotref09_Few.s0, ih]; rfl
theorem depotref09_Few.body_eq (K : Nat) (x : depotref09_Few.spec.args.den) : body (depotref09_Few.env.at K) 8 14 depotref09_Few.spec x = depotref09_Few.tr (depotref09_Few.r0 K) K x.1 x.2.1 x.2.2.1 := by kernel_rfl
theorem depotref09_Few.contract : Contract Tryd.prog gl 14 depotref09_Few.spec :=
  contract_of (E := depotref09_Few.env) ⟨TIok_of tiOK, FnsOK_of ⟨⟨Tryd.func14, Tryd.call14⟩, trivial⟩, mixed⟩ (SpecsOK_of (E := depotref09_Few.env) trivial) Tryd.call14 rfl rfl fun K x r h => by
    rw [depotref09_Few.body_eq, show depotref09_Few.r0 K = depotref09_Few.l0 K from funext (depotref09_Few.e0 K)]; exact h

def depotref15_FewNames.spec : Dp.Spec := { args := (.scons (.list .str) (.scons (.int .i64) (.scons (.int .i64) .snil))), res := .bool, own := false, F := fun K x => depotref15_FewNames K x.1 x.2.1 x.2.2.1 }
def depotref15_FewNames.hint : Dp.Hint := { n := 30, regions := [(2, [(.normal, { regs := [(0, (.list .str)), (1, (.int .i64)), (2, (.int .i64)), (7, (.int .i64)), (16, .bool)] })])], loops := [(2, { regs := [(0, (.list .str)), (1, (.int .i64)), (2, (.int .i64)), (7, (.int .i64))] }, [(.exit 0, { regs := [(0, (.list .str)), (1, (.int .i64))] }), (.ret, { regs := [(6, .bool)] })])] }
noncomputable def depotref15_FewNames.env : Dp.Env := { ti := ti, gl := gl, fns := [(15, Tryd.f15, depotref15_FewNames.hint)], specs := [], K := 0 }
noncomputable def depotref15_FewNames.r0 (K : Nat) : Nat → (((List (List UInt8)) × ((Int) × ((Int) × ((Int) × (Unit))))) × (Unit)) → Option ((((List (List UInt8)) × ((Int) × (Unit))) × (Unit)) ⊕ (((Bool) × (Unit)) × (Unit))) :=
  loopV [(.exit 0, { regs := [(0, (.list .str)), (1, (.int .i64))] }), (.ret, { regs := [(6, .bool)] })] { regs := [(0, (.list .str)), (1, (.int .i64)), (2, (.int .i64)), (7, (.int .i64))] } (interp (depotref15_FewNames.env.at K) depotref15_FewNames.hint (callF (depotref15_FewNames.env.at K) 7) (Code.sub [1, 0, 1, 0, 0] (Tryd.f15.body.getD .skip)) _)
theorem depotref15_FewNames.s0 (K n : Nat) (x : (((List (List UInt8)) × ((Int) × ((Int) × ((Int) × (Unit))))) × (Unit))) : depotref15_FewNames.r0 K (n + 1) x = depotref15_FewNames.t0 K (depotref15_FewNames.r0 K n) x := by kernel_rfl
theorem depotref15_FewNames.e0 (K n : Nat) : depotref15_FewNames.r0 K n = depotref15_FewNames.l0 K n := by
  induction n with
  | zero => funext x; rfl
  | succ n ih => funext x; rw [depotref15_FewNames.s0, ih]; rfl
theorem depotref15_FewNames.body_eq (K : Nat) (x : depotref15_FewNames.spec.args.den) : body (depotref15_FewNames.env.at K) 8 15 depotref15_FewNames.spec x = depotref15_FewNames.tr (depotref15_FewNames.r0 K) K x.1 x.2.1 x.2.2.1 := by kernel_rfl
theorem depotref15_FewNames.contract : Contract Tryd.prog gl 15 depotref15_FewNames.spec :=
  contract_of (E := depotref15_FewNames.env) ⟨TIok_of tiOK, FnsOK_of ⟨⟨Tryd.func15, Tryd.call15⟩, trivial⟩, mixed⟩ (SpecsOK_of (E := depotref15_FewNames.env) trivial) Tryd.call15 rfl rfl fun K x r h => by
    rw [depotref15_FewNames.body_eq, show depotref15_FewNames.r0 K = depotref15_FewNames.l0 K from funext (depotref15_FewNames.e0 K)]; exact h

def fields_named.spec : Dp.Spec := { args := (.scons .str .snil), res := (.fn 61 (.scons (.ref .str) .snil)), own := false, F := fun K x => fields_named K x.1 }
def fields_named.hint : Dp.Hint := { n := 4, imm := [1] }
noncomputable def fields_named.env : Dp.Env := { ti := ti, gl := gl, fns := [(44, Tryd.f44, fields_named.hint)], specs := [], K := 0 }
theorem fields_named.body_eq (K : Nat) (x : fields_named.spec.args.den) : body (fields_named.env.at K) 8 44 fields_named.spec x = fields_named K x.1 := by kernel_rfl
theorem fields_named.contract : Contract Tryd.prog gl 44 fields_named.spec :=
  contract_of (E := fields_named.env) ⟨TIok_of tiOK, FnsOK_of ⟨⟨Tryd.func44, Tryd.call44⟩, trivial⟩, mixed⟩ (SpecsOK_of (E := fields_named.env) trivial) Tryd.call44 rfl rfl fun K x r h => by
    rw [fields_named.body_eq]; exact h

def octet_from.spec : Dp.Spec := { args := (.scons (.int .u8) (.scons (.int .u8) .snil)), res := (.fn 55 (.scons (.ref (.int .u8)) (.scons (.ref (.int .u8)) .snil))), own := false, F := fun K x => octet_from K x.1 x.2.1 }
def octet_from.hint : Dp.Hint := { n := 6, imm := [2, 3] }
noncomputable def octet_from.env : Dp.Env := { ti := ti, gl := gl, fns := [(39, Tryd.f39, octet_from.hint)], specs := [], K := 0 }
theorem octet_from.body_eq (K : Nat) (x : octet_from.spec.args.den) : body (octet_from.env.at K) 8 39 octet_from.spec x = octet_from K x.1 x.2.1 := by kernel_rfl
theorem octet_from.contract : Contract Tryd.prog gl 39 octet_from.spec :=
  contract_of (E := octet_from.env) ⟨TIok_of tiOK, FnsOK_of ⟨⟨Tryd.func39, Tryd.call39⟩, trivial⟩, mixed⟩ (SpecsOK_of (E := octet_from.env) trivial) Tryd.call39 rfl rfl fun K x r h => by
    rw [octet_from.body_eq]; exact h

def octet_from_c1.spec : Dp.Spec := { args := (.scons (.int .u8) (.scons (.ref (.int .u8)) (.scons (.ref (.int .u8)) .snil))), res := .bool, own := false, F := fun K x => octet_from_c1 K x.1 x.2.1 x.2.2.1 }
def octet_from_c1.hint : Dp.Hint := { n := 13 }
noncomputable def octet_from_c1.env : Dp.Env := { ti := ti, gl := gl, fns := [(55, Tryd.f55, octet_from_c1.hint)], specs := [], K := 0 }
theorem octet_from_c1.body_eq (K : Nat) (x : octet_from_c1.spec.args.den) : body (octet_from_c1.env.at K) 8 55 octet_from_c1.spec x = octet_from_c1 K x.1 x.2.1 x.2.2.1 := by kernel_rfl
theorem octet_from_c1.contract : Contract Tryd.prog gl 55 octet_from_c1.spec :=
  contract_of (E := octet_from_c1.env) ⟨TIok_of tiOK, FnsOK_of ⟨⟨Tryd.func55, Tryd.call55⟩, trivial⟩, mixed⟩ (SpecsOK_of (E := octet_from_c1.env) trivial) Tryd.call55 rfl rfl fun K x r h => by
    rw [octet_from_c1.body_eq]; exact h

def octet_Lower.spec : Dp.Spec := { args := (.scons .str .snil), res := .str, own := false, F := fun K x => octet_Lower K x.1 }
def octet_Lower.hint : Dp.Hint := { n := 29, conds := [(19, [(.normal, { regs := [(3, (.fn 55 (.scons (.ref (.int .u8)) (.scons (.ref (.int .u8)) .snil)))), (4, (.slw 0)), (10, (.slw 0)), (11, (.int .i64)), (12, (.int .i64))], heap := [(.row (.int .u8))] })])], loops := [(4, { regs := [(3, (.fn 55 (.scons (.ref (.int .u8)) (.scons (.ref (.int .u8)) .snil)))), (4, (.slw 0)), (10, (.slw 0)), (11, (.int .i64)), (12, (.int .i64))], heap := [(.row (.int .u8))] }, [(.exit 0, { regs := [(4, (.slw 0))], heap := [(.row (.int .u8))] })])], own := [9] }
noncomputable def octet_Lower.env : Dp.Env := { ti := ti, gl := gl, fns := [(19, Tryd.f19, octet_Lower.hint)], specs := [(39, octet_from.spec), (55, octet_from_c1.spec)], K := 0 }
noncomputable def octet_Lower.r0 (K : Nat) : Nat → ((((Int) × ((Int) × (Unit))) × ((Unit) × ((Unit) × ((Int) × ((Int) × (Unit)))))) × ((List (Int)) × (Unit))) → Option ((((Unit) × (Unit)) × ((List (Int)) × (Unit)))) :=
  loopV [(.exit 0, { regs := [(4, (.slw 0))], heap := [(.row (.int .u8))] })] { regs := [(3, (.fn 55 (.scons (.ref (.int .u8)) (.scons (.ref (.int .u8)) .snil)))), (4, (.slw 0)), (10, (.slw 0)), (11, (.int .i64)), (12, (.int .i64))], heap := [(.row (.int .u8))] } (interp (octet_Lower.env.at K) octet_Lower.hint (callF (octet_Lower.env.at K) 7) (Code.sub [1, 1, 1, 0, 1, 0, 0] (Tryd.f19.body.getD .skip)) _)
theorem octet_Lower.s0 (K n : Nat) (x : ((((Int) × ((Int) × (Unit))) × ((Unit) × ((Unit) × ((Int) × ((Int) × (Unit)))))) × ((List (Int)) × (Unit)))) : octet_Lower.r0 K (n + 1) x = octet_Lower.t0 K (octet_Lower.r0 K n) x := by kernel_rfl
theorem octet_Lower.e0 (K n : Nat) : octet_Lower.r0 K n = octet_Lower.l0 K n := by
  induction n with
  | zero => funext x; rfl
  | succ n ih => funext x; rw [octet_Lower.s0, ih]; rfl
theorem octet_Lower.body_eq (K : Nat) (x : octet_Lower.spec.args.den) : body (octet_Lower.env.at K) 8 19 octet_Lower.spec x = octet_Lower.tr (octet_Lower.r0 K) K x.1 := by kernel_rfl
theorem octet_Lower.contract : Contract Tryd.prog gl 19 octet_Lower.spec :=
  contract_of (E := octet_Lower.env) ⟨TIok_of tiOK, FnsOK_of ⟨⟨Tryd.func19, Tryd.call19⟩, trivial⟩, mixed⟩ (SpecsOK_of (E := octet_Lower.env) ⟨octet_from.contract, octet_from_c1.contract, trivial⟩) Tryd.call19 rfl rfl fun K x r h => by
    rw [octet_Lower.body_eq, show octet_Lower.r0 K = octet_Lower.l0 K from funext (octet_Lower.e0 K)]; exact h

def octet_Same.spec : Dp.Spec := { args := (.scons .str (.scons .str .snil)), res := .bool, own := false, F := fun K x => octet_Same K x.1 x.2.1 }
def octet_Same.hint : Dp.Hint := { n := 17 }
noncomputable def octet_Same.env : Dp.Env := { ti := ti, gl := gl, fns := [(20, Tryd.f20, octet_Same.hint)], specs := [(19, octet_Lower.spec)], K := 0 }
theorem octet_Same.body_eq (K : Nat) (x : octet_Same.spec.args.den) : body (octet_Same.env.at K) 8 20 octet_Same.spec x = octet_Same K x.1 x.2.1 := by kernel_rfl
theorem octet_Same.contract : Contract Tryd.prog gl 20 octet_Same.spec :=
  contract_of (E := octet_Same.env) ⟨TIok_of tiOK, FnsOK_of ⟨⟨Tryd.func20, Tryd.call20⟩, trivial⟩, mixed⟩ (SpecsOK_of (E := octet_Same.env) ⟨octet_Lower.contract, trivial⟩) Tryd.call20 rfl rfl fun K x r h => by
    rw [octet_Same.body_eq]; exact h

def fields_named_c1.spec : Dp.Spec := { args := (.scons (.scons .str (.scons .str .snil)) (.scons (.ref .str) .snil)), res := .bool, own := false, F := fun K x => fields_named_c1 K x.1 x.2.1 }
def fields_named_c1.hint : Dp.Hint := { n := 8, imm := [2] }
noncomputable def fields_named_c1.env : Dp.Env := { ti := ti, gl := gl, fns := [(61, Tryd.f61, fields_named_c1.hint)], specs := [(20, octet_Same.spec)], K := 0 }
theorem fields_named_c1.body_eq (K : Nat) (x : fields_named_c1.spec.args.den) : body (fields_named_c1.env.at K) 8 61 fields_named_c1.spec x = fields_named_c1 K x.1 x.2.1 := by kernel_rfl
theorem fields_named_c1.contract : Contract Tryd.prog gl 61 fields_named_c1.spec :=
  contract_of (E := fields_named_c1.env) ⟨TIok_of tiOK, FnsOK_of ⟨⟨Tryd.func61, Tryd.call61⟩, trivial⟩, mixed⟩ (SpecsOK_of (E := fields_named_c1.env) ⟨octet_Same.contract, trivial⟩) Tryd.call61 rfl rfl fun K x r h => by
    rw [fields_named_c1.body_eq]; exact h

def fields_chosen__named_c1.spec : Dp.Spec := { args := (.scons (.list (.scons .str (.scons .str .snil))) (.scons (.fn 61 (.scons (.ref .str) .snil)) .snil)), res := (.list (.scons .str (.scons .str .snil))), own := false, F := fun K x => fields_chosen__named_c1 K x.1 x.2.1 }
def fields_chosen__named_c1.hint : Dp.Hint := { n := 23, conds := [(16, [(.normal, { regs := [(1, (.fn 61 (.scons (.ref .str) .snil))), (5, (.slw 1)), (8, (.list (.scons .str (.scons .str .snil)))), (9, (.int .i64)), (10, (.int .i64))], heap := [(.row (.scons .str (.scons .str .snil))), (.row (.scons .str (.scons .str .snil))), (.scons .str (.scons .str .snil))], app := [1] })])], loops := [(3, { regs := [(1, (.fn 61 (.scons (.ref .str) .snil))), (5, (.slw 1)), (8, (.list (.scons .str (.scons .str .snil)))), (9, (.int .i64)), (10, (.int .i64))], heap := [(.row (.scons .str (.scons .str .snil))), (.row (.scons .str (.scons .str .snil)))], app := [1] }, [(.exit 0, { regs := [(5, (.slw 1))], heap := [(.row (.scons .str (.scons .str .snil))), (.row (.scons .str (.scons .str .snil)))], app := [1] })])], own := [4, 5] }
noncomputable def fields_chosen__named_c1.env : Dp.Env := { ti := ti, gl := gl, fns := [(43, Tryd.f43, fields_chosen__named_c1.hint)], specs := [(61, fields_named_c1.spec)], K := 0 }
noncomputable def fields_chosen__named_c1.r0 (K : Nat) : Nat → ((((List UInt8) × (Unit)) × ((Unit) × ((List ((List UInt8) × ((List UInt8) × (Unit)))) × ((Int) × ((Int) × (Unit)))))) × ((List ((List UInt8) × ((List UInt8) × (Unit)))) × ((List ((List UInt8) × ((List UInt8) × (Unit)))) × (Unit)))) → Option ((((Unit) × (Unit)) × ((List ((List UInt8) × ((List UInt8) × (Unit)))) × ((List ((List UInt8) × ((List UInt8) × (Unit)))) × (Unit))))) :=
  loopV [(.exit 0, { regs := [(5, (.slw 1))], heap := [(.row (.scons .str (.scons .str .snil))), (.row (.scons .str (.scons .str .snil)))], app := [1] })] { regs := [(1, (.fn 61 (.scons (.ref .str) .snil))), (5, (.slw 1)), (8, (.list (.scons .str (.scons .str .snil)))), (9, (.int .i64)), (10, (.int .i64))], heap := [(.row (.scons .str (.scons .str .snil))), (.row (.scons .str (.scons .str .snil)))], app := [1] } (interp (fields_chosen__named_c1.env.at K) fields_chosen__named_c1.hint (callF (fields_chosen__named_c1.env.at K) 7) (Code.sub [1, 1, 0, 1, 0, 0] (Tryd.f43.body.getD .skip)) _)
theorem fields_chosen__named_c1.s0 (K n : Nat) (x : ((((List UInt8) × (Unit)) × ((Unit) × ((List ((List UInt8) × ((List UInt8) × (Unit)))) × ((Int) × ((Int) × (Unit)))))) × ((List ((List UInt8) × ((List UInt8) × (Unit)))) × ((List ((List UInt8) × ((List UInt8) × (Unit)))) × (Unit))))) : fields_chosen__named_c1.r0 K (n + 1) x = fields_chosen__named_c1.t0 K (fields_chosen__named_c1.r0 K n) x := by kernel_rfl
theorem fields_chosen__named_c1.e0 (K n : Nat) : fields_chosen__named_c1.r0 K n = fields_chosen__named_c1.l0 K n := by
  induction n with
  | zero => funext x; rfl
  | succ n ih => funext x; rw [fields_chosen__named_c1.s0, ih]; rfl
theorem fields_chosen__named_c1.body_eq (K : Nat) (x : fields_chosen__named_c1.spec.args.den) : body (fields_chosen__named_c1.env.at K) 8 43 fields_chosen__named_c1.spec x = fields_chosen__named_c1.tr (fields_chosen__named_c1.r0 K) K x.1 x.2.1 := by kernel_rfl
theorem fields_chosen__named_c1.contract : Contract Tryd.prog gl 43 fields_chosen__named_c1.spec :=
  contract_of (E := fields_chosen__named_c1.env) ⟨TIok_of tiOK, FnsOK_of ⟨⟨Tryd.func43, Tryd.call43⟩, trivial⟩, mixed⟩ (SpecsOK_of (E := fields_chosen__named_c1.env) ⟨fields_named_c1.contract, trivial⟩) Tryd.call43 rfl rfl fun K x r h => by
    rw [fields_chosen__named_c1.body_eq, show fields_chosen__named_c1.r0 K = fields_chosen__named_c1.l0 K from funext (fields_chosen__named_c1.e0 K)]; exact h

def fields_All.spec : Dp.Spec := { args := (.scons (.list (.scons .str (.scons .str .snil))) (.scons .str .snil)), res := (.list .str), own := false, F := fun K x => fields_All K x.1 x.2.1 }
def fields_All.hint : Dp.Hint := { n := 24, loops := [(3, { regs := [(5, (.slw 1)), (11, (.list (.scons .str (.scons .str .snil)))), (12, (.int .i64)), (13, (.int .i64))], heap := [(.row .str), (.row .str)], app := [1] }, [(.exit 0, { regs := [(5, (.slw 1))], heap := [(.row .str), (.row .str)], app := [1] })])], own := [4, 5] }
noncomputable def fields_All.env : Dp.Env := { ti := ti, gl := gl, fns := [(26, Tryd.f26, fields_All.hint)], specs := [(44, fields_named.spec), (43, fields_chosen__named_c1.spec)], K := 0 }
noncomputable def fields_All.r0 (K : Nat) : Nat → (((Unit) × ((List ((List UInt8) × ((List UInt8) × (Unit)))) × ((Int) × ((Int) × (Unit))))) × ((List (List UInt8)) × ((List (List UInt8)) × (Unit)))) → Option ((((Unit) × (Unit)) × ((List (List UInt8)) × ((List (List UInt8)) × (Unit))))) :=
  loopV [(.exit 0, { regs := [(5, (.slw 1))], heap := [(.row .str), (.row .str)], app := [1] })] { regs := [(5, (.slw 1)), (11, (.list (.scons .str (.scons .str .snil)))), (12, (.int .i64)), (13, (.int .i64))], heap := [(.row .str), (.row .str)], app := [1] } (interp (fields_All.env.at K) fields_All.hint (callF (fields_All.env.at K) 7) (Code.sub [1, 1, 0, 1, 0, 0] (Tryd.f26.body.getD .skip)) _)
theorem fields_All.s0 (K n : Nat) (x : (((Unit) × ((List ((List UInt8) × ((List UInt8) × (Unit)))) × ((Int) × ((Int) × (Unit))))) × ((List (List UInt8)) × ((List (List UInt8)) × (Unit))))) : fields_All.r0 K (n + 1) x = fields_All.t0 K (fields_All.r0 K n) x := by kernel_rfl
theorem fields_All.e0 (K n : Nat) : fields_All.r0 K n = fields_All.l0 K n := by
  induction n with
  | zero => funext x; rfl
  | succ n ih => funext x; rw [fields_All.s0, ih]; rfl
theorem fields_All.body_eq (K : Nat) (x : fields_All.spec.args.den) : body (fields_All.env.at K) 8 26 fields_All.spec x = fields_All.tr (fields_All.r0 K) K x.1 x.2.1 := by kernel_rfl
theorem fields_All.contract : Contract Tryd.prog gl 26 fields_All.spec :=
  contract_of (E := fields_All.env) ⟨TIok_of tiOK, FnsOK_of ⟨⟨Tryd.func26, Tryd.call26⟩, trivial⟩, mixed⟩ (SpecsOK_of (E := fields_All.env) ⟨fields_named.contract, fields_chosen__named_c1.contract, trivial⟩) Tryd.call26 rfl rfl fun K x r h => by
    rw [fields_All.body_eq, show fields_All.r0 K = fields_All.l0 K from funext (fields_All.e0 K)]; exact h

def strings_trimRightByte.spec : Dp.Spec := { args := (.scons .str (.scons (.int .u8) .snil)), res := .str, own := false, F := fun K x => strings_trimRightByte K x.1 x.2.1 }
def strings_trimRightByte.hint : Dp.Hint := { n := 23, regions := [(1, [(.normal, { regs := [(0, .str), (1, (.int .u8)), (16, .bool)] })])], loops := [(1, { regs := [(0, .str), (1, (.int .u8))] }, [(.exit 0, { regs := [(0, .str)] })])] }
noncomputable def strings_trimRightByte.env : Dp.Env := { ti := ti, gl := gl, fns := [(77, Tryd.f77, strings_trimRightByte.hint)], specs := [], K := 0 }
noncomputable def strings_trimRightByte.r0 (K : Nat) : Nat → (((List UInt8) × ((Int) × (Unit))) × (Unit)) → Option ((((List UInt8) × (Unit)) × (Unit))) :=
  loopV [(.exit 0, { regs := [(0, .str)] })] { regs := [(0, .str), (1, (.int .u8))] } (interp (strings_trimRightByte.env.at K) strings_trimRightByte.hint (callF (strings_trimRightByte.env.at K) 7) (Code.sub [1, 0, 0, 0] (Tryd.f77.body.getD .skip)) _)
theorem strings_trimRightByte.s0 (K n : Nat) (x : (((List UInt8) × ((Int) × (Unit))) × (Unit))) : strings_trimRightByte.r0 K (n + 1) x = strings_trimRightByte.t0 K (strings_trimRightByte.r0 K n) x := by kernel_rfl
theorem strings_trimRightByte.e0 (K n : Nat) : strings_trimRightByte.r0 K n = strings_trimRightByte.l0 K n := by
  induction n with
  | zero => funext x; rfl
  | succ n ih => funext x; rw [strings_trimRightByte.s0, ih]; rfl
theorem strings_trimRightByte.body_eq (K : Nat) (x : strings_trimRightByte.spec.args.den) : body (strings_trimRightByte.env.at K) 8 77 strings_trimRightByte.spec x = strings_trimRightByte.tr (strings_trimRightByte.r0 K) K x.1 x.2.1 := by kernel_rfl
theorem strings_trimRightByte.contract : Contract Tryd.prog gl 77 strings_trimRightByte.spec :=
  contract_of (E := strings_trimRightByte.env) ⟨TIok_of tiOK, FnsOK_of ⟨⟨Tryd.func77, Tryd.call77⟩, trivial⟩, mixed⟩ (SpecsOK_of (E := strings_trimRightByte.env) trivial) Tryd.call77 rfl rfl fun K x r h => by
    rw [strings_trimRightByte.body_eq, show strings_trimRightByte.r0 K = strings_trimRightByte.l0 K from funext (strings_trimRightByte.e0 K)]; exact h

def strings_trimLeftByte.spec : Dp.Spec := { args := (.scons .str (.scons (.int .u8) .snil)), res := .str, own := false, F := fun K x => strings_trimLeftByte K x.1 x.2.1 }
def strings_trimLeftByte.hint : Dp.Hint := { n := 17, regions := [(1, [(.normal, { regs := [(0, .str), (1, (.int .u8)), (13, .bool)] })])], loops := [(1, { regs := [(0, .str), (1, (.int .u8))] }, [(.exit 0, { regs := [(0, .str)] })])] }
noncomputable def strings_trimLeftByte.env : Dp.Env := { ti := ti, gl := gl, fns := [(76, Tryd.f76, strings_trimLeftByte.hint)], specs := [], K := 0 }
noncomputable def strings_trimLeftByte.r0 (K : Nat) : Nat → (((List UInt8) × ((Int) × (Unit))) × (Unit)) → Option ((((List UInt8) × (Unit)) × (Unit))) :=
  loopV [(.exit 0, { regs := [(0, .str)] })] { regs := [(0, .str), (1, (.int .u8))] } (interp (strings_trimLeftByte.env.at K) strings_trimLeftByte.hint (callF (strings_trimLeftByte.env.at K) 7) (Code.sub [1, 0, 0, 0] (Tryd.f76.body.getD .skip)) _)
theorem strings_trimLeftByte.s0 (K n : Nat) (x : (((List UInt8) × ((Int) × (Unit))) × (Unit))) : strings_trimLeftByte.r0 K (n + 1) x = strings_trimLeftByte.t0 K (strings_trimLeftByte.r0 K n) x := by kernel_rfl
theorem strings_trimLeftByte.e0 (K n : Nat) : strings_trimLeftByte.r0 K n = strings_trimLeftByte.l0 K n := by
  induction n with
  | zero => funext x; rfl
  | succ n ih => funext x; rw [strings_trimLeftByte.s0, ih]; rfl
theorem strings_trimLeftByte.body_eq (K : Nat) (x : strings_trimLeftByte.spec.args.den) : body (strings_trimLeftByte.env.at K) 8 76 strings_trimLeftByte.spec x = strings_trimLeftByte.tr (strings_trimLeftByte.r0 K) K x.1 x.2.1 := by kernel_rfl
theorem strings_trimLeftByte.contract : Contract Tryd.prog gl 76 strings_trimLeftByte.spec :=
  contract_of (E := strings_trimLeftByte.env) ⟨TIok_of tiOK, FnsOK_of ⟨⟨Tryd.func76, Tryd.call76⟩, trivial⟩, mixed⟩ (SpecsOK_of (E := strings_trimLeftByte.env) trivial) Tryd.call76 rfl rfl fun K x r h => by
    rw [strings_trimLeftByte.body_eq, show strings_trimLeftByte.r0 K = strings_trimLeftByte.l0 K from funext (strings_trimLeftByte.e0 K)]; exact h

def strings_asciiSet_contains.spec : Dp.Spec := { args := (.scons (.ref (.arr 256 .bool)) (.scons (.int .u8) .snil)), res := .bool, own := false, F := fun K x => strings_asciiSet_contains K x.1 x.2.1 }
def strings_asciiSet_contains.hint : Dp.Hint := { n := 10 }
noncomputable def strings_asciiSet_contains.env : Dp.Env := { ti := ti, gl := gl, fns := [(103, Tryd.f103, strings_asciiSet_contains.hint)], specs := [], K := 0 }
theorem strings_asciiSet_contains.body_eq (K : Nat) (x : strings_asciiSet_contains.spec.args.den) : body (strings_asciiSet_contains.env.at K) 8 103 strings_asciiSet_contains.spec x = strings_asciiSet_contains K x.1 x.2.1 := by kernel_rfl
theorem strings_asciiSet_contains.contract : Contract Tryd.prog gl 103 strings_asciiSet_contains.spec :=
  contract_of (E := strings_asciiSet_contains.env) ⟨TIok_of tiOK, FnsOK_of ⟨⟨Tryd.func103, Tryd.call103⟩, trivial⟩, mixed⟩ (SpecsOK_of (E := strings_asciiSet_contains.env) trivial) Tryd.call103 rfl rfl fun K x r h => by
    rw [strings_asciiSet_contains.body_eq]; exact h

def strings_trimRightASCII.spec : Dp.Spec := { args := (.scons .str (.scons (.ref (.arr 256 .bool)) .snil)), res := .str, own := false, F := fun K x => strings_trimRightASCII K x.1 x.2.1 }
def strings_trimRightASCII.hint : Dp.Hint := { n := 22, loops := [(1, { regs := [(0, .str), (1, (.ref (.arr 256 .bool)))] }, [(.exit 0, { regs := [(0, .str)] })])] }
noncomputable def strings_trimRightASCII.env : Dp.Env := { ti := ti, gl := gl, fns := [(80, Tryd.f80, strings_trimRightASCII.hint)], specs := [(103, strings_asciiSet_contains.spec)], K := 0 }
noncomputable def strings_trimRightASCII.r0 (K : Nat) : Nat → (((List UInt8) × ((List (Bool)) × (Unit))) × (Unit)) → Option ((((List UInt8) × (Unit)) × (Unit))) :=
  loopV [(.exit 0, { regs := [(0, .str)] })] { regs := [(0, .str), (1, (.ref (.arr 256 .bool)))] } (interp (strings_trimRightASCII.env.at K) strings_trimRightASCII.hint (callF (strings_trimRightASCII.env.at K) 7) (Code.sub [1, 0, 0, 0] (Tryd.f80.body.getD .skip)) _)
theorem strings_trimRightASCII.s0 (K n : Nat) (x : (((List UInt8) × ((List (Bool)) × (Unit))) × (Unit))) : strings_trimRightASCII.r0 K (n + 1) x = strings_trimRightASCII.t0 K (strings_trimRightASCII.r0 K n) x := by kernel_rfl
theorem strings_trimRightASCII.e0 (K n : Nat) : strings_trimRightASCII.r0 K n = strings_trimRightASCII.l0 K n := by
  induction n with
  | zero => funext x; rfl
  | succ n ih => funext x; rw [strings_trimRightASCII.s0, ih]; rfl
theorem strings_trimRightASCII.body_eq (K : Nat) (x : strings_trimRightASCII.spec.args.den) : body (strings_trimRightASCII.env.at K) 8 80 strings_trimRightASCII.spec x = strings_trimRightASCII.tr (strings_trimRightASCII.r0 K) K x.1 x.2.1 := by kernel_rfl
theorem strings_trimRightASCII.contract : Contract Tryd.prog gl 80 strings_trimRightASCII.spec :=
  contract_of (E := strings_trimRightASCII.env) ⟨TIok_of tiOK, FnsOK_of ⟨⟨Tryd.func80, Tryd.call80⟩, trivial⟩, mixed⟩ (SpecsOK_of (E := strings_trimRightASCII.env) ⟨strings_asciiSet_contains.contract, trivial⟩) Tryd.call80 rfl rfl fun K x r h => by
    rw [strings_trimRightASCII.body_eq, show strings_trimRightASCII.r0 K = strings_trimRightASCII.l0 K from funext (strings_trimRightASCII.e0 K)]; exact h

def strings_trimLeftASCII.spec : Dp.Spec := { args := (.scons .str (.scons (.ref (.arr 256 .bool)) .snil)), res := .str, own := false, F := fun K x => strings_trimLeftASCII K x.1 x.2.1 }
def strings_trimLeftASCII.hint : Dp.Hint := { n := 16, loops := [(1, { regs := [(0, .str), (1, (.ref (.arr 256 .bool)))] }, [(.exit 0, { regs := [(0, .str)] })])] }
noncomputable def strings_trimLeftASCII.env : Dp.Env := { ti := ti, gl := gl, fns := [(79, Tryd.f79, strings_trimLeftASCII.hint)], specs := [(103, strings_asciiSet_contains.spec)], K := 0 }
noncomputable def strings_trimLeftASCII.r0 (K : Nat) : Nat → (((List UInt8) × ((List (Bool)) × (Unit))) × (Unit)) → Option ((((List UInt8) × (Unit)) × (Unit))) :=
  loopV [(.exit 0, { regs := [(0, .str)] })] { regs := [(0, .str), (1, (.ref (.arr 256 .bool)))] } (interp (strings_trimLeftASCII.env.at K) strings_trimLeftASCII.hint (callF (strings_trimLeftASCII.env.at K) 7) (Code.sub [1, 0, 0, 0] (Tryd.f79.body.getD .skip)) _)
theorem strings_trimLeftASCII.s0 (K n : Nat) (x : (((List UInt8) × ((List (Bool)) × (Unit))) × (Unit))) : strings_trimLeftASCII.r0 K (n + 1) x = strings_trimLeftASCII.t0 K (strings_trimLeftASCII.r0 K n) x := by kernel_rfl
theorem strings_trimLeftASCII.e0 (K n : Nat) : strings_trimLeftASCII.r0 K n = strings_trimLeftASCII.l0 K n := by
  induction n with
  | zero => funext x; rfl
  | succ n ih => funext x; rw [strings_trimLeftASCII.s0, ih]; rfl
theorem strings_trimLeftASCII.body_eq (K : Nat) (x : strings_trimLeftASCII.spec.args.den) : body (strings_trimLeftASCII.env.at K) 8 79 strings_trimLeftASCII.spec x = strings_trimLeftASCII.tr (strings_trimLeftASCII.r0 K) K x.1 x.2.1 := by kernel_rfl
theorem strings_trimLeftASCII.contract : Contract Tryd.prog gl 79 strings_trimLeftASCII.spec :=
  contract_of (E := strings_trimLeftASCII.env) ⟨TIok_of tiOK, FnsOK_of ⟨⟨Tryd.func79, Tryd.call79⟩, trivial⟩, mixed⟩ (SpecsOK_of (E := strings_trimLeftASCII.env) ⟨strings_asciiSet_contains.contract, trivial⟩) Tryd.call79 rfl rfl fun K x r h => by
    rw [strings_trimLeftASCII.body_eq, show strings_trimLeftASCII.r0 K = strings_trimLeftASCII.l0 K from funext (strings_trimLeftASCII.e0 K)]; exact h

def strings_Trim.spec : Dp.Spec := { args := (.scons .str (.scons .str .snil)), res := .str, own := false, F := fun K x => strings_Trim K x.1 x.2.1 }
def strings_Trim.hint : Dp.Hint := { n := 43, regions := [(1, [(.normal, { regs := [(0, .str), (1, .str), (12, .bool)] })]), (3, [(.normal, { regs := [(0, .str), (1, .str), (21, .bool)] })])] }
noncomputable def strings_Trim.env : Dp.Env := { ti := ti, gl := gl, fns := [(49, Tryd.f49, strings_Trim.hint)], specs := [(77, strings_trimRightByte.spec), (76, strings_trimLeftByte.spec), (80, strings_trimRightASCII.spec), (79, strings_trimLeftASCII.spec), (78, asciiSet.spec)], K := 0 }
theorem strings_Trim.body_eq (K : Nat) (x : strings_Trim.spec.args.den) : body (strings_Trim.env.at K) 8 49 strings_Trim.spec x = strings_Trim K x.1 x.2.1 := by kernel_rfl
theorem strings_Trim.contract : Contract Tryd.prog gl 49 strings_Trim.spec :=
  contract_of (E := strings_Trim.env) ⟨TIok_of tiOK, FnsOK_of ⟨⟨Tryd.func49, Tryd.call49⟩, trivial⟩, mixed⟩ (SpecsOK_of (E := strings_Trim.env) ⟨strings_trimRightByte.contract, strings_trimLeftByte.contract, strings_trimRightASCII.contract, strings_trimLeftASCII.contract, asciiSet.contract, trivial⟩) Tryd.call49 rfl rfl fun K x r h => by
    rw [strings_Trim.body_eq]; exact h

def octet_Trim.spec : Dp.Spec := { args := (.scons .str .snil), res := .str, own := false, F := fun K x => octet_Trim K x.1 }
def octet_Trim.hint : Dp.Hint := { n := 5 }
noncomputable def octet_Trim.env : Dp.Env := { ti := ti, gl := gl, fns := [(34, Tryd.f34, octet_Trim.hint)], specs := [(49, strings_Trim.spec)], K := 0 }
theorem octet_Trim.body_eq (K : Nat) (x : octet_Trim.spec.args.den) : body (octet_Trim.env.at K) 8 34 octet_Trim.spec x = octet_Trim K x.1 := by kernel_rfl
theorem octet_Trim.contract : Contract Tryd.prog gl 34 octet_Trim.spec :=
  contract_of (E := octet_Trim.env) ⟨TIok_of tiOK, FnsOK_of ⟨⟨Tryd.func34, Tryd.call34⟩, trivial⟩, mixed⟩ (SpecsOK_of (E := octet_Trim.env) ⟨strings_Trim.contract, trivial⟩) Tryd.call34 rfl rfl fun K x r h => by
    rw [octet_Trim.body_eq]; exact h

def items_Split.spec : Dp.Spec := { args := (.scons .str .snil), res := (.tup (.scons (.list .str) (.scons (.int .i64) .snil))), own := false, F := fun K x => items_Split K x.1 }
def items_Split.hint : Dp.Hint := { n := 49, conds := [(20, [(.exit 1, { regs := [(1, (.ref .str)), (4, (.loc 1 false [])), (6, (.fn 33 (.scons (.ref .str) (.scons (.loc 2 false []) (.scons (.loc 1 false []) .snil))))), (7, .bool), (8, (.int .i64))], heap := [(.row .str), (.slw 0), (.int .i64)], app := [0] }), (.normal, { regs := [(1, (.ref .str)), (4, (.loc 1 false [])), (6, (.fn 33 (.scons (.ref .str) (.scons (.loc 2 false []) (.scons (.loc 1 false []) .snil))))), (7, .bool), (8, (.int .i64))], heap := [(.row .str), (.slw 0), (.int .i64)], app := [0] })]), (33, [(.normal, { regs := [(1, (.ref .str)), (4, (.loc 1 false [])), (6, (.fn 33 (.scons (.ref .str) (.scons (.loc 2 false []) (.scons (.loc 1 false []) .snil))))), (7, .bool), (8, (.int .i64))], heap := [(.row .str), (.slw 0), (.int .i64)], app := [0] })])], blocks := [(1, [(.normal, { regs := [(1, (.ref .str)), (4, (.loc 1 false [])), (6, (.fn 33 (.scons (.ref .str) (.scons (.loc 2 false []) (.scons (.loc 1 false []) .snil))))), (7, .bool), (8, (.int .i64))], heap := [(.row .str), (.slw 0), (.int .i64)], app := [0] })])], regions := [(11, [(.normal, { regs := [(1, (.ref .str)), (4, (.loc 1 false [])), (6, (.fn 33 (.scons (.ref .str) (.scons (.loc 2 false []) (.scons (.loc 1 false []) .snil))))), (7, .bool), (8, (.int .i64)), (9, (.int .u8)), (25, .bool)], heap := [(.row .str), (.slw 0), (.int .i64)], app := [0] })]), (13, [(.normal, { regs := [(1, (.ref .str)), (4, (.loc 1 false [])), (6, (.fn 33 (.scons (.ref .str) (.scons (.loc 2 false []) (.scons (.loc 1 false []) .snil))))), (7, .bool), (8, (.int .i64)), (33, .bool)], heap := [(.row .str), (.slw 0), (.int .i64)], app := [0] })]), (14, [(.normal, { regs := [(1, (.ref .str)), (4, (.loc 1 false [])), (6, (.fn 33 (.scons (.ref .str) (.scons (.loc 2 false []) (.scons (.loc 1 false []) .snil))))), (7, .bool), (8, (.int .i64))], heap := [(.row .str), (.slw 0), (.int .i64)], app := [0] })])], loops := [(6, { regs := [(1, (.ref .str)), (4, (.loc 1 false [])), (6, (.fn 33 (.scons (.ref .str) (.scons (.loc 2 false []) (.scons (.loc 1 false []) .snil))))), (7, .bool), (8, (.int .i64))], heap := [(.row .str), (.slw 0), (.int .i64)], app := [0] }, [(.exit 0, { regs := [(1, (.ref .str)), (4, (.loc 1 false [])), (6, (.fn 33 (.scons (.ref .str) (.scons (.loc 2 false []) (.scons (.loc 1 false []) .snil))))), (7, .bool)], heap := [(.row .str), (.slw 0), (.int .i64)], app := [0] })])], own := [4], imm := [1] }
def items_Split.hint33 : Dp.Hint := { n := 19 }
noncomputable def items_Split.env : Dp.Env := { ti := ti, gl := gl, fns := [(12, Tryd.f12, items_Split.hint), (33, Tryd.f33, items_Split.hint33)], specs := [(34, octet_Trim.spec)], K := 0 }
noncomputable def items_Split.r0 (K : Nat) : Nat → (((List UInt8) × ((Nat) × (((List UInt8) × ((Nat) × ((Nat) × (Unit)))) × ((Bool) × ((Int) × (Unit)))))) × ((List (List UInt8)) × ((Unit) × ((Int) × (Unit))))) → Option ((((List UInt8) × ((Nat) × (((List UInt8) × ((Nat) × ((Nat) × (Unit)))) × ((Bool) × (Unit))))) × ((List (List UInt8)) × ((Unit) × ((Int) × (Unit)))))) :=
  loopV [(.exit 0, { regs := [(1, (.ref .str)), (4, (.loc 1 false [])), (6, (.fn 33 (.scons (.ref .str) (.scons (.loc 2 false []) (.scons (.loc 1 false []) .snil))))), (7, .bool)], heap := [(.row .str), (.slw 0), (.int .i64)], app := [0] })] { regs := [(1, (.ref .str)), (4, (.loc 1 false [])), (6, (.fn 33 (.scons (.ref .str) (.scons (.loc 2 false []) (.scons (.loc 1 false []) .snil))))), (7, .bool), (8, (.int .i64))], heap := [(.row .str), (.slw 0), (.int .i64)], app := [0] } (interp (items_Split.env.at K) items_Split.hint (callF (items_Split.env.at K) 7) (Code.sub [1, 0, 1, 1, 1, 1, 1, 0, 1, 0, 0] (Tryd.f12.body.getD .skip)) _)
theorem items_Split.s0 (K n : Nat) (x : (((List UInt8) × ((Nat) × (((List UInt8) × ((Nat) × ((Nat) × (Unit)))) × ((Bool) × ((Int) × (Unit)))))) × ((List (List UInt8)) × ((Unit) × ((Int) × (Unit)))))) : items_Split.r0 K (n + 1) x = items_Split.t0 K (items_Split.r0 K n) x := by kernel_rfl
theorem items_Split.e0 (K n : Nat) : items_Split.r0 K n = items_Split.l0 K n := by
  induction n with
  | zero => funext x; rfl
  | succ n ih => funext x; rw [items_Split.s0, ih]; rfl
theorem items_Split.body_eq (K : Nat) (x : items_Split.spec.args.den) : body (items_Split.env.at K) 8 12 items_Split.spec x = items_Split.tr (items_Split.r0 K) K x.1 := by kernel_rfl
theorem items_Split.contract : Contract Tryd.prog gl 12 items_Split.spec :=
  contract_of (E := items_Split.env) ⟨TIok_of tiOK, FnsOK_of ⟨⟨Tryd.func12, Tryd.call12⟩, ⟨Tryd.func33, Tryd.call33⟩, trivial⟩, mixed⟩ (SpecsOK_of (E := items_Split.env) ⟨octet_Trim.contract, trivial⟩) Tryd.call12 rfl rfl fun K x r h => by
    rw [items_Split.body_eq, show items_Split.r0 K = items_Split.l0 K from funext (items_Split.e0 K)]; exact h

def octet_oneOf.spec : Dp.Spec := { args := (.scons .str .snil), res := (.fn 98 (.scons (.ref .str) .snil)), own := false, F := fun K x => octet_oneOf K x.1 }
def octet_oneOf.hint : Dp.Hint := { n := 4, imm := [1] }
noncomputable def octet_oneOf.env : Dp.Env := { ti := ti, gl := gl, fns := [(60, Tryd.f60, octet_oneOf.hint)], specs := [], K := 0 }
theorem octet_oneOf.body_eq (K : Nat) (x : octet_oneOf.spec.args.den) : body (octet_oneOf.env.at K) 8 60 octet_oneOf.spec x = octet_oneOf K x.1 := by kernel_rfl
theorem octet_oneOf.contract : Contract Tryd.prog gl 60 octet_oneOf.spec :=
  contract_of (E := octet_oneOf.env) ⟨TIok_of tiOK, FnsOK_of ⟨⟨Tryd.func60, Tryd.call60⟩, trivial⟩, mixed⟩ (SpecsOK_of (E := octet_oneOf.env) trivial) Tryd.call60 rfl rfl fun K x r h => by
    rw [octet_oneOf.body_eq]; exact h

def octet_is__from_c1.spec : Dp.Spec := { args := (.scons (.int .u8) (.scons (.hl (.scons (.fn 55 (.scons (.ref (.int .u8)) (.scons (.ref (.int .u8)) .snil))) .snil)) .snil)), res := .bool, own := false, F := fun K x => octet_is__from_c1 K x.1 x.2.1 }
def octet_is__from_c1.hint : Dp.Hint := { n := 17 }
noncomputable def octet_is__from_c1.env : Dp.Env := { ti := ti, gl := gl, fns := [(58, Tryd.f58, octet_is__from_c1.hint)], specs := [(55, octet_from_c1.spec)], K := 0 }
theorem octet_is__from_c1.body_eq (K : Nat) (x : octet_is__from_c1.spec.args.den) : body (octet_is__from_c1.env.at K) 8 58 octet_is__from_c1.spec x = octet_is__from_c1 K x.1 x.2.1 := by kernel_rfl
theorem octet_is__from_c1.contract : Contract Tryd.prog gl 58 octet_is__from_c1.spec :=
  contract_of (E := octet_is__from_c1.env) ⟨TIok_of tiOK, FnsOK_of ⟨⟨Tryd.func58, Tryd.call58⟩, trivial⟩, mixed⟩ (SpecsOK_of (E := octet_is__from_c1.env) ⟨octet_from_c1.contract, trivial⟩) Tryd.call58 rfl rfl fun K x r h => by
    rw [octet_is__from_c1.body_eq]; exact h

def octet_Digit.spec : Dp.Spec := { args := (.scons (.int .u8) .snil), res := .bool, own := false, F := fun K x => octet_Digit K x.1 }
def octet_Digit.hint : Dp.Hint := { n := 7 }
noncomputable def octet_Digit.env : Dp.Env := { ti := ti, gl := gl, fns := [(59, Tryd.f59, octet_Digit.hint)], specs := [(39, octet_from.spec), (58, octet_is__from_c1.spec)], K := 0 }
theorem octet_Digit.body_eq (K : Nat) (x : octet_Digit.spec.args.den) : body (octet_Digit.env.at K) 8 59 octet_Digit.spec x = octet_Digit K x.1 := by kernel_rfl
theorem octet_Digit.contract : Contract Tryd.prog gl 59 octet_Digit.spec :=
  contract_of (E := octet_Digit.env) ⟨TIok_of tiOK, FnsOK_of ⟨⟨Tryd.func59, Tryd.call59⟩, trivial⟩, mixed⟩ (SpecsOK_of (E := octet_Digit.env) ⟨octet_from.contract, octet_is__from_c1.contract, trivial⟩) Tryd.call59 rfl rfl fun K x r h => by
    rw [octet_Digit.body_eq]; exact h

def stringslite_IndexByte.spec : Dp.Spec := { args := (.scons .str (.scons (.int .u8) .snil)), res := (.int .i64), own := false, F := fun K x => stringslite_IndexByte K x.1 x.2.1 }
def stringslite_IndexByte.hint : Dp.Hint := { n := 8 }
noncomputable def stringslite_IndexByte.env : Dp.Env := { ti := ti, gl := gl, fns := [(117, Tryd.f117, stringslite_IndexByte.hint)], specs := [(130, ixb.spec)], K := 0 }
theorem stringslite_IndexByte.body_eq (K : Nat) (x : stringslite_IndexByte.spec.args.den) : body (stringslite_IndexByte.env.at K) 8 117 stringslite_IndexByte.spec x = stringslite_IndexByte K x.1 x.2.1 := by kernel_rfl
theorem stringslite_IndexByte.contract : Contract Tryd.prog gl 117 stringslite_IndexByte.spec :=
  contract_of (E := stringslite_IndexByte.env) ⟨TIok_of tiOK, FnsOK_of ⟨⟨Tryd.func117, Tryd.call117⟩, trivial⟩, mixed⟩ (SpecsOK_of (E := stringslite_IndexByte.env) ⟨ixb.contract, trivial⟩) Tryd.call117 rfl rfl fun K x r h => by
    rw [stringslite_IndexByte.body_eq]; exact h

def strings_IndexByte.spec : Dp.Spec := { args := (.scons .str (.scons (.int .u8) .snil)), res := (.int .i64), own := false, F := fun K x => strings_IndexByte K x.1 x.2.1 }
def strings_IndexByte.hint : Dp.Hint := { n := 8 }
noncomputable def strings_IndexByte.env : Dp.Env := { ti := ti, gl := gl, fns := [(99, Tryd.f99, strings_IndexByte.hint)], specs := [(117, stringslite_IndexByte.spec)], K := 0 }
theorem strings_IndexByte.body_eq (K : Nat) (x : strings_IndexByte.spec.args.den) : body (strings_IndexByte.env.at K) 8 99 strings_IndexByte.spec x = strings_IndexByte K x.1 x.2.1 := by kernel_rfl
theorem strings_IndexByte.contract : Contract Tryd.prog gl 99 strings_IndexByte.spec :=
  contract_of (E := strings_IndexByte.env) ⟨TIok_of tiOK, FnsOK_of ⟨⟨Tryd.func99, Tryd.call99⟩, trivial⟩, mixed⟩ (SpecsOK_of (E := strings_IndexByte.env) ⟨stringslite_IndexByte.contract, trivial⟩) Tryd.call99 rfl rfl fun K x r h => by
    rw [strings_IndexByte.body_eq]; exact h

def octet_oneOf_c1.spec : Dp.Spec := { args := (.scons (.int .u8) (.scons (.ref .str) .snil)), res := .bool, own := false, F := fun K x => octet_oneOf_c1 K x.1 x.2.1 }
def octet_oneOf_c1.hint : Dp.Hint := { n := 8 }
noncomputable def octet_oneOf_c1.env : Dp.Env := { ti := ti, gl := gl, fns := [(98, Tryd.f98, octet_oneOf_c1.hint)], specs := [(99, strings_IndexByte.spec)], K := 0 }
theorem octet_oneOf_c1.body_eq (K : Nat) (x : octet_oneOf_c1.spec.args.den) : body (octet_oneOf_c1.env.at K) 8 98 octet_oneOf_c1.spec x = octet_oneOf_c1 K x.1 x.2.1 := by kernel_rfl
theorem octet_oneOf_c1.contract : Contract Tryd.prog gl 98 octet_oneOf_c1.spec :=
  contract_of (E := octet_oneOf_c1.env) ⟨TIok_of tiOK, FnsOK_of ⟨⟨Tryd.func98, Tryd.call98⟩, trivial⟩, mixed⟩ (SpecsOK_of (E := octet_oneOf_c1.env) ⟨strings_IndexByte.contract, trivial⟩) Tryd.call98 rfl rfl fun K x r h => by
    rw [octet_oneOf_c1.body_eq]; exact h

def octet_is__Digit_from_c1_from_c1_oneOf_c1.spec : Dp.Spec := { args := (.scons (.int .u8) (.scons (.hl (.scons (.fn 59 .snil) (.scons (.fn 55 (.scons (.ref (.int .u8)) (.scons (.ref (.int .u8)) .snil))) (.scons (.fn 55 (.scons (.ref (.int .u8)) (.scons (.ref (.int .u8)) .snil))) (.scons (.fn 98 (.scons (.ref .str) .snil)) .snil))))) .snil)), res := .bool, own := false, F := fun K x => octet_is__Digit_from_c1_from_c1_oneOf_c1 K x.1 x.2.1 }
def octet_is__Digit_from_c1_from_c1_oneOf_c1.hint : Dp.Hint := { n := 17 }
noncomputable def octet_is__Digit_from_c1_from_c1_oneOf_c1.env : Dp.Env := { ti := ti, gl := gl, fns := [(58, Tryd.f58, octet_is__Digit_from_c1_from_c1_oneOf_c1.hint)], specs := [(55, octet_from_c1.spec), (59, octet_Digit.spec), (98, octet_oneOf_c1.spec)], K := 0 }
theorem octet_is__Digit_from_c1_from_c1_oneOf_c1.body_eq (K : Nat) (x : octet_is__Digit_from_c1_from_c1_oneOf_c1.spec.args.den) : body (octet_is__Digit_from_c1_from_c1_oneOf_c1.env.at K) 8 58 octet_is__Digit_from_c1_from_c1_oneOf_c1.spec x = octet_is__Digit_from_c1_from_c1_oneOf_c1 K x.1 x.2.1 := by kernel_rfl
theorem octet_is__Digit_from_c1_from_c1_oneOf_c1.contract : Contract Tryd.prog gl 58 octet_is__Digit_from_c1_from_c1_oneOf_c1.spec :=
  contract_of (E := octet_is__Digit_from_c1_from_c1_oneOf_c1.env) ⟨TIok_of tiOK, FnsOK_of ⟨⟨Tryd.func58, Tryd.call58⟩, trivial⟩, mixed⟩ (SpecsOK_of (E := octet_is__Digit_from_c1_from_c1_oneOf_c1.env) ⟨octet_from_c1.contract, octet_Digit.contract, octet_oneOf_c1.contract, trivial⟩) Tryd.call58 rfl rfl fun K x r h => by
    rw [octet_is__Digit_from_c1_from_c1_oneOf_c1.body_eq]; exact h

def octet_Token.spec : Dp.Spec := { args := (.scons (.int .u8) .snil), res := .bool, own := false, F := fun K x => octet_Token K x.1 }
def octet_Token.hint : Dp.Hint := { n := 9 }
noncomputable def octet_Token.env : Dp.Env := { ti := ti, gl := gl, fns := [(42, Tryd.f42, octet_Token.hint)], specs := [(39, octet_from.spec), (60, octet_oneOf.spec), (58, octet_is__Digit_from_c1_from_c1_oneOf_c1.spec)], K := 0 }
theorem octet_Token.body_eq (K : Nat) (x : octet_Token.spec.args.den) : body (octet_Token.env.at K) 8 42 octet_Token.spec x = octet_Token K x.1 := by kernel_rfl
theorem octet_Token.contract : Contract Tryd.prog gl 42 octet_Token.spec :=
  contract_of (E := octet_Token.env) ⟨TIok_of tiOK, FnsOK_of ⟨⟨Tryd.func42, Tryd.call42⟩, trivial⟩, mixed⟩ (SpecsOK_of (E := octet_Token.env) ⟨octet_from.contract, octet_oneOf.contract, octet_is__Digit_from_c1_from_c1_oneOf_c1.contract, trivial⟩) Tryd.call42 rfl rfl fun K x r h => by
    rw [octet_Token.body_eq]; exact h

def octet_all__Token.spec : Dp.Spec := { args := (.scons .str (.scons (.fn 42 .snil) .snil)), res := .bool, own := false, F := fun K x => octet_all__Token K x.1 }
def octet_all__Token.hint : Dp.Hint := { n := 19, loops := [(2, { regs := [(1, (.fn 42 .snil)), (8, (.list (.int .u8))), (9, (.int .i64)), (10, (.int .i64))] }, [(.exit 0, { regs := [] }), (.ret, { regs := [(4, .bool)] })])] }
noncomputable def octet_all__Token.env : Dp.Env := { ti := ti, gl := gl, fns := [(41, Tryd.f41, octet_all__Token.hint)], specs := [(42, octet_Token.spec)], K := 0 }
noncomputable def octet_all__Token.r0 (K : Nat) : Nat → (((Unit) × ((List (Int)) × ((Int) × ((Int) × (Unit))))) × (Unit)) → Option (((Unit) × (Unit)) ⊕ (((Bool) × (Unit)) × (Unit))) :=
  loopV [(.exit 0, { regs := [] }), (.ret, { regs := [(4, .bool)] })] { regs := [(1, (.fn 42 .snil)), (8, (.list (.int .u8))), (9, (.int .i64)), (10, (.int .i64))] } (interp (octet_all__Token.env.at K) octet_all__Token.hint (callF (octet_all__Token.env.at K) 7) (Code.sub [1, 0, 1, 0, 0] (Tryd.f41.body.getD .skip)) _)
theorem octet_all__Token.s0 (K n : Nat) (x : (((Unit) × ((List (Int)) × ((Int) × ((Int) × (Unit))))) × (Unit))) : octet_all__Token.r0 K (n + 1) x = octet_all__Token.t0 K (octet_all__Token.r0 K n) x := by kernel_rfl
theorem octet_all__Token.e0 (K n : Nat) : octet_all__Token.r0 K n = octet_all__Token.l0 K n := by
  induction n with
  | zero => funext x; rfl
  | succ n ih => funext x; rw [octet_all__Token.s0, ih]; rfl
theorem octet_all__Token.body_eq (K : Nat) (x : octet_all__Token.spec.args.den) : body (octet_all__Token.env.at K) 8 41 octet_all__Token.spec x = octet_all__Token.tr (octet_all__Token.r0 K) K x.1 := by kernel_rfl
theorem octet_all__Token.contract : Contract Tryd.prog gl 41 octet_all__Token.spec :=
  contract_of (E := octet_all__Token.env) ⟨TIok_of tiOK, FnsOK_of ⟨⟨Tryd.func41, Tryd.call41⟩, trivial⟩, mixed⟩ (SpecsOK_of (E := octet_all__Token.env) ⟨octet_Token.contract, trivial⟩) Tryd.call41 rfl rfl fun K x r h => by
    rw [octet_all__Token.body_eq, show octet_all__Token.r0 K = octet_all__Token.l0 K from funext (octet_all__Token.e0 K)]; exact h

def octet_IsToken.spec : Dp.Spec := { args := (.scons .str .snil), res := .bool, own := false, F := fun K x => octet_IsToken K x.1 }
def octet_IsToken.hint : Dp.Hint := { n := 9 }
noncomputable def octet_IsToken.env : Dp.Env := { ti := ti, gl := gl, fns := [(23, Tryd.f23, octet_IsToken.hint)], specs := [(41, octet_all__Token.spec)], K := 0 }
theorem octet_IsToken.body_eq (K : Nat) (x : octet_IsToken.spec.args.den) : body (octet_IsToken.env.at K) 8 23 octet_IsToken.spec x = octet_IsToken K x.1 := by kernel_rfl
theorem octet_IsToken.contract : Contract Tryd.prog gl 23 octet_IsToken.spec :=
  contract_of (E := octet_IsToken.env) ⟨TIok_of tiOK, FnsOK_of ⟨⟨Tryd.func23, Tryd.call23⟩, trivial⟩, mixed⟩ (SpecsOK_of (E := octet_IsToken.env) ⟨octet_all__Token.contract, trivial⟩) Tryd.call23 rfl rfl fun K x r h => by
    rw [octet_IsToken.body_eq]; exact h

def vary_Names.spec : Dp.Spec := { args := (.scons (.list (.scons .str (.scons .str .snil))) .snil), res := (.tup (.scons (.list .str) (.scons .bool .snil))), own := false, F := fun K x => vary_Names K x.1 }
def vary_Names.hint : Dp.Hint := { n := 59, conds := [(49, [(.normal, { regs := [(4, (.mapp 1)), (5, (.slw 2)), (14, (.list .str)), (15, (.int .i64)), (16, (.int .i64)), (27, (.list .str)), (28, (.int .i64)), (29, (.int .i64))], heap := [(.row .str), (.mobj .str (.int .i64)), (.row .str)], app := [2] })])], regions := [(12, [(.normal, { regs := [(4, (.mapp 1)), (5, (.slw 2)), (11, .str), (14, (.list .str)), (15, (.int .i64)), (16, (.int .i64)), (27, (.list .str)), (28, (.int .i64)), (29, (.int .i64)), (39, .bool)], heap := [(.row .str), (.mobj .str (.int .i64)), (.row .str)], app := [2] })])], loops := [(4, { regs := [(4, (.mapp 1)), (5, (.slw 2)), (14, (.list .str)), (15, (.int .i64)), (16, (.int .i64))], heap := [(.row .str), (.mobj .str (.int .i64)), (.row .str)], app := [2] }, [(.exit 0, { regs := [(5, (.slw 2))], heap := [(.row .str), (.mobj .str (.int .i64)), (.row .str)], app := [2] }), (.ret, { regs := [(2, (.slw 3)), (3, .bool)], heap := [(.row .str), (.mobj .str (.int .i64)), (.row .str), (.row .str)], app := [2] })]), (10, { regs := [(4, (.mapp 1)), (5, (.slw 2)), (14, (.list .str)), (15, (.int .i64)), (16, (.int .i64)), (27, (.list .str)), (28, (.int .i64)), (29, (.int .i64))], heap := [(.row .str), (.mobj .str (.int .i64)), (.row .str)], app := [2] }, [(.exit 2, { regs := [(4, (.mapp 1)), (5, (.slw 2)), (14, (.list .str)), (15, (.int .i64)), (16, (.int .i64))], heap := [(.row .str), (.mobj .str (.int .i64)), (.row .str)], app := [2] }), (.ret, { regs := [(2, (.slw 3)), (3, .bool)], heap := [(.row .str), (.mobj .str (.int .i64)), (.row .str), (.row .str)], app := [2] })])], own := [2, 2, 2, 5], frz := [57] }
noncomputable def vary_Names.env : Dp.Env := { ti := ti, gl := gl, muts := [(40, sortS.mspec)], fns := [(21, Tryd.f21, vary_Names.hint)], specs := [(19, octet_Lower.spec), (26, fields_All.spec), (12, items_Split.spec), (23, octet_IsToken.spec)], K := 0 }
noncomputable def vary_Names.r0 (K : Nat) : Nat → (((Unit) × ((Unit) × ((List (List UInt8)) × ((Int) × ((Int) × ((List (List UInt8)) × ((Int) × ((Int) × (Unit))))))))) × ((List (List UInt8)) × ((List ((List UInt8) × (Int))) × ((List (List UInt8)) × (Unit))))) → Option ((((Unit) × ((Unit) × ((List (List UInt8)) × ((Int) × ((Int) × (Unit)))))) × ((List (List UInt8)) × ((List ((List UInt8) × (Int))) × ((List (List UInt8)) × (Unit))))) ⊕ (((Unit) × ((Bool) × (Unit))) × ((List (List UInt8)) × ((List ((List UInt8) × (Int))) × ((List (List UInt8)) × ((List (List UInt8)) × (Unit))))))) :=
  loopV [(.exit 2, { regs := [(4, (.mapp 1)), (5, (.slw 2)), (14, (.list .str)), (15, (.int .i64)), (16, (.int .i64))], heap := [(.row .str), (.mobj .str (.int .i64)), (.row .str)], app := [2] }), (.ret, { regs := [(2, (.slw 3)), (3, .bool)], heap := [(.row .str), (.mobj .str (.int .i64)), (.row .str), (.row .str)], app := [2] })] { regs := [(4, (.mapp 1)), (5, (.slw 2)), (14, (.list .str)), (15, (.int .i64)), (16, (.int .i64)), (27, (.list .str)), (28, (.int .i64)), (29, (.int .i64))], heap := [(.row .str), (.mobj .str (.int .i64)), (.row .str)], app := [2] } (interp (vary_Names.env.at K) vary_Names.hint (callF (vary_Names.env.at K) 7) (Code.sub [1, 1, 1, 0, 1, 0, 0, 1, 1, 0, 0, 1, 1, 1, 1, 0, 0] (Tryd.f21.body.getD .skip)) _)
theorem vary_Names.s0 (K n : Nat) (x : (((Unit) × ((Unit) × ((List (List UInt8)) × ((Int) × ((Int) × ((List (List UInt8)) × ((Int) × ((Int) × (Unit))))))))) × ((List (List UInt8)) × ((List ((List UInt8) × (Int))) × ((List (List UInt8)) × (Unit)))))) : vary_Names.r0 K (n + 1) x = vary_Names.t0 K (vary_Names.r0 K n) x := by kernel_rfl
theorem vary_Names.e0 (K n : Nat) : vary_Names.r0 K n = vary_Names.l0 K n := by
  induction n with
  | zero => funext x; rfl
  | succ n ih => funext x; rw [vary_Names.s0, ih]; rfl
noncomputable def vary_Names.r1 (K : Nat) : Nat → (((Unit) × ((Unit) × ((List (List UInt8)) × ((Int) × ((Int) × (Unit)))))) × ((List (List UInt8)) × ((List ((List UInt8) × (Int))) × ((List (List UInt8)) × (Unit))))) → Option ((((Unit) × (Unit)) × ((List (List UInt8)) × ((List ((List UInt8) × (Int))) × ((List (List UInt8)) × (Unit))))) ⊕ (((Unit) × ((Bool) × (Unit))) × ((List (List UInt8)) × ((List ((List UInt8) × (Int))) × ((List (List UInt8)) × ((List (List UInt8)) × (Unit))))))) :=
  loopV [(.exit 0, { regs := [(5, (.slw 2))], heap := [(.row .str), (.mobj .str (.int .i64)), (.row .str)], app := [2] }), (.ret, { regs := [(2, (.slw 3)), (3, .bool)], heap := [(.row .str), (.mobj .str (.int .i64)), (.row .str), (.row .str)], app := [2] })] { regs := [(4, (.mapp 1)), (5, (.slw 2)), (14, (.list .str)), (15, (.int .i64)), (16, (.int .i64))], heap := [(.row .str), (.mobj .str (.int .i64)), (.row .str)], app := [2] } (interp (vary_Names.env.at K) vary_Names.hint (callF (vary_Names.env.at K) 7) (Code.sub [1, 1, 1, 0, 1, 0, 0] (Tryd.f21.body.getD .skip)) _)
theorem vary_Names.s1 (K n : Nat) (x : (((Unit) × ((Unit) × ((List (List UInt8)) × ((Int) × ((Int) × (Unit)))))) × ((List (List UInt8)) × ((List ((List UInt8) × (Int))) × ((List (List UInt8)) × (Unit)))))) : vary_Names.r1 K (n + 1) x = vary_Names.t1 (vary_Names.r0 K) K (vary_Names.r1 K n) x := by kernel_rfl
theorem vary_Names.e1 (K n : Nat) : vary_Names.r1 K n = vary_Names.l1 K n := by
  induction n with
  | zero => funext x; rfl
  | succ n ih => funext x; rw [vary_Names.s1, ih, show vary_Names.r0 K = vary_Names.l0 K from funext (vary_Names.e0 K)]; rfl
theorem vary_Names.body_eq (K : Nat) (x : vary_Names.spec.args.den) : body (vary_Names.env.at K) 8 21 vary_Names.spec x = vary_Names.tr (vary_Names.r1 K) K x.1 := by kernel_rfl
theorem vary_Names.contract : Contract Tryd.prog gl 21 vary_Names.spec :=
  contract_of (E := vary_Names.env) ⟨TIok_of tiOK, FnsOK_of ⟨⟨Tryd.func21, Tryd.call21⟩, trivial⟩, mixed⟩ (SpecsOK_of (E := vary_Names.env) ⟨octet_Lower.contract, fields_All.contract, items_Split.contract, octet_IsToken.contract, trivial⟩ ⟨sortS.turns, trivial⟩) Tryd.call21 rfl rfl fun K x r h => by
    rw [vary_Names.body_eq, show vary_Names.r1 K = vary_Names.l1 K from funext (vary_Names.e1 K)]; exact h

def vary_single.spec : Dp.Spec := { args := (.scons .str .snil), res := .str, own := false, F := fun K x => vary_single K x.1 }
def vary_single.hint : Dp.Hint := { n := 10, loops := [(2, { regs := [(0, .str)] }, [(.exit 0, { regs := [(0, .str)] })])] }
noncomputable def vary_single.env : Dp.Env := { ti := ti, gl := gl, fns := [(54, Tryd.f54, vary_single.hint)], specs := [(85, replaceS.spec), (86, containsS.spec)], K := 0 }
noncomputable def vary_single.r0 (K : Nat) : Nat → (((List UInt8) × (Unit)) × (Unit)) → Option ((((List UInt8) × (Unit)) × (Unit))) :=
  loopV [(.exit 0, { regs := [(0, .str)] })] { regs := [(0, .str)] } (interp (vary_single.env.at K) vary_single.hint (callF (vary_single.env.at K) 7) (Code.sub [1, 1, 0, 0, 0] (Tryd.f54.body.getD .skip)) _)
theorem vary_single.s0 (K n : Nat) (x : (((List UInt8) × (Unit)) × (Unit))) : vary_single.r0 K (n + 1) x = vary_single.t0 K (vary_single.r0 K n) x := by kernel_rfl
theorem vary_single.e0 (K n : Nat) : vary_single.r0 K n = vary_single.l0 K n := by
  induction n with
  | zero => funext x; rfl
  | succ n ih => funext x; rw [vary_single.s0, ih]; rfl
theorem vary_single.body_eq (K : Nat) (x : vary_single.spec.args.den) : body (vary_single.env.at K) 8 54 vary_single.spec x = vary_single.tr (vary_single.r0 K) K x.1 := by kernel_rfl
theorem vary_single.contract : Contract Tryd.prog gl 54 vary_single.spec :=
  contract_of (E := vary_single.env) ⟨TIok_of tiOK, FnsOK_of ⟨⟨Tryd.func54, Tryd.call54⟩, trivial⟩, mixed⟩ (SpecsOK_of (E := vary_single.env) ⟨replaceS.contract, containsS.contract, trivial⟩) Tryd.call54 rfl rfl fun K x r h => by
    rw [vary_single.body_eq, show vary_single.r0 K = vary_single.l0 K from funext (vary_single.e0 K)]; exact h

def items_Join.spec : Dp.Spec := { args := (.scons (.list .str) .snil), res := .str, own := false, F := fun K x => items_Join K x.1 }
def items_Join.hint : Dp.Hint := { n := 5 }
noncomputable def items_Join.env : Dp.Env := { ti := ti, gl := gl, fns := [(13, Tryd.f13, items_Join.hint)], specs := [(35, joinS.spec)], K := 0 }
theorem items_Join.body_eq (K : Nat) (x : items_Join.spec.args.den) : body (items_Join.env.at K) 8 13 items_Join.spec x = items_Join K x.1 := by kernel_rfl
theorem items_Join.contract : Contract Tryd.prog gl 13 items_Join.spec :=
  contract_of (E := items_Join.env) ⟨TIok_of tiOK, FnsOK_of ⟨⟨Tryd.func13, Tryd.call13⟩, trivial⟩, mixed⟩ (SpecsOK_of (E := items_Join.env) ⟨joinS.contract, trivial⟩) Tryd.call13 rfl rfl fun K x r h => by
    rw [items_Join.body_eq]; exact h

def vary_pick.spec : Dp.Spec := { args := (.scons .str (.scons (.list (.scons .str (.scons .str .snil))) .snil)), res := (.scons .str (.scons .bool (.scons .str .snil))), own := false, F := fun K x => vary_pick K x.1 x.2.1 }
def vary_pick.hint : Dp.Hint := { n := 31, loops := [(3, { regs := [(0, .str), (4, (.loc 0 false [])), (5, (.slw 2)), (11, (.slw 2)), (12, (.int .i64)), (13, (.int .i64))], heap := [(.scons .str (.scons .bool (.scons .str .snil))), (.row .str), (.row .str)], app := [2] }, [(.exit 0, { regs := [(0, .str), (4, (.loc 0 false [])), (5, (.slw 2))], heap := [(.scons .str (.scons .bool (.scons .str .snil))), (.row .str), (.row .str)], app := [2] })])] }
def vary_pick.hint26 : Dp.Hint := { n := 24, loops := [(3, { regs := [(5, (.slw 2)), (11, (.list (.scons .str (.scons .str .snil)))), (12, (.int .i64)), (13, (.int .i64))], heap := [(.scons .str (.scons .bool (.scons .str .snil))), (.row .str), (.row .str)], app := [2] }, [(.exit 0, { regs := [(5, (.slw 2))], heap := [(.scons .str (.scons .bool (.scons .str .snil))), (.row .str), (.row .str)], app := [2] })])], own := [4, 5] }
noncomputable def vary_pick.env : Dp.Env := { ti := ti, gl := gl, fns := [(38, Tryd.f38, vary_pick.hint), (26, Tryd.f26, vary_pick.hint26)], specs := [(44, fields_named.spec), (43, fields_chosen__named_c1.spec), (54, vary_single.spec), (13, items_Join.spec)], K := 0 }
noncomputable def vary_pick.r1 (K : Nat) : Nat → (((List UInt8) × ((Nat) × ((Unit) × ((Unit) × ((Int) × ((Int) × (Unit))))))) × (((List UInt8) × ((Bool) × ((List UInt8) × (Unit)))) × ((List (List UInt8)) × ((List (List UInt8)) × (Unit))))) → Option ((((List UInt8) × ((Nat) × ((Unit) × (Unit)))) × (((List UInt8) × ((Bool) × ((List UInt8) × (Unit)))) × ((List (List UInt8)) × ((List (List UInt8)) × (Unit)))))) :=
  loopV [(.exit 0, { regs := [(0, .str), (4, (.loc 0 false [])), (5, (.slw 2))], heap := [(.scons .str (.scons .bool (.scons .str .snil))), (.row .str), (.row .str)], app := [2] })] { regs := [(0, .str), (4, (.loc 0 false [])), (5, (.slw 2)), (11, (.slw 2)), (12, (.int .i64)), (13, (.int .i64))], heap := [(.scons .str (.scons .bool (.scons .str .snil))), (.row .str), (.row .str)], app := [2] } (interp (vary_pick.env.at K) vary_pick.hint (callF (vary_pick.env.at K) 7) (Code.sub [1, 1, 0, 1, 0, 0] (Tryd.f38.body.getD .skip)) _)
theorem vary_pick.s1 (K n : Nat) (x : (((List UInt8) × ((Nat) × ((Unit) × ((Unit) × ((Int) × ((Int) × (Unit))))))) × (((List UInt8) × ((Bool) × ((List UInt8) × (Unit)))) × ((List (List UInt8)) × ((List (List UInt8)) × (Unit)))))) : vary_pick.r1 K (n + 1) x = vary_pick.t1 K (vary_pick.r1 K n) x := by kernel_rfl
theorem vary_pick.e1 (K n : Nat) : vary_pick.r1 K n = vary_pick.l1 K n := by
  induction n with
  | zero => funext x; rfl
  | succ n ih => funext x; rw [vary_pick.s1, ih]; rfl
noncomputable def vary_pick.r0 (K : Nat) : Nat → (((Unit) × ((List ((List UInt8) × ((List UInt8) × (Unit)))) × ((Int) × ((Int) × (Unit))))) × (((List UInt8) × ((Bool) × ((List UInt8) × (Unit)))) × ((List (List UInt8)) × ((List (List UInt8)) × (Unit))))) → Option ((((Unit) × (Unit)) × (((List UInt8) × ((Bool) × ((List UInt8) × (Unit)))) × ((List (List UInt8)) × ((List (List UInt8)) × (Unit)))))) :=
  loopV [(.exit 0, { regs := [(5, (.slw 2))], heap := [(.scons .str (.scons .bool (.scons .str .snil))), (.row .str), (.row .str)], app := [2] })] { regs := [(5, (.slw 2)), (11, (.list (.scons .str (.scons .str .snil)))), (12, (.int .i64)), (13, (.int .i64))], heap := [(.scons .str (.scons .bool (.scons .str .snil))), (.row .str), (.row .str)], app := [2] } (interp (vary_pick.env.at K) vary_pick.hint26 (callF (vary_pick.env.at K) 6) (Code.sub [1, 1, 0, 1, 0, 0] (Tryd.f26.body.getD .skip)) _)
theorem vary_pick.s0 (K n : Nat) (x : (((Unit) × ((List ((List UInt8) × ((List UInt8) × (Unit)))) × ((Int) × ((Int) × (Unit))))) × (((List UInt8) × ((Bool) × ((List UInt8) × (Unit)))) × ((List (List UInt8)) × ((List (List UInt8)) × (Unit)))))) : vary_pick.r0 K (n + 1) x = vary_pick.t0 K (vary_pick.r0 K n) x := by kernel_rfl
theorem vary_pick.e0 (K n : Nat) : vary_pick.r0 K n = vary_pick.l0 K n := by
  induction n with
  | zero => funext x; rfl
  | succ n ih => funext x; rw [vary_pick.s0, ih]; rfl
theorem vary_pick.body_eq (K : Nat) (x : vary_pick.spec.args.den) : body (vary_pick.env.at K) 8 38 vary_pick.spec x = vary_pick.tr (vary_pick.r0 K) (vary_pick.r1 K) K x.1 x.2.1 := by kernel_rfl
theorem vary_pick.contract : Contract Tryd.prog gl 38 vary_pick.spec :=
  contract_of (E := vary_pick.env) ⟨TIok_of tiOK, FnsOK_of ⟨⟨Tryd.func38, Tryd.call38⟩, ⟨Tryd.func26, Tryd.call26⟩, trivial⟩, mixed⟩ (SpecsOK_of (E := vary_pick.env) ⟨fields_named.contract, fields_chosen__named_c1.contract, vary_single.contract, items_Join.contract, trivial⟩) Tryd.call38 rfl rfl fun K x r h => by
    rw [vary_pick.body_eq, show vary_pick.r0 K = vary_pick.l0 K from funext (vary_pick.e0 K), show vary_pick.r1 K = vary_pick.l1 K from funext (vary_pick.e1 K)]; exact h

def vary_Picks.spec : Dp.Spec := { args := (.scons (.list .str) (.scons (.list (.scons .str (.scons .str .snil))) .snil)), res := (.list (.scons .str (.scons .bool (.scons .str .snil)))), own := false, F := fun K x => vary_Picks K x.1 x.2.1 }
def vary_Picks.hint : Dp.Hint := { n := 22, loops := [(3, { regs := [(1, (.list (.scons .str (.scons .str .snil)))), (5, (.slw 1)), (8, (.list .str)), (9, (.int .i64)), (10, (.int .i64))], heap := [(.row (.scons .str (.scons .bool (.scons .str .snil)))), (.row (.scons .str (.scons .bool (.scons .str .snil))))], app := [1] }, [(.exit 0, { regs := [(5, (.slw 1))], heap := [(.row (.scons .str (.scons .bool (.scons .str .snil)))), (.row (.scons .str (.scons .bool (.scons .str .snil))))], app := [1] })])], own := [4, 5] }
noncomputable def vary_Picks.env : Dp.Env := { ti := ti, gl := gl, fns := [(17, Tryd.f17, vary_Picks.hint)], specs := [(38, vary_pick.spec)], K := 0 }
noncomputable def vary_Picks.r0 (K : Nat) : Nat → (((List ((List UInt8) × ((List UInt8) × (Unit)))) × ((Unit) × ((List (List UInt8)) × ((Int) × ((Int) × (Unit)))))) × ((List ((List UInt8) × ((Bool) × ((List UInt8) × (Unit))))) × ((List ((List UInt8) × ((Bool) × ((List UInt8) × (Unit))))) × (Unit)))) → Option ((((Unit) × (Unit)) × ((List ((List UInt8) × ((Bool) × ((List UInt8) × (Unit))))) × ((List ((List UInt8) × ((Bool) × ((List UInt8) × (Unit))))) × (Unit))))) :=
  loopV [(.exit 0, { regs := [(5, (.slw 1))], heap := [(.row (.scons .str (.scons .bool (.scons .str .snil)))), (.row (.scons .str (.scons .bool (.scons .str .snil))))], app := [1] })] { regs := [(1, (.list (.scons .str (.scons .str .snil)))), (5, (.slw 1)), (8, (.list .str)), (9, (.int .i64)), (10, (.int .i64))], heap := [(.row (.scons .str (.scons .bool (.scons .str .snil)))), (.row (.scons .str (.scons .bool (.scons .str .snil))))], app := [1] } (interp (vary_Picks.env.at K) vary_Picks.hint (callF (vary_Picks.env.at K) 7) (Code.sub [1, 1, 0, 1, 0, 0] (Tryd.f17.body.getD .skip)) _)
theorem vary_Picks.s0 (K n : Nat) (x : (((List ((List UInt8) × ((List UInt8) × (Unit)))) × ((Unit) × ((List (List UInt8)) × ((Int) × ((Int) × (Unit)))))) × ((List ((List UInt8) × ((Bool) × ((List UInt8) × (Unit))))) × ((List ((List UInt8) × ((Bool) × ((List UInt8) × (Unit))))) × (Unit))))) : vary_Picks.r0 K (n + 1) x = vary_Picks.t0 K (vary_Picks.r0 K n) x := by kernel_rfl
theorem vary_Picks.e0 (K n : Nat) : vary_Picks.r0 K n = vary_Picks.l0 K n := by
  induction n with
  | zero => funext x; rfl
  | succ n ih => funext x; rw [vary_Picks.s0, ih]; rfl
theorem vary_Picks.body_eq (K : Nat) (x : vary_Picks.spec.args.den) : body (vary_Picks.env.at K) 8 17 vary_Picks.spec x = vary_Picks.tr (vary_Picks.r0 K) K x.1 x.2.1 := by kernel_rfl
theorem vary_Picks.contract : Contract Tryd.prog gl 17 vary_Picks.spec :=
  contract_of (E := vary_Picks.env) ⟨TIok_of tiOK, FnsOK_of ⟨⟨Tryd.func17, Tryd.call17⟩, trivial⟩, mixed⟩ (SpecsOK_of (E := vary_Picks.env) ⟨vary_pick.contract, trivial⟩) Tryd.call17 rfl rfl fun K x r h => by
    rw [vary_Picks.body_eq, show vary_Picks.r0 K = vary_Picks.l0 K from funext (vary_Picks.e0 K)]; exact h

def depotref06_Same.spec : Dp.Spec := { args := (.scons (.list .str) (.scons (.list .str) .snil)), res := .bool, own := false, F := fun K x => depotref06_Same K x.1 x.2.1 }
def depotref06_Same.hint : Dp.Hint := { n := 26, loops := [(4, { regs := [(0, (.list .str)), (1, (.list .str)), (5, (.int .i64))] }, [(.exit 0, { regs := [] }), (.ret, { regs := [(4, .bool)] })])] }
noncomputable def depotref06_Same.env : Dp.Env := { ti := ti, gl := gl, fns := [(22, Tryd.f22, depotref06_Same.hint)], specs := [], K := 0 }
noncomputable def depotref06_Same.r0 (K : Nat) : Nat → (((List (List UInt8)) × ((List (List UInt8)) × ((Int) × (Unit)))) × (Unit)) → Option (((Unit) × (Unit)) ⊕ (((Bool) × (Unit)) × (Unit))) :=
  loopV [(.exit 0, { regs := [] }), (.ret, { regs := [(4, .bool)] })] { regs := [(0, (.list .str)), (1, (.list .str)), (5, (.int .i64))] } (interp (depotref06_Same.env.at K) depotref06_Same.hint (callF (depotref06_Same.env.at K) 7) (Code.sub [1, 1, 0, 1, 0, 0] (Tryd.f22.body.getD .skip)) _)
theorem depotref06_Same.s0 (K n : Nat) (x : (((List (List UInt8)) × ((List (List UInt8)) × ((Int) × (Unit)))) × (Unit))) : depotref06_Same.r0 K (n + 1) x = depotref06_Same.t0 K (depotref06_Same.r0 K n) x := by kernel_rfl
theorem depotref06_Same.e0 (K n : Nat) : depotref06_Same.r0 K n = depotref06_Same.l0 K n := by
  induction n with
  | zero => funext x; rfl
  | succ n ih => funext x; rw [depotref06_Same.s0, ih]; rfl
theorem depotref06_Same.body_eq (K : Nat) (x : depotref06_Same.spec.args.den) : body (depotref06_Same.env.at K) 8 22 depotref06_Same.spec x = depotref06_Same.tr (depotref06_Same.r0 K) K x.1 x.2.1 := by kernel_rfl
theorem depotref06_Same.contract : Contract Tryd.prog gl 22 depotref06_Same.spec :=
  contract_of (E := depotref06_Same.env) ⟨TIok_of tiOK, FnsOK_of ⟨⟨Tryd.func22, Tryd.call22⟩, trivial⟩, mixed⟩ (SpecsOK_of (E := depotref06_Same.env) trivial) Tryd.call22 rfl rfl fun K x r h => by
    rw [depotref06_Same.body_eq, show depotref06_Same.r0 K = depotref06_Same.l0 K from funext (depotref06_Same.e0 K)]; exact h

def depotref15_Same.spec : Dp.Spec := { args := (.scons (.list (.scons .str (.scons .bool (.scons .str .snil)))) (.scons (.list (.scons .str (.scons .bool (.scons .str .snil)))) .snil)), res := .bool, own := false, F := fun K x => depotref15_Same K x.1 x.2.1 }
def depotref15_Same.hint : Dp.Hint := { n := 26, loops := [(4, { regs := [(0, (.list (.scons .str (.scons .bool (.scons .str .snil))))), (1, (.list (.scons .str (.scons .bool (.scons .str .snil))))), (5, (.int .i64))] }, [(.exit 0, { regs := [] }), (.ret, { regs := [(4, .bool)] })])] }
noncomputable def depotref15_Same.env : Dp.Env := { ti := ti, gl := gl, fns := [(36, Tryd.f36, depotref15_Same.hint)], specs := [], K := 0 }
noncomputable def depotref15_Same.r0 (K : Nat) : Nat → (((List ((List UInt8) × ((Bool) × ((List UInt8) × (Unit))))) × ((List ((List UInt8) × ((Bool) × ((List UInt8) × (Unit))))) × ((Int) × (Unit)))) × (Unit)) → Option (((Unit) × (Unit)) ⊕ (((Bool) × (Unit)) × (Unit))) :=
  loopV [(.exit 0, { regs := [] }), (.ret, { regs := [(4, .bool)] })] { regs := [(0, (.list (.scons .str (.scons .bool (.scons .str .snil))))), (1, (.list (.scons .str (.scons .bool (.scons .str .snil))))), (5, (.int .i64))] } (interp (depotref15_Same.env.at K) depotref15_Same.hint (callF (depotref15_Same.env.at K) 7) (Code.sub [1, 1, 0, 1, 0, 0] (Tryd.f36.body.getD .skip)) _)
theorem depotref15_Same.s0 (K n : Nat) (x : (((List ((List UInt8) × ((Bool) × ((List UInt8) × (Unit))))) × ((List ((List UInt8) × ((Bool) × ((List UInt8) × (Unit))))) × ((Int) × (Unit)))) × (Unit))) : depotref15_Same.r0 K (n + 1) x = depotref15_Same.t0 K (depotref15_Same.r0 K n) x := by kernel_rfl
theorem depotref15_Same.e0 (K n : Nat) : depotref15_Same.r0 K n = depotref15_Same.l0 K n := by
  induction n with
  | zero => funext x; rfl
  | succ n ih => funext x; rw [depotref15_Same.s0, ih]; rfl
theorem depotref15_Same.body_eq (K : Nat) (x : depotref15_Same.spec.args.den) : body (depotref15_Same.env.at K) 8 36 depotref15_Same.spec x = depotref15_Same.tr (depotref15_Same.r0 K) K x.1 x.2.1 := by kernel_rfl
theorem depotref15_Same.contract : Contract Tryd.prog gl 36 depotref15_Same.spec :=
  contract_of (E := depotref15_Same.env) ⟨TIok_of tiOK, FnsOK_of ⟨⟨Tryd.func36, Tryd.call36⟩, trivial⟩, mixed⟩ (SpecsOK_of (E := depotref15_Same.env) trivial) Tryd.call36 rfl rfl fun K x r h => by
    rw [depotref15_Same.body_eq, show depotref15_Same.r0 K = depotref15_Same.l0 K from funext (depotref15_Same.e0 K)]; exact h

def vary_Match.spec : Dp.Spec := { args := (.scons (.list (.scons .str (.scons .bool (.scons .str .snil)))) (.scons (.list (.scons .str (.scons .str .snil))) .snil)), res := .bool, own := false, F := fun K x => vary_Match K x.1 x.2.1 }
def vary_Match.hint : Dp.Hint := { n := 20, loops := [(2, { regs := [(1, (.list (.scons .str (.scons .str .snil)))), (7, (.list (.scons .str (.scons .bool (.scons .str .snil))))), (8, (.int .i64)), (9, (.int .i64))] }, [(.exit 0, { regs := [] }), (.ret, { regs := [(4, .bool)] })])] }
noncomputable def vary_Match.env : Dp.Env := { ti := ti, gl := gl, fns := [(18, Tryd.f18, vary_Match.hint)], specs := [(38, vary_pick.spec)], K := 0 }
noncomputable def vary_Match.r0 (K : Nat) : Nat → (((List ((List UInt8) × ((List UInt8) × (Unit)))) × ((List ((List UInt8) × ((Bool) × ((List UInt8) × (Unit))))) × ((Int) × ((Int) × (Unit))))) × (Unit)) → Option (((Unit) × (Unit)) ⊕ (((Bool) × (Unit)) × (Unit))) :=
  loopV [(.exit 0, { regs := [] }), (.ret, { regs := [(4, .bool)] })] { regs := [(1, (.list (.scons .str (.scons .str .snil)))), (7, (.list (.scons .str (.scons .bool (.scons .str .snil))))), (8, (.int .i64)), (9, (.int .i64))] } (interp (vary_Match.env.at K) vary_Match.hint (callF (vary_Match.env.at K) 7) (Code.sub [1, 0, 1, 0, 0] (Tryd.f18.body.getD .skip)) _)
theorem vary_Match.s0 (K n : Nat) (x : (((List ((List UInt8) × ((List UInt8) × (Unit)))) × ((List ((List UInt8) × ((Bool) × ((List UInt8) × (Unit))))) × ((Int) × ((Int) × (Unit))))) × (Unit))) : vary_Match.r0 K (n + 1) x = vary_Match.t0 K (vary_Match.r0 K n) x := by kernel_rfl
theorem vary_Match.e0 (K n : Nat) : vary_Match.r0 K n = vary_Match.l0 K n := by
  induction n with
  | zero => funext x; rfl
  | succ n ih => funext x; rw [vary_Match.s0, ih]; rfl
theorem vary_Match.body_eq (K : Nat) (x : vary_Match.spec.args.den) : body (vary_Match.env.at K) 8 18 vary_Match.spec x = vary_Match.tr (vary_Match.r0 K) K x.1 x.2.1 := by kernel_rfl
theorem vary_Match.contract : Contract Tryd.prog gl 18 vary_Match.spec :=
  contract_of (E := vary_Match.env) ⟨TIok_of tiOK, FnsOK_of ⟨⟨Tryd.func18, Tryd.call18⟩, trivial⟩, mixed⟩ (SpecsOK_of (E := vary_Match.env) ⟨vary_pick.contract, trivial⟩) Tryd.call18 rfl rfl fun K x r h => by
    rw [vary_Match.body_eq, show vary_Match.r0 K = vary_Match.l0 K from funext (vary_Match.e0 K)]; exact h

def slices_Equal.spec : Dp.Spec := { args := (.scons (.list (.scons .str (.scons .bool (.scons .str .snil)))) (.scons (.list (.scons .str (.scons .bool (.scons .str .snil)))) .snil)), res := .bool, own := false, F := fun K x => slices_Equal K x.1 x.2.1 }
def slices_Equal.hint : Dp.Hint := { n := 26, loops := [(4, { regs := [(0, (.list (.scons .str (.scons .bool (.scons .str .snil))))), (1, (.list (.scons .str (.scons .bool (.scons .str .snil))))), (12, (.int .i64)), (13, (.int .i64))] }, [(.exit 0, { regs := [] }), (.ret, { regs := [(4, .bool)] })])] }
noncomputable def slices_Equal.env : Dp.Env := { ti := ti, gl := gl, fns := [(53, Tryd.f53, slices_Equal.hint)], specs := [], K := 0 }
noncomputable def slices_Equal.r0 (K : Nat) : Nat → (((List ((List UInt8) × ((Bool) × ((List UInt8) × (Unit))))) × ((List ((List UInt8) × ((Bool) × ((List UInt8) × (Unit))))) × ((Int) × ((Int) × (Unit))))) × (Unit)) → Option (((Unit) × (Unit)) ⊕ (((Bool) × (Unit)) × (Unit))) :=
  loopV [(.exit 0, { regs := [] }), (.ret, { regs := [(4, .bool)] })] { regs := [(0, (.list (.scons .str (.scons .bool (.scons .str .snil))))), (1, (.list (.scons .str (.scons .bool (.scons .str .snil))))), (12, (.int .i64)), (13, (.int .i64))] } (interp (slices_Equal.env.at K) slices_Equal.hint (callF (slices_Equal.env.at K) 7) (Code.sub [1, 1, 0, 1, 0, 0] (Tryd.f53.body.getD .skip)) _)
theorem slices_Equal.s0 (K n : Nat) (x : (((List ((List UInt8) × ((Bool) × ((List UInt8) × (Unit))))) × ((List ((List UInt8) × ((Bool) × ((List UInt8) × (Unit))))) × ((Int) × ((Int) × (Unit))))) × (Unit))) : slices_Equal.r0 K (n + 1) x = slices_Equal.t0 K (slices_Equal.r0 K n) x := by kernel_rfl
theorem slices_Equal.e0 (K n : Nat) : slices_Equal.r0 K n = slices_Equal.l0 K n := by
  induction n with
  | zero => funext x; rfl
  | succ n ih => funext x; rw [slices_Equal.s0, ih]; rfl
theorem slices_Equal.body_eq (K : Nat) (x : slices_Equal.spec.args.den) : body (slices_Equal.env.at K) 8 53 slices_Equal.spec x = slices_Equal.tr (slices_Equal.r0 K) K x.1 x.2.1 := by kernel_rfl
theorem slices_Equal.contract : Contract Tryd.prog gl 53 slices_Equal.spec :=
  contract_of (E := slices_Equal.env) ⟨TIok_of tiOK, FnsOK_of ⟨⟨Tryd.func53, Tryd.call53⟩, trivial⟩, mixed⟩ (SpecsOK_of (E := slices_Equal.env) trivial) Tryd.call53 rfl rfl fun K x r h => by
    rw [slices_Equal.body_eq, show slices_Equal.r0 K = slices_Equal.l0 K from funext (slices_Equal.e0 K)]; exact h

def vary_Same.spec : Dp.Spec := { args := (.scons (.list (.scons .str (.scons .bool (.scons .str .snil)))) (.scons (.list (.scons .str (.scons .bool (.scons .str .snil)))) .snil)), res := .bool, own := false, F := fun K x => vary_Same K x.1 x.2.1 }
def vary_Same.hint : Dp.Hint := { n := 8 }
noncomputable def vary_Same.env : Dp.Env := { ti := ti, gl := gl, fns := [(37, Tryd.f37, vary_Same.hint)], specs := [(53, slices_Equal.spec)], K := 0 }
theorem vary_Same.body_eq (K : Nat) (x : vary_Same.spec.args.den) : body (vary_Same.env.at K) 8 37 vary_Same.spec x = vary_Same K x.1 x.2.1 := by kernel_rfl
theorem vary_Same.contract : Contract Tryd.prog gl 37 vary_Same.spec :=
  contract_of (E := vary_Same.env) ⟨TIok_of tiOK, FnsOK_of ⟨⟨Tryd.func37, Tryd.call37⟩, trivial⟩, mixed⟩ (SpecsOK_of (E := vary_Same.env) ⟨slices_Equal.contract, trivial⟩) Tryd.call37 rfl rfl fun K x r h => by
    rw [vary_Same.body_eq]; exact h

def depotlaw15_varies.spec : Dp.Spec := { args := .snil, res := .bool, own := false, F := fun K x => depotlaw15_varies K }
def depotlaw15_varies.hint : Dp.Hint := { n := 57 }
noncomputable def depotlaw15_varies.env : Dp.Env := { ti := ti, gl := gl, fns := [(16, Tryd.f16, depotlaw15_varies.hint)], specs := [(21, vary_Names.spec), (17, vary_Picks.spec), (22, depotref06_Same.spec), (36, depotref15_Same.spec), (18, vary_Match.spec), (37, vary_Same.spec)], K := 0 }
theorem depotlaw15_varies.body_eq (K : Nat) (x : depotlaw15_varies.spec.args.den) : body (depotlaw15_varies.env.at K) 8 16 depotlaw15_varies.spec x = depotlaw15_varies K := by kernel_rfl
theorem depotlaw15_varies.contract : Contract Tryd.prog gl 16 depotlaw15_varies.spec :=
  contract_of (E := depotlaw15_varies.env) ⟨TIok_of tiOK, FnsOK_of ⟨⟨Tryd.func16, Tryd.call16⟩, trivial⟩, mixed⟩ (SpecsOK_of (E := depotlaw15_varies.env) ⟨vary_Names.contract, vary_Picks.contract, depotref06_Same.contract, depotref15_Same.contract, vary_Match.contract, vary_Same.contract, trivial⟩) Tryd.call16 rfl rfl fun K x r h => by
    rw [depotlaw15_varies.body_eq]; exact h

def depotlaw15_VaryOwn.spec : Dp.Spec := { args := (.scons (.list .str) (.scons (.list (.scons .str (.scons .str .snil))) (.scons (.scons .str (.scons .str .snil)) .snil))), res := .bool, own := false, F := fun K x => depotlaw15_VaryOwn K x.1 x.2.1 x.2.2.1 }
def depotlaw15_VaryOwn.hint : Dp.Hint := { n := 86, regions := [(1, [(.normal, { regs := [(0, (.list .str)), (1, (.list (.scons .str (.scons .str .snil)))), (5, (.ref (.scons .str (.scons .str .snil)))), (25, .bool)] })]), (4, [(.normal, { regs := [(0, (.list .str)), (1, (.list (.scons .str (.scons .str .snil)))), (5, (.ref (.scons .str (.scons .str .snil)))), (7, (.list (.scons .str (.scons .bool (.scons .str .snil))))), (45, .bool)] })])], loops := [(8, { regs := [(0, (.list .str)), (1, (.list (.scons .str (.scons .str .snil)))), (5, (.ref (.scons .str (.scons .str .snil)))), (7, (.list (.scons .str (.scons .bool (.scons .str .snil))))), (8, (.slw 0)), (9, (.int .i64))], heap := [(.row (.scons .str (.scons .str .snil)))], app := [0] }, [(.exit 0, { regs := [(0, (.list .str)), (5, (.ref (.scons .str (.scons .str .snil)))), (7, (.list (.scons .str (.scons .bool (.scons .str .snil))))), (8, (.slw 0))], heap := [(.row (.scons .str (.scons .str .snil)))], app := [0] })]), (14, { regs := [(0, (.list .str)), (5, (.ref (.scons .str (.scons .str .snil)))), (7, (.list (.scons .str (.scons .bool (.scons .str .snil))))), (8, (.slw 0)), (11, (.int .i64))], heap := [(.row (.scons .str (.scons .str .snil)))], app := [0] }, [(.exit 2, { regs := [(7, (.list (.scons .str (.scons .bool (.scons .str .snil))))), (8, (.slw 0))], heap := [(.row (.scons .str (.scons .str .snil)))], app := [0] }), (.ret, { regs := [(6, .bool)], heap := [(.row (.scons .str (.scons .str .snil)))], app := [0] })])], own := [47], imm := [5] }
noncomputable def depotlaw15_VaryOwn.env : Dp.Env := { ti := ti, gl := gl, fns := [(5, Tryd.f5, depotlaw15_VaryOwn.hint)], specs := [(14, depotref09_Few.spec), (15, depotref15_FewNames.spec), (19, octet_Lower.spec), (20, octet_Same.spec), (17, vary_Picks.spec), (18, vary_Match.spec), (16, depotlaw15_varies.spec)], K := 0 }
noncomputable def depotlaw15_VaryOwn.r1 (K : Nat) : Nat → (((List (List UInt8)) × (((List UInt8) × ((List UInt8) × (Unit))) × ((List ((List UInt8) × ((Bool) × ((List UInt8) × (Unit))))) × ((Unit) × ((Int) × (Unit)))))) × ((List ((List UInt8) × ((List UInt8) × (Unit)))) × (Unit))) → Option ((((List ((List UInt8) × ((Bool) × ((List UInt8) × (Unit))))) × ((Unit) × (Unit))) × ((List ((List UInt8) × ((List UInt8) × (Unit)))) × (Unit))) ⊕ (((Bool) × (Unit)) × ((List ((List UInt8) × ((List UInt8) × (Unit)))) × (Unit)))) :=
  loopV [(.exit 2, { regs := [(7, (.list (.scons .str (.scons .bool (.scons .str .snil))))), (8, (.slw 0))], heap := [(.row (.scons .str (.scons .str .snil)))], app := [0] }), (.ret, { regs := [(6, .bool)], heap := [(.row (.scons .str (.scons .str .snil)))], app := [0] })] { regs := [(0, (.list .str)), (5, (.ref (.scons .str (.scons .str .snil)))), (7, (.list (.scons .str (.scons .bool (.scons .str .snil))))), (8, (.slw 0)), (11, (.int .i64))], heap := [(.row (.scons .str (.scons .str .snil)))], app := [0] } (interp (depotlaw15_VaryOwn.env.at K) depotlaw15_VaryOwn.hint (callF (depotlaw15_VaryOwn.env.at K) 7) (Code.sub [1, 1, 1, 1, 1, 1, 0, 1, 0, 0] (Tryd.f5.body.getD .skip)) _)
theorem depotlaw15_VaryOwn.s1 (K n : Nat) (x : (((List (List UInt8)) × (((List UInt8) × ((List UInt8) × (Unit))) × ((List ((List UInt8) × ((Bool) × ((List UInt8) × (Unit))))) × ((Unit) × ((Int) × (Unit)))))) × ((List ((List UInt8) × ((List UInt8) × (Unit)))) × (Unit)))) : depotlaw15_VaryOwn.r1 K (n + 1) x = depotlaw15_VaryOwn.t1 K (depotlaw15_VaryOwn.r1 K n) x := by kernel_rfl
theorem depotlaw15_VaryOwn.e1 (K n : Nat) : depotlaw15_VaryOwn.r1 K n = depotlaw15_VaryOwn.l1 K n := by
  induction n with
  | zero => funext x; rfl
  | succ n ih => funext x; rw [depotlaw15_VaryOwn.s1, ih]; rfl
noncomputable def depotlaw15_VaryOwn.r0 (K : Nat) : Nat → (((List (List UInt8)) × ((List ((List UInt8) × ((List UInt8) × (Unit)))) × (((List UInt8) × ((List UInt8) × (Unit))) × ((List ((List UInt8) × ((Bool) × ((List UInt8) × (Unit))))) × ((Unit) × ((Int) × (Unit))))))) × ((List ((List UInt8) × ((List UInt8) × (Unit)))) × (Unit))) → Option ((((List (List UInt8)) × (((List UInt8) × ((List UInt8) × (Unit))) × ((List ((List UInt8) × ((Bool) × ((List UInt8) × (Unit))))) × ((Unit) × (Unit))))) × ((List ((List UInt8) × ((List UInt8) × (Unit)))) × (Unit)))) :=
  loopV [(.exit 0, { regs := [(0, (.list .str)), (5, (.ref (.scons .str (.scons .str .snil)))), (7, (.list (.scons .str (.scons .bool (.scons .str .snil))))), (8, (.slw 0))], heap := [(.row (.scons .str (.scons .str .snil)))], app := [0] })] { regs := [(0, (.list .str)), (1, (.list (.scons .str (.scons .str .snil)))), (5, (.ref (.scons .str (.scons .str .snil)))), (7, (.list (.scons .str (.scons .bool (.scons .str .snil))))), (8, (.slw 0)), (9, (.int .i64))], heap := [(.row (.scons .str (.scons .str .snil)))], app := [0] } (interp (depotlaw15_VaryOwn.env.at K) depotlaw15_VaryOwn.hint (callF (depotlaw15_VaryOwn.env.at K) 7) (Code.sub [1, 1, 1, 1, 1, 0, 1, 0, 0] (Tryd.f5.body.getD .skip)) _)
theorem depotlaw15_VaryOwn.s0 (K n : Nat) (x : (((List (List UInt8)) × ((List ((List UInt8) × ((List UInt8) × (Unit)))) × (((List UInt8) × ((List UInt8) × (Unit))) × ((List ((List UInt8) × ((Bool) × ((List UInt8) × (Unit))))) × ((Unit) × ((Int) × (Unit))))))) × ((List ((List UInt8) × ((List UInt8) × (Unit)))) × (Unit)))) : depotlaw15_VaryOwn.r0 K (n + 1) x = depotlaw15_VaryOwn.t0 K (depotlaw15_VaryOwn.r0 K n) x := by kernel_rfl
theorem depotlaw15_VaryOwn.e0 (K n : Nat) : depotlaw15_VaryOwn.r0 K n = depotlaw15_VaryOwn.l0 K n := by
  induction n with
  | zero => funext x; rfl
  | succ n ih => funext x; rw [depotlaw15_VaryOwn.s0, ih]; rfl
theorem depotlaw15_VaryOwn.body_eq (K : Nat) (x : depotlaw15_VaryOwn.spec.args.den) : body (depotlaw15_VaryOwn.env.at K) 8 5 depotlaw15_VaryOwn.spec x = depotlaw15_VaryOwn.tr (depotlaw15_VaryOwn.r0 K) (depotlaw15_VaryOwn.r1 K) K x.1 x.2.1 x.2.2.1 := by kernel_rfl
theorem depotlaw15_VaryOwn.contract : Contract Tryd.prog gl 5 depotlaw15_VaryOwn.spec :=
  contract_of (E := depotlaw15_VaryOwn.env) ⟨TIok_of tiOK, FnsOK_of ⟨⟨Tryd.func5, Tryd.call5⟩, trivial⟩, mixed⟩ (SpecsOK_of (E := depotlaw15_VaryOwn.env) ⟨depotref09_Few.contract, depotref15_FewNames.contract, octet_Lower.contract, octet_Same.contract, vary_Picks.contract, vary_Match.contract, depotlaw15_varies.contract, trivial⟩) Tryd.call5 rfl rfl fun K x r h => by
    rw [depotlaw15_VaryOwn.body_eq, show depotlaw15_VaryOwn.r0 K = depotlaw15_VaryOwn.l0 K from funext (depotlaw15_VaryOwn.e0 K), show depotlaw15_VaryOwn.r1 K = depotlaw15_VaryOwn.l1 K from funext (depotlaw15_VaryOwn.e1 K)]; exact h

def depotlaw15_VaryOrder.spec : Dp.Spec := { args := (.scons (.list (.scons .str (.scons .str .snil))) .snil), res := .bool, own := false, F := fun K x => depotlaw15_VaryOrder K x.1 }
def depotlaw15_VaryOrder.hint : Dp.Hint := { n := 99, regions := [(10, [(.normal, { regs := [(3, (.list .str)), (57, .bool)], heap := [(.row (.scons .str (.scons .str .snil)))], app := [0] })]), (15, [(.normal, { regs := [(3, (.list .str)), (9, (.int .i64)), (97, .bool)], heap := [(.row (.scons .str (.scons .str .snil)))], app := [0] })])], loops := [(6, { regs := [(0, (.list (.scons .str (.scons .str .snil)))), (3, (.list .str)), (4, .bool), (5, (.slw 0)), (6, (.int .i64))], heap := [(.row (.scons .str (.scons .str .snil)))], app := [0] }, [(.exit 0, { regs := [(0, (.list (.scons .str (.scons .str .snil)))), (3, (.list .str)), (4, .bool), (5, (.slw 0))], heap := [(.row (.scons .str (.scons .str .snil)))], app := [0] })]), (13, { regs := [(3, (.list .str)), (9, (.int .i64))], heap := [(.row (.scons .str (.scons .str .snil)))], app := [0] }, [(.exit 2, { regs := [], heap := [(.row (.scons .str (.scons .str .snil)))], app := [0] }), (.ret, { regs := [(2, .bool)], heap := [(.row (.scons .str (.scons .str .snil)))], app := [0] })])], own := [5], frz := [37] }
noncomputable def depotlaw15_VaryOrder.env : Dp.Env := { ti := ti, gl := gl, fns := [(6, Tryd.f6, depotlaw15_VaryOrder.hint)], specs := [(14, depotref09_Few.spec), (19, octet_Lower.spec), (23, octet_IsToken.spec), (21, vary_Names.spec), (22, depotref06_Same.spec), (16, depotlaw15_varies.spec)], K := 0 }
noncomputable def depotlaw15_VaryOrder.r1 (K : Nat) : Nat → (((List (List UInt8)) × ((Int) × (Unit))) × ((List ((List UInt8) × ((List UInt8) × (Unit)))) × (Unit))) → Option (((Unit) × ((List ((List UInt8) × ((List UInt8) × (Unit)))) × (Unit))) ⊕ (((Bool) × (Unit)) × ((List ((List UInt8) × ((List UInt8) × (Unit)))) × (Unit)))) :=
  loopV [(.exit 2, { regs := [], heap := [(.row (.scons .str (.scons .str .snil)))], app := [0] }), (.ret, { regs := [(2, .bool)], heap := [(.row (.scons .str (.scons .str .snil)))], app := [0] })] { regs := [(3, (.list .str)), (9, (.int .i64))], heap := [(.row (.scons .str (.scons .str .snil)))], app := [0] } (interp (depotlaw15_VaryOrder.env.at K) depotlaw15_VaryOrder.hint (callF (depotlaw15_VaryOrder.env.at K) 7) (Code.sub [1, 1, 1, 1, 1, 1, 1, 0, 1, 0, 0] (Tryd.f6.body.getD .skip)) _)
theorem depotlaw15_VaryOrder.s1 (K n : Nat) (x : (((List (List UInt8)) × ((Int) × (Unit))) × ((List ((List UInt8) × ((List UInt8) × (Unit)))) × (Unit)))) : depotlaw15_VaryOrder.r1 K (n + 1) x = depotlaw15_VaryOrder.t1 K (depotlaw15_VaryOrder.r1 K n) x := by kernel_rfl
theorem depotlaw15_VaryOrder.e1 (K n : Nat) : depotlaw15_VaryOrder.r1 K n = depotlaw15_VaryOrder.l1 K n := by
  induction n with
  | zero => funext x; rfl
  | succ n ih => funext x; rw [depotlaw15_VaryOrder.s1, ih]; rfl
noncomputable def depotlaw15_VaryOrder.r0 (K : Nat) : Nat → (((List ((List UInt8) × ((List UInt8) × (Unit)))) × ((List (List UInt8)) × ((Bool) × ((Unit) × ((Int) × (Unit)))))) × ((List ((List UInt8) × ((List UInt8) × (Unit)))) × (Unit))) → Option ((((List ((List UInt8) × ((List UInt8) × (Unit)))) × ((List (List UInt8)) × ((Bool) × ((Unit) × (Unit))))) × ((List ((List UInt8) × ((List UInt8) × (Unit)))) × (Unit)))) :=
  loopV [(.exit 0, { regs := [(0, (.list (.scons .str (.scons .str .snil)))), (3, (.list .str)), (4, .bool), (5, (.slw 0))], heap := [(.row (.scons .str (.scons .str .snil)))], app := [0] })] { regs := [(0, (.list (.scons .str (.scons .str .snil)))), (3, (.list .str)), (4, .bool), (5, (.slw 0)), (6, (.int .i64))], heap := [(.row (.scons .str (.scons .str .snil)))], app := [0] } (interp (depotlaw15_VaryOrder.env.at K) depotlaw15_VaryOrder.hint (callF (depotlaw15_VaryOrder.env.at K) 7) (Code.sub [1, 1, 1, 1, 0, 1, 0, 0] (Tryd.f6.body.getD .skip)) _)
theorem depotlaw15_VaryOrder.s0 (K n : Nat) (x : (((List ((List UInt8) × ((List UInt8) × (Unit)))) × ((List (List UInt8)) × ((Bool) × ((Unit) × ((Int) × (Unit)))))) × ((List ((List UInt8) × ((List UInt8) × (Unit)))) × (Unit)))) : depotlaw15_VaryOrder.r0 K (n + 1) x = depotlaw15_VaryOrder.t0 K (depotlaw15_VaryOrder.r0 K n) x := by kernel_rfl
theorem depotlaw15_VaryOrder.e0 (K n : Nat) : depotlaw15_VaryOrder.r0 K n = depotlaw15_VaryOrder.l0 K n := by
  induction n with
  | zero => funext x; rfl
  | succ n ih => funext x; rw [depotlaw15_VaryOrder.s0, ih]; rfl
theorem depotlaw15_VaryOrder.body_eq (K : Nat) (x : depotlaw15_VaryOrder.spec.args.den) : body (depotlaw15_VaryOrder.env.at K) 8 6 depotlaw15_VaryOrder.spec x = depotlaw15_VaryOrder.tr (depotlaw15_VaryOrder.r0 K) (depotlaw15_VaryOrder.r1 K) K x.1 := by kernel_rfl
theorem depotlaw15_VaryOrder.contract : Contract Tryd.prog gl 6 depotlaw15_VaryOrder.spec :=
  contract_of (E := depotlaw15_VaryOrder.env) ⟨TIok_of tiOK, FnsOK_of ⟨⟨Tryd.func6, Tryd.call6⟩, trivial⟩, mixed⟩ (SpecsOK_of (E := depotlaw15_VaryOrder.env) ⟨depotref09_Few.contract, octet_Lower.contract, octet_IsToken.contract, vary_Names.contract, depotref06_Same.contract, depotlaw15_varies.contract, trivial⟩) Tryd.call6 rfl rfl fun K x r h => by
    rw [depotlaw15_VaryOrder.body_eq, show depotlaw15_VaryOrder.r0 K = depotlaw15_VaryOrder.l0 K from funext (depotlaw15_VaryOrder.e0 K), show depotlaw15_VaryOrder.r1 K = depotlaw15_VaryOrder.l1 K from funext (depotlaw15_VaryOrder.e1 K)]; exact h

end Go.Proofs.X