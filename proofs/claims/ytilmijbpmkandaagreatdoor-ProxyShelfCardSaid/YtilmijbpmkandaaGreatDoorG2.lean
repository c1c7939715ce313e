/- That the machine comes to the plain functions. No condition. -/
import Derived.Test.YtilmijbpmkandaaGreatDoorG1
import Derived.Test.YtilmijbpmkandaaGreatDoorC1
import Derived.Test.YtilmijbpmkandaaGreatDoorChecked
import Derived.KernelRfl
import Derived.Eval
set_option linter.unusedVariables false
set_option maxRecDepth 20000
namespace Go.Proofs.X
open Go Go.Dp
abbrev Kq0 : Dp.Ty := .scons .str (.scons (.list (.int .u8)) .snil)
abbrev Kq1 : Dp.Ty := .scons .nilp (.scons (.slw 2) (.scons (.int .i64) .snil))
abbrev Kq2 : Dp.Ty := .scons (.int .i64) (.scons (.mapp 0) .snil)
abbrev Kq3 : Dp.Ty := .scons (.int .i64) (.scons (.int .i64) (.scons (.int .i64) .snil))
abbrev Kq4 : Dp.Ty := .scons (.scons (.int .i64) Kq3) (.scons (.int .i64) (.scons (.int .i64) (.scons (.int .i64) (.scons (.int .i64) Kq3))))

def ti : List (Nat × TI) := [(1, ⟨.fn, 1, 8, .nilf⟩),
  (2, ⟨.int .i64, 1, 8, (.int .i64)⟩),
  (3, ⟨.int .i64, 1, 8, (.int .i64)⟩),
  (4, ⟨.bool, 1, 1, .bool⟩),
  (5, ⟨.int .u8, 1, 1, (.int .u8)⟩),
  (9, ⟨.str, 1, 16, .str⟩),
  (22, ⟨.slice 32, 1, 24, (.list Kq0)⟩),
  (24, ⟨.ptr 53, 1, 8, .nilp⟩),
  (26, ⟨.ptr 29, 1, 8, .nilp⟩),
  (27, ⟨.ptr 85, 1, 8, .nilp⟩),
  (28, ⟨.struct [(27, 0), (22, 1), (3, 2)], 3, 40, (.scons .nilp (.scons (.list Kq0) (.scons (.int .i64) .snil)))⟩),
  (29, ⟨.struct [(27, 0), (22, 1), (3, 2)], 3, 40, (.scons .nilp (.scons (.list Kq0) (.scons (.int .i64) .snil)))⟩),
  (30, ⟨.slice 5, 1, 24, (.list (.int .u8))⟩),
  (31, ⟨.struct [(9, 0), (30, 1)], 2, 40, Kq0⟩),
  (32, ⟨.struct [(9, 0), (30, 1)], 2, 40, Kq0⟩),
  (33, ⟨.int .i64, 1, 8, (.int .i64)⟩),
  (51, ⟨.map 9 30, 1, 8, .nilm⟩),
  (52, ⟨.struct [(3, 0), (51, 1)], 2, 16, (.scons (.int .i64) (.scons .nilm .snil))⟩),
  (53, ⟨.struct [(3, 0), (51, 1)], 2, 16, (.scons (.int .i64) (.scons .nilm .snil))⟩),
  (72, ⟨.struct [(3, 0), (3, 1), (3, 2), (3, 3)], 4, 32, (.scons (.int .i64) Kq3)⟩),
  (73, ⟨.struct [(3, 0), (3, 1), (3, 2), (3, 3)], 4, 32, (.scons (.int .i64) Kq3)⟩),
  (74, ⟨.struct [(73, 0), (3, 4), (3, 5), (3, 6), (3, 7), (3, 8), (3, 9), (3, 10)], 11, 88, Kq4⟩),
  (75, ⟨.struct [(73, 0), (3, 4), (3, 5), (3, 6), (3, 7), (3, 8), (3, 9), (3, 10)], 11, 88, Kq4⟩),
  (76, ⟨.ptr 189, 1, 8, .nilp⟩),
  (77, ⟨.ptr 129, 1, 8, .nilp⟩),
  (78, ⟨.ptr 119, 1, 8, .nilp⟩),
  (79, ⟨.ptr 141, 1, 8, .nilp⟩),
  (80, ⟨.struct [(3, 0), (3, 1), (3, 2), (3, 3)], 4, 32, (.scons (.int .i64) Kq3)⟩),
  (81, ⟨.struct [(3, 0), (3, 1), (3, 2), (3, 3)], 4, 32, (.scons (.int .i64) Kq3)⟩),
  (82, ⟨.ptr 355, 1, 8, .nilp⟩),
  (83, ⟨.slice 97, 1, 24, (.list Kq3)⟩),
  (84, ⟨.struct [(75, 0), (76, 11), (77, 12), (78, 13), (79, 14), (81, 15), (82, 19), (3, 20), (3, 21), (83, 22), (4, 23)], 24, 208, (.scons Kq4 (.scons .nilp (.scons .nilp (.scons .nilp (.scons .nilp (.scons (.scons (.int .i64) Kq3) (.scons .nilp (.scons (.int .i64) (.scons (.int .i64) (.scons (.list Kq3) (.scons .bool .snil)))))))))))⟩),
  (85, ⟨.struct [(75, 0), (76, 11), (77, 12), (78, 13), (79, 14), (81, 15), (82, 19), (3, 20), (3, 21), (83, 22), (4, 23)], 24, 208, (.scons Kq4 (.scons .nilp (.scons .nilp (.scons .nilp (.scons .nilp (.scons (.scons (.int .i64) Kq3) (.scons .nilp (.scons (.int .i64) (.scons (.int .i64) (.scons (.list Kq3) (.scons .bool .snil)))))))))))⟩),
  (96, ⟨.struct [(3, 0), (3, 1), (3, 2)], 3, 24, Kq3⟩),
  (97, ⟨.struct [(3, 0), (3, 1), (3, 2)], 3, 24, Kq3⟩)]

theorem tiOK : ti.all (fun p => tiOK1 Tryz.prog p.1 p.2) = true := by kernel_rfl
theorem mixed : Tryz.prog.follows .mixedOrders = true := Checked.mixed Tryz.checked
theorem kn {E : Dp.Env} (h : E.ti = ti) (hf : FnsOK Tryz.prog E) : Known0 Tryz.prog E := ⟨TIok_of (by rw [h]; exact tiOK), hf, mixed⟩
theorem eqR {α β : Type} {r l : Nat → α → Option β} (t : (α → Option β) → α → Option β) (hs : ∀ n x, r (n + 1) x = t (r n) x) (hl : ∀ n x, l (n + 1) x = t (l n) x) (h0 : ∀ x, r 0 x = l 0 x) : ∀ n, r n = l n
  | 0 => funext h0
  | n + 1 => funext fun x => by rw [hs, hl, eqR t hs hl h0 n]

def textsC.spec : Dp.Spec := Cm.spec0
theorem textsC.contract : Contract Tryz.prog gl 4 textsC.spec := textsC_ok
def depotref03_Same.spec : Dp.Spec := ⟨(.scons (.list (.int .u8)) (.scons (.list (.int .u8)) .snil)), .bool, false, fun K x => depotref03_Same K x.1 x.2.1⟩
def depotref03_Same.hint : Dp.Hint := { n := 10 }
noncomputable def depotref03_Same.env : Dp.Env := ⟨ti, gl, [], [], [(12, Tryz.f12, depotref03_Same.hint)], [], 0, 40⟩
theorem depotref03_Same.body_eq (K : Nat) (x : depotref03_Same.spec.args.den) : body (depotref03_Same.env.at K) 8 12 depotref03_Same.spec x = depotref03_Same K x.1 x.2.1 := by kernel_rfl
theorem depotref03_Same.contract : Contract Tryz.prog gl 12 depotref03_Same.spec :=
  contract_of (E := depotref03_Same.env) (kn rfl (FnsOK_of ⟨⟨Tryz.func12, Tryz.call12⟩, trivial⟩)) (SpecsOK_of trivial) Tryz.call12 rfl rfl fun K x r h => by
    rw [depotref03_Same.body_eq]; exact h

def proxy_Shelf_Get.spec : Dp.Spec := ⟨(.scons .nilp (.scons .str .snil)), (.tup (.scons (.list (.int .u8)) (.scons (.int .i64) .snil))), false, fun K x => proxy_Shelf_Get K x.2.1⟩
def proxy_Shelf_Get.hint : Dp.Hint := { n := 24, own := [4, 4, 4, 21] }
noncomputable def proxy_Shelf_Get.env : Dp.Env := ⟨ti, gl, [], [], [(10, Tryz.f10, proxy_Shelf_Get.hint)], [], 0, 40⟩
theorem proxy_Shelf_Get.body_eq (K : Nat) (x : proxy_Shelf_Get.spec.args.den) : body (proxy_Shelf_Get.env.at K) 8 10 proxy_Shelf_Get.spec x = proxy_Shelf_Get K x.2.1 := by kernel_rfl
theorem proxy_Shelf_Get.contract : Contract Tryz.prog gl 10 proxy_Shelf_Get.spec :=
  contract_of (E := proxy_Shelf_Get.env) (kn rfl (FnsOK_of ⟨⟨Tryz.func10, Tryz.call10⟩, trivial⟩)) (SpecsOK_of trivial) Tryz.call10 rfl rfl fun K x r h => by
    rw [proxy_Shelf_Get.body_eq]; exact h

def proxy_Shelf_Delete.spec : Dp.Spec := ⟨(.scons .nilp (.scons .str .snil)), (.tup (.scons .bool (.scons (.int .i64) .snil))), false, fun K x => proxy_Shelf_Delete K x.2.1⟩
def proxy_Shelf_Delete.hint : Dp.Hint := { n := 25 }
noncomputable def proxy_Shelf_Delete.env : Dp.Env := ⟨ti, gl, [], [], [(6, Tryz.f6, proxy_Shelf_Delete.hint)], [], 0, 40⟩
theorem proxy_Shelf_Delete.body_eq (K : Nat) (x : proxy_Shelf_Delete.spec.args.den) : body (proxy_Shelf_Delete.env.at K) 8 6 proxy_Shelf_Delete.spec x = proxy_Shelf_Delete K x.2.1 := by kernel_rfl
theorem proxy_Shelf_Delete.contract : Contract Tryz.prog gl 6 proxy_Shelf_Delete.spec :=
  contract_of (E := proxy_Shelf_Delete.env) (kn rfl (FnsOK_of ⟨⟨Tryz.func6, Tryz.call6⟩, trivial⟩)) (SpecsOK_of trivial) Tryz.call6 rfl rfl fun K x r h => by
    rw [proxy_Shelf_Delete.body_eq]; exact h

def proxy_Shelf_Put.spec : Dp.Spec := ⟨(.scons .nilp Kq0), (.int .i64), false, fun K x => proxy_Shelf_Put K x.2.1 x.2.2.1⟩
def proxy_Shelf_Put.hint : Dp.Hint := { n := 29, frz := [26, 28] }
noncomputable def proxy_Shelf_Put.env : Dp.Env := ⟨ti, gl, [], [], [(8, Tryz.f8, proxy_Shelf_Put.hint)], [], 0, 40⟩
theorem proxy_Shelf_Put.body_eq (K : Nat) (x : proxy_Shelf_Put.spec.args.den) : body (proxy_Shelf_Put.env.at K) 8 8 proxy_Shelf_Put.spec x = proxy_Shelf_Put K x.2.1 x.2.2.1 := by kernel_rfl
theorem proxy_Shelf_Put.contract : Contract Tryz.prog gl 8 proxy_Shelf_Put.spec :=
  contract_of (E := proxy_Shelf_Put.env) (kn rfl (FnsOK_of ⟨⟨Tryz.func8, Tryz.call8⟩, trivial⟩)) (SpecsOK_of trivial) Tryz.call8 rfl rfl fun K x r h => by
    rw [proxy_Shelf_Put.body_eq]; exact h

def depotlaw33_ProxyShelf.spec : Dp.Spec := ⟨(.scons (.int .i64) (.scons (.list Kq0) (.scons .str .snil))), .bool, false, fun K x => depotlaw33_ProxyShelf K x.1 x.2.1 x.2.2.1⟩
def depotlaw33_ProxyShelf.hint : Dp.Hint := { n := 160, conds := [(63, [(.normal, { regs := [(1, (.list Kq0)), (2, .str), (7, (.loc 1 false [])), (8, (.loc 3 false [])), (9, (.int .i64))], heap := [(.mobj .str (.list (.int .u8))), Kq2, (.row Kq0), Kq1], app := [2] }), (.ret, { regs := [(6, .bool)], heap := [(.mobj .str (.list (.int .u8))), Kq2, (.row Kq0), Kq1], app := [2] })])], regions := [(1, [(.normal, { regs := [(0, (.int .i64)), (1, (.list Kq0)), (2, .str), (32, .bool)] })]), (8, [(.normal, { regs := [(1, (.list Kq0)), (2, .str), (7, (.loc 1 false [])), (8, (.loc 3 false [])), (9, (.int .i64)), (10, (.ref Kq0)), (58, .bool)], heap := [(.mobj .str (.list (.int .u8))), Kq2, (.row Kq0), Kq1], app := [2] })]), (13, [(.normal, { regs := [(1, (.list Kq0)), (2, .str), (7, (.loc 1 false [])), (8, (.loc 3 false [])), (9, (.int .i64)), (84, .bool)], heap := [(.mobj .str (.list (.int .u8))), Kq2, (.row Kq0), Kq1], app := [2] })]), (15, [(.normal, { regs := [(1, (.list Kq0)), (2, .str), (7, (.loc 1 false [])), (8, (.loc 3 false [])), (9, (.int .i64)), (97, .bool)], heap := [(.mobj .str (.list (.int .u8))), Kq2, (.row Kq0), Kq1], app := [2] })]), (17, [(.normal, { regs := [(1, (.list Kq0)), (2, .str), (7, (.loc 1 false [])), (8, (.loc 3 false [])), (9, (.int .i64)), (15, (.slw 5)), (16, (.int .i64))], heap := [(.mobj .str (.list (.int .u8))), Kq2, (.row Kq0), Kq1, (.row (.int .u8)), (.row (.int .u8))], app := [2, 5] })]), (18, [(.normal, { regs := [(1, (.list Kq0)), (2, .str), (7, (.loc 1 false [])), (8, (.loc 3 false [])), (9, (.int .i64)), (15, (.slw 5)), (16, (.int .i64)), (17, (.list (.int .u8))), (18, (.int .i64))], heap := [(.mobj .str (.list (.int .u8))), Kq2, (.row Kq0), Kq1, (.row (.int .u8)), (.row (.int .u8))], app := [2, 5] })]), (19, [(.normal, { regs := [(1, (.list Kq0)), (2, .str), (7, (.loc 1 false [])), (8, (.loc 3 false [])), (9, (.int .i64)), (15, (.slw 5)), (118, .bool)], heap := [(.mobj .str (.list (.int .u8))), Kq2, (.row Kq0), Kq1, (.row (.int .u8)), (.row (.int .u8))], app := [2, 5] })])], loops := [(5, { regs := [(1, (.list Kq0)), (2, .str), (7, (.loc 1 false [])), (8, (.loc 3 false [])), (9, (.int .i64))], heap := [(.mobj .str (.list (.int .u8))), Kq2, (.row Kq0), Kq1], app := [2] }, [(.exit 0, { regs := [(2, .str)], heap := [(.mobj .str (.list (.int .u8))), Kq2, (.row Kq0), Kq1], app := [2] }), (.ret, { regs := [(6, .bool)], heap := [(.mobj .str (.list (.int .u8))), Kq2, (.row Kq0), Kq1], app := [2] })]), (22, { regs := [(1, (.list Kq0)), (2, .str), (7, (.loc 1 false [])), (8, (.loc 3 false [])), (9, (.int .i64)), (15, (.slw 5)), (19, (.int .i64))], heap := [(.mobj .str (.list (.int .u8))), Kq2, (.row Kq0), Kq1, (.row (.int .u8)), (.row (.int .u8))], app := [2, 5] }, [(.exit 2, { regs := [(1, (.list Kq0)), (2, .str), (7, (.loc 1 false [])), (8, (.loc 3 false [])), (9, (.int .i64))], heap := [(.mobj .str (.list (.int .u8))), Kq2, (.row Kq0), Kq1, (.row (.int .u8)), (.row (.int .u8))], app := [2, 5] })])], own := [37, 90], imm := [10] }
def depotlaw33_ProxyShelf.hint5 : Dp.Hint := { n := 7 }
def depotlaw33_ProxyShelf.hint6 : Dp.Hint := { n := 25 }
def depotlaw33_ProxyShelf.hint7 : Dp.Hint := { n := 64, conds := [(40, [(.normal, { regs := [(0, (.loc 3 false [])), (1, .str), (6, (.slw 4)), (7, (.int .i64))], heap := [(.mobj .str (.list (.int .u8))), Kq2, (.row Kq0), Kq1, (.row Kq0)], app := [4] })])], loops := [(5, { regs := [(0, (.loc 3 false [])), (1, .str), (6, (.slw 4)), (7, (.int .i64))], heap := [(.mobj .str (.list (.int .u8))), Kq2, (.row Kq0), Kq1, (.row Kq0)], app := [4] }, [(.exit 0, { regs := [(0, (.loc 3 false [])), (6, (.slw 4))], heap := [(.mobj .str (.list (.int .u8))), Kq2, (.row Kq0), Kq1, (.row Kq0)], app := [4] })])], own := [6], frz := [62] }
def depotlaw33_ProxyShelf.hint8 : Dp.Hint := { n := 29, frz := [26, 28] }
def depotlaw33_ProxyShelf.hint9 : Dp.Hint := { n := 43, frz := [35, 37] }
def depotlaw33_ProxyShelf.hint10 : Dp.Hint := { n := 24, own := [4, 4, 4, 21] }
def depotlaw33_ProxyShelf.hint11 : Dp.Hint := { n := 47, loops := [(4, { regs := [(0, (.loc 3 false [])), (1, .str), (6, (.int .i64))], heap := [(.mobj .str (.list (.int .u8))), Kq2, (.row Kq0), Kq1, (.row (.int .u8)), (.row (.int .u8))] }, [(.exit 0, { regs := [], heap := [(.mobj .str (.list (.int .u8))), Kq2, (.row Kq0), Kq1, (.row (.int .u8)), (.row (.int .u8))] }), (.ret, { regs := [(4, (.list (.int .u8))), (5, (.int .i64))], heap := [(.mobj .str (.list (.int .u8))), Kq2, (.row Kq0), Kq1, (.row (.int .u8)), (.row (.int .u8))] })])] }
noncomputable def depotlaw33_ProxyShelf.env : Dp.Env := ⟨ti, gl, [], [], [(3, Tryz.f3, depotlaw33_ProxyShelf.hint), (5, Tryz.f5, depotlaw33_ProxyShelf.hint5), (6, Tryz.f6, depotlaw33_ProxyShelf.hint6), (7, Tryz.f7, depotlaw33_ProxyShelf.hint7), (8, Tryz.f8, depotlaw33_ProxyShelf.hint8), (9, Tryz.f9, depotlaw33_ProxyShelf.hint9), (10, Tryz.f10, depotlaw33_ProxyShelf.hint10), (11, Tryz.f11, depotlaw33_ProxyShelf.hint11)], [(12, depotref03_Same.spec), (10, proxy_Shelf_Get.spec), (6, proxy_Shelf_Delete.spec), (8, proxy_Shelf_Put.spec), (4, textsC.spec)], 0, 40⟩
noncomputable def depotlaw33_ProxyShelf.r0 (K : Nat) : Nat → Jq4 → Option ((((Nat) × ((Unit) × (Unit))) × Jq1)) :=
  loopV [(.exit 0, { regs := [(0, (.loc 3 false [])), (6, (.slw 4))], heap := [(.mobj .str (.list (.int .u8))), Kq2, (.row Kq0), Kq1, (.row Kq0)], app := [4] })] { regs := [(0, (.loc 3 false [])), (1, .str), (6, (.slw 4)), (7, (.int .i64))], heap := [(.mobj .str (.list (.int .u8))), Kq2, (.row Kq0), Kq1, (.row Kq0)], app := [4] } (interp (depotlaw33_ProxyShelf.env.at K) depotlaw33_ProxyShelf.hint7 (callF (depotlaw33_ProxyShelf.env.at K) 6) (Code.sub [1, 1, 1, 0, 1, 0, 0] (Tryz.f7.body.getD .skip)) _)
theorem depotlaw33_ProxyShelf.s0 (K n : Nat) (x : Jq4) : depotlaw33_ProxyShelf.r0 K (n + 1) x = depotlaw33_ProxyShelf.t0 K (depotlaw33_ProxyShelf.r0 K n) x := by kernel_rfl
theorem depotlaw33_ProxyShelf.e0 (K n : Nat) : depotlaw33_ProxyShelf.r0 K n = depotlaw33_ProxyShelf.l0 K n := eqR (l := depotlaw33_ProxyShelf.l0 K) _ (depotlaw33_ProxyShelf.s0 K) (fun _ _ => rfl) (fun _ => rfl) n
noncomputable def depotlaw33_ProxyShelf.r1 (K : Nat) : Nat → Jq4 → Option ((((Nat) × ((Unit) × (Unit))) × Jq1)) :=
  loopV [(.exit 0, { regs := [(0, (.loc 3 false [])), (6, (.slw 4))], heap := [(.mobj .str (.list (.int .u8))), Kq2, (.row Kq0), Kq1, (.row Kq0)], app := [4] })] { regs := [(0, (.loc 3 false [])), (1, .str), (6, (.slw 4)), (7, (.int .i64))], heap := [(.mobj .str (.list (.int .u8))), Kq2, (.row Kq0), Kq1, (.row Kq0)], app := [4] } (interp (depotlaw33_ProxyShelf.env.at K) depotlaw33_ProxyShelf.hint7 (callF (depotlaw33_ProxyShelf.env.at K) 5) (Code.sub [1, 1, 1, 0, 1, 0, 0] (Tryz.f7.body.getD .skip)) _)
theorem depotlaw33_ProxyShelf.s1 (K n : Nat) (x : Jq4) : depotlaw33_ProxyShelf.r1 K (n + 1) x = depotlaw33_ProxyShelf.t1 K (depotlaw33_ProxyShelf.r1 K n) x := by kernel_rfl
theorem depotlaw33_ProxyShelf.e1 (K n : Nat) : depotlaw33_ProxyShelf.r1 K n = depotlaw33_ProxyShelf.l1 K n := eqR (l := depotlaw33_ProxyShelf.l1 K) _ (depotlaw33_ProxyShelf.s1 K) (fun _ _ => rfl) (fun _ => rfl) n
noncomputable def depotlaw33_ProxyShelf.r2 (K : Nat) : Nat → (((Nat) × ((List UInt8) × ((Int) × (Unit)))) × Jq0) → Option (((Unit) × Jq0) ⊕ (((List (Int)) × ((Int) × (Unit))) × Jq0)) :=
  loopV [(.exit 0, { regs := [], heap := [(.mobj .str (.list (.int .u8))), Kq2, (.row Kq0), Kq1, (.row (.int .u8)), (.row (.int .u8))] }), (.ret, { regs := [(4, (.list (.int .u8))), (5, (.int .i64))], heap := [(.mobj .str (.list (.int .u8))), Kq2, (.row Kq0), Kq1, (.row (.int .u8)), (.row (.int .u8))] })] { regs := [(0, (.loc 3 false [])), (1, .str), (6, (.int .i64))], heap := [(.mobj .str (.list (.int .u8))), Kq2, (.row Kq0), Kq1, (.row (.int .u8)), (.row (.int .u8))] } (interp (depotlaw33_ProxyShelf.env.at K) depotlaw33_ProxyShelf.hint11 (callF (depotlaw33_ProxyShelf.env.at K) 6) (Code.sub [1, 1, 0, 1, 0, 0] (Tryz.f11.body.getD .skip)) _)
theorem depotlaw33_ProxyShelf.s2 (K n : Nat) (x : (((Nat) × ((List UInt8) × ((Int) × (Unit)))) × Jq0)) : depotlaw33_ProxyShelf.r2 K (n + 1) x = depotlaw33_ProxyShelf.t2 K (depotlaw33_ProxyShelf.r2 K n) x := by kernel_rfl
theorem depotlaw33_ProxyShelf.e2 (K n : Nat) : depotlaw33_ProxyShelf.r2 K n = depotlaw33_ProxyShelf.l2 K n := eqR (l := depotlaw33_ProxyShelf.l2 K) _ (depotlaw33_ProxyShelf.s2 K) (fun _ _ => rfl) (fun _ => rfl) n
noncomputable def depotlaw33_ProxyShelf.r3 (K : Nat) : Nat → Jq6 → Option ((Jq5 × Jq0)) :=
  loopV [(.exit 2, { regs := [(1, (.list Kq0)), (2, .str), (7, (.loc 1 false [])), (8, (.loc 3 false [])), (9, (.int .i64))], heap := [(.mobj .str (.list (.int .u8))), Kq2, (.row Kq0), Kq1, (.row (.int .u8)), (.row (.int .u8))], app := [2, 5] })] { regs := [(1, (.list Kq0)), (2, .str), (7, (.loc 1 false [])), (8, (.loc 3 false [])), (9, (.int .i64)), (15, (.slw 5)), (19, (.int .i64))], heap := [(.mobj .str (.list (.int .u8))), Kq2, (.row Kq0), Kq1, (.row (.int .u8)), (.row (.int .u8))], app := [2, 5] } (interp (depotlaw33_ProxyShelf.env.at K) depotlaw33_ProxyShelf.hint (callF (depotlaw33_ProxyShelf.env.at K) 7) (Code.sub [1, 1, 1, 0, 1, 0, 0, 1, 0, 0, 1, 1, 1, 1, 1, 1, 1, 0, 0] (Tryz.f3.body.getD .skip)) _)
theorem depotlaw33_ProxyShelf.s3 (K n : Nat) (x : Jq6) : depotlaw33_ProxyShelf.r3 K (n + 1) x = depotlaw33_ProxyShelf.t3 K (depotlaw33_ProxyShelf.r3 K n) x := by kernel_rfl
theorem depotlaw33_ProxyShelf.e3 (K n : Nat) : depotlaw33_ProxyShelf.r3 K n = depotlaw33_ProxyShelf.l3 K n := eqR (l := depotlaw33_ProxyShelf.l3 K) _ (depotlaw33_ProxyShelf.s3 K) (fun _ _ => rfl) (fun _ => rfl) n
noncomputable def depotlaw33_ProxyShelf.r4 (K : Nat) : Nat → (Jq5 × Jq2) → Option ((((List UInt8) × (Unit)) × Jq2) ⊕ (((Bool) × (Unit)) × Jq2)) :=
  loopV [(.exit 0, { regs := [(2, .str)], heap := [(.mobj .str (.list (.int .u8))), Kq2, (.row Kq0), Kq1], app := [2] }), (.ret, { regs := [(6, .bool)], heap := [(.mobj .str (.list (.int .u8))), Kq2, (.row Kq0), Kq1], app := [2] })] { regs := [(1, (.list Kq0)), (2, .str), (7, (.loc 1 false [])), (8, (.loc 3 false [])), (9, (.int .i64))], heap := [(.mobj .str (.list (.int .u8))), Kq2, (.row Kq0), Kq1], app := [2] } (interp (depotlaw33_ProxyShelf.env.at K) depotlaw33_ProxyShelf.hint (callF (depotlaw33_ProxyShelf.env.at K) 7) (Code.sub [1, 1, 1, 0, 1, 0, 0] (Tryz.f3.body.getD .skip)) _)
theorem depotlaw33_ProxyShelf.s4 (K n : Nat) (x : (Jq5 × Jq2)) : depotlaw33_ProxyShelf.r4 K (n + 1) x = depotlaw33_ProxyShelf.t4 (depotlaw33_ProxyShelf.r0 K) (depotlaw33_ProxyShelf.r1 K) (depotlaw33_ProxyShelf.r2 K) (depotlaw33_ProxyShelf.r3 K) K (depotlaw33_ProxyShelf.r4 K n) x := by kernel_rfl
theorem depotlaw33_ProxyShelf.e4 (K n : Nat) : depotlaw33_ProxyShelf.r4 K n = depotlaw33_ProxyShelf.l4 K n := by
  induction n with
  | zero => funext x; rfl
  | succ n ih => funext x; rw [depotlaw33_ProxyShelf.s4, ih, show depotlaw33_ProxyShelf.r0 K = depotlaw33_ProxyShelf.l0 K from funext (depotlaw33_ProxyShelf.e0 K), show depotlaw33_ProxyShelf.r1 K = depotlaw33_ProxyShelf.l1 K from funext (depotlaw33_ProxyShelf.e1 K), show depotlaw33_ProxyShelf.r2 K = depotlaw33_ProxyShelf.l2 K from funext (depotlaw33_ProxyShelf.e2 K), show depotlaw33_ProxyShelf.r3 K = depotlaw33_ProxyShelf.l3 K from funext (depotlaw33_ProxyShelf.e3 K)]; rfl
theorem depotlaw33_ProxyShelf.body_eq (K : Nat) (x : depotlaw33_ProxyShelf.spec.args.den) : body (depotlaw33_ProxyShelf.env.at K) 8 3 depotlaw33_ProxyShelf.spec x = depotlaw33_ProxyShelf.tr (depotlaw33_ProxyShelf.r4 K) K x.1 x.2.1 x.2.2.1 := by kernel_rfl
theorem depotlaw33_ProxyShelf.contract : Contract Tryz.prog gl 3 depotlaw33_ProxyShelf.spec :=
  contract_of (E := depotlaw33_ProxyShelf.env) (kn rfl (FnsOK_of ⟨⟨Tryz.func3, Tryz.call3⟩, ⟨Tryz.func5, Tryz.call5⟩, ⟨Tryz.func6, Tryz.call6⟩, ⟨Tryz.func7, Tryz.call7⟩, ⟨Tryz.func8, Tryz.call8⟩, ⟨Tryz.func9, Tryz.call9⟩, ⟨Tryz.func10, Tryz.call10⟩, ⟨Tryz.func11, Tryz.call11⟩, trivial⟩)) (SpecsOK_of ⟨depotref03_Same.contract, proxy_Shelf_Get.contract, proxy_Shelf_Delete.contract, proxy_Shelf_Put.contract, textsC.contract, trivial⟩) Tryz.call3 rfl rfl fun K x r h => by
    rw [depotlaw33_ProxyShelf.body_eq, show depotlaw33_ProxyShelf.r4 K = depotlaw33_ProxyShelf.l4 K from funext (depotlaw33_ProxyShelf.e4 K)]; exact h

end Go.Proofs.X