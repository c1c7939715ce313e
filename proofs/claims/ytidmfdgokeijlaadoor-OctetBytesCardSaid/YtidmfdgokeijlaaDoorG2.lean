/-
  A part of the proof. No condition.
-/
import Derived.Test.YtidmfdgokeijlaaDoorG1
import Derived.Test.YtidmfdgokeijlaaDoorS1
import Derived.Test.YtidmfdgokeijlaaDoorChecked
import Derived.KernelRfl
import Derived.Eval
set_option linter.unusedVariables false
namespace Go.Proofs.X
open Go Go.Dp

def ti : List (Nat × TI) := [(1, ⟨.fn, 1, 8, .nilf⟩),
  (2, ⟨.int .i64, 1, 8, (.int .i64)⟩),
  (3, ⟨.int .i64, 1, 8, (.int .i64)⟩),
  (4, ⟨.bool, 1, 1, .bool⟩),
  (5, ⟨.int .u8, 1, 1, (.int .u8)⟩),
  (6, ⟨.int .u8, 1, 1, (.int .u8)⟩),
  (7, ⟨.struct [(2, 0), (3, 1), (4, 2), (6, 3)], 4, 24, (.scons (.int .i64) (.scons (.int .i64) (.scons .bool (.scons (.int .u8) .snil))))⟩),
  (8, ⟨.struct [(2, 0), (3, 1), (4, 2), (6, 3)], 4, 24, (.scons (.int .i64) (.scons (.int .i64) (.scons .bool (.scons (.int .u8) .snil))))⟩),
  (9, ⟨.str, 1, 16, .str⟩),
  (10, ⟨.str, 1, 16, .str⟩),
  (11, ⟨.str, 1, 16, .str⟩),
  (12, ⟨.int .u64, 1, 8, (.int .u64)⟩),
  (13, ⟨.struct [(9, 0), (12, 1)], 2, 24, (.scons .str (.scons (.int .u64) .snil))⟩),
  (14, ⟨.struct [(9, 0), (12, 1)], 2, 24, (.scons .str (.scons (.int .u64) .snil))⟩),
  (15, ⟨.ptr 64, 1, 8, .nilp⟩),
  (16, ⟨.ptr 67, 1, 8, .nilp⟩),
  (17, ⟨.ptr 77, 1, 8, .nilp⟩),
  (18, ⟨.struct [(17, 0)], 1, 8, (.scons .nilp .snil)⟩),
  (19, ⟨.struct [(17, 0)], 1, 8, (.scons .nilp .snil)⟩),
  (20, ⟨.iface false, 1, 16, .nili⟩),
  (21, ⟨.int .i32, 1, 4, (.int .i32)⟩),
  (23, ⟨.fn, 1, 8, .nilf⟩),
  (24, ⟨.fn, 1, 8, .nilf⟩),
  (25, ⟨.fn, 1, 8, .nilf⟩),
  (27, ⟨.fn, 1, 8, .nilf⟩),
  (28, ⟨.fn, 1, 8, .nilf⟩),
  (29, ⟨.fn, 1, 8, .nilf⟩),
  (30, ⟨.fn, 1, 8, .nilf⟩),
  (31, ⟨.fn, 1, 8, .nilf⟩),
  (32, ⟨.fn, 1, 8, .nilf⟩),
  (33, ⟨.slice 5, 1, 24, (.list (.int .u8))⟩),
  (34, ⟨.fn, 1, 8, .nilf⟩),
  (35, ⟨.fn, 1, 8, .nilf⟩),
  (36, ⟨.fn, 1, 8, .nilf⟩),
  (37, ⟨.fn, 1, 8, .nilf⟩),
  (38, ⟨.fn, 1, 8, .nilf⟩),
  (39, ⟨.fn, 1, 8, .nilf⟩),
  (40, ⟨.fn, 1, 8, .nilf⟩),
  (41, ⟨.fn, 1, 8, .nilf⟩),
  (42, ⟨.slice 36, 1, 24, (.list .nilf)⟩),
  (43, ⟨.fn, 1, 8, .nilf⟩),
  (44, ⟨.arr 256 4, 256, 256, (.arr 256 .bool)⟩),
  (45, ⟨.arr 256 4, 256, 256, (.arr 256 .bool)⟩),
  (47, ⟨.fn, 1, 8, .nilf⟩),
  (48, ⟨.fn, 1, 8, .nilf⟩),
  (49, ⟨.ptr 45, 1, 8, .nilp⟩),
  (51, ⟨.fn, 1, 8, .nilf⟩),
  (52, ⟨.fn, 1, 8, .nilf⟩),
  (53, ⟨.fn, 1, 8, .nilf⟩),
  (54, ⟨.arr 256 5, 256, 256, (.arr 256 (.int .u8))⟩),
  (55, ⟨.int .u64, 1, 8, (.int .u64)⟩),
  (56, ⟨.struct [(5, 0), (5, 1)], 2, 2, (.scons (.int .u8) (.scons (.int .u8) .snil))⟩),
  (57, ⟨.struct [(5, 0), (5, 1)], 2, 2, (.scons (.int .u8) (.scons (.int .u8) .snil))⟩),
  (58, ⟨.arr 16 57, 32, 32, (.arr 16 (.scons (.int .u8) (.scons (.int .u8) .snil)))⟩),
  (59, ⟨.fn, 1, 8, .nilf⟩),
  (60, ⟨.fn, 1, 8, .nilf⟩),
  (61, ⟨.fn, 1, 8, .nilf⟩),
  (62, ⟨.fn, 1, 8, .nilf⟩),
  (63, ⟨.struct [(17, 0), (17, 1), (17, 2), (9, 3)], 4, 40, (.scons .nilp (.scons .nilp (.scons .nilp (.scons .str .snil))))⟩),
  (64, ⟨.struct [(17, 0), (17, 1), (17, 2), (9, 3)], 4, 40, (.scons .nilp (.scons .nilp (.scons .nilp (.scons .str .snil))))⟩),
  (65, ⟨.arr 0 16, 0, 0, (.arr 0 .nilp)⟩),
  (66, ⟨.struct [(65, 0)], 0, 0, (.scons (.arr 0 .nilp) .snil)⟩),
  (67, ⟨.struct [(65, 0)], 0, 0, (.scons (.arr 0 .nilp) .snil)⟩),
  (68, ⟨.fn, 1, 8, .nilf⟩),
  (69, ⟨.int .u32, 1, 4, (.int .u32)⟩),
  (70, ⟨.int .u8, 1, 1, (.int .u8)⟩),
  (71, ⟨.int .u8, 1, 1, (.int .u8)⟩),
  (72, ⟨.fn, 1, 8, .nilf⟩),
  (73, ⟨.ptr 5, 1, 8, .nilp⟩),
  (74, ⟨.int .i32, 1, 4, (.int .i32)⟩),
  (75, ⟨.int .i32, 1, 4, (.int .i32)⟩),
  (76, ⟨.struct [(12, 0), (12, 1), (69, 2), (70, 3), (5, 4), (5, 5), (71, 6), (72, 7), (73, 8), (74, 9), (75, 10)], 11, 48, (.scons (.int .u64) (.scons (.int .u64) (.scons (.int .u32) (.scons (.int .u8) (.scons (.int .u8) (.scons (.int .u8) (.scons (.int .u8) (.scons .nilf (.scons .nilp (.scons (.int .i32) (.scons (.int .i32) .snil)))))))))))⟩),
  (77, ⟨.struct [(12, 0), (12, 1), (69, 2), (70, 3), (5, 4), (5, 5), (71, 6), (72, 7), (73, 8), (74, 9), (75, 10)], 11, 48, (.scons (.int .u64) (.scons (.int .u64) (.scons (.int .u32) (.scons (.int .u8) (.scons (.int .u8) (.scons (.int .u8) (.scons (.int .u8) (.scons .nilf (.scons .nilp (.scons (.int .i32) (.scons (.int .i32) .snil)))))))))))⟩)]
def gl : List (Nat × TV) := []
theorem tiOK : ti.all (fun p => tiOK1 Tryd.prog p.1 p.2) = true := by kernel_rfl
theorem mixed : Tryd.prog.follows .mixedOrders = true := Checked.mixed Tryd.checked

def ixb.spec : Dp.Spec := indexByteSpec
def asciiSet.spec : Dp.Spec := asciiSetSpec
theorem ixb.contract : Contract Tryd.prog gl 46 ixb.spec := indexByte_contract Tryd.func46 (by decide +kernel) rfl (by kernel_rfl) (by kernel_rfl)
theorem asciiSet.contract : Contract Tryd.prog gl 41 asciiSet.spec := asciiSet_ok
def f30.spec : Dp.Spec := { args := (.scons (.int .u8) (.scons (.int .u8) .snil)), res := (.fn 36 (.scons (.ref (.int .u8)) (.scons (.ref (.int .u8)) .snil))), own := false, F := fun K x => f30 K x.1 x.2.1 }
def f30.hint : Dp.Hint := { n := 6, imm := [2, 3] }
noncomputable def f30.env : Dp.Env := { ti := ti, gl := gl, fns := [(30, Tryd.f30, f30.hint)], specs := [], K := 0 }
theorem f30.body_eq (K : Nat) (x : f30.spec.args.den) : body (f30.env.at K) 8 30 f30.spec x = f30 K x.1 x.2.1 := by kernel_rfl
theorem f30.contract : Contract Tryd.prog gl 30 f30.spec :=
  contract_of (E := f30.env) ⟨TIok_of tiOK, FnsOK_of ⟨⟨Tryd.func30, Tryd.call30⟩, trivial⟩, mixed⟩ (SpecsOK_of (E := f30.env) trivial) Tryd.call30 rfl rfl fun K x r h => by
    rw [f30.body_eq]; exact h

def f36.spec : Dp.Spec := { args := (.scons (.int .u8) (.scons (.ref (.int .u8)) (.scons (.ref (.int .u8)) .snil))), res := .bool, own := false, F := fun K x => f36 K x.1 x.2.1 x.2.2.1 }
def f36.hint : Dp.Hint := { n := 13 }
noncomputable def f36.env : Dp.Env := { ti := ti, gl := gl, fns := [(36, Tryd.f36, f36.hint)], specs := [], K := 0 }
theorem f36.body_eq (K : Nat) (x : f36.spec.args.den) : body (f36.env.at K) 8 36 f36.spec x = f36 K x.1 x.2.1 x.2.2.1 := by kernel_rfl
theorem f36.contract : Contract Tryd.prog gl 36 f36.spec :=
  contract_of (E := f36.env) ⟨TIok_of tiOK, FnsOK_of ⟨⟨Tryd.func36, Tryd.call36⟩, trivial⟩, mixed⟩ (SpecsOK_of (E := f36.env) trivial) Tryd.call36 rfl rfl fun K x r h => by
    rw [f36.body_eq]; exact h

def f29.spec : Dp.Spec := { args := (.scons (.int .u8) (.scons (.hl (.scons (.fn 36 (.scons (.ref (.int .u8)) (.scons (.ref (.int .u8)) .snil))) .snil)) .snil)), res := .bool, own := false, F := fun K x => f29 K x.1 x.2.1 }
def f29.hint : Dp.Hint := { n := 17 }
noncomputable def f29.env : Dp.Env := { ti := ti, gl := gl, fns := [(29, Tryd.f29, f29.hint)], specs := [(36, f36.spec)], K := 0 }
theorem f29.body_eq (K : Nat) (x : f29.spec.args.den) : body (f29.env.at K) 8 29 f29.spec x = f29 K x.1 x.2.1 := by kernel_rfl
theorem f29.contract : Contract Tryd.prog gl 29 f29.spec :=
  contract_of (E := f29.env) ⟨TIok_of tiOK, FnsOK_of ⟨⟨Tryd.func29, Tryd.call29⟩, trivial⟩, mixed⟩ (SpecsOK_of (E := f29.env) ⟨f36.contract, trivial⟩) Tryd.call29 rfl rfl fun K x r h => by
    rw [f29.body_eq]; exact h

def f14.spec : Dp.Spec := { args := (.scons (.int .u8) .snil), res := .bool, own := false, F := fun K x => f14 K x.1 }
def f14.hint : Dp.Hint := { n := 7 }
noncomputable def f14.env : Dp.Env := { ti := ti, gl := gl, fns := [(14, Tryd.f14, f14.hint)], specs := [(30, f30.spec), (29, f29.spec)], K := 0 }
theorem f14.body_eq (K : Nat) (x : f14.spec.args.den) : body (f14.env.at K) 8 14 f14.spec x = f14 K x.1 := by kernel_rfl
theorem f14.contract : Contract Tryd.prog gl 14 f14.spec :=
  contract_of (E := f14.env) ⟨TIok_of tiOK, FnsOK_of ⟨⟨Tryd.func14, Tryd.call14⟩, trivial⟩, mixed⟩ (SpecsOK_of (E := f14.env) ⟨f30.contract, f29.contract, trivial⟩) Tryd.call14 rfl rfl fun K x r h => by
    rw [f14.body_eq]; exact h

def f8.spec : Dp.Spec := { args := (.scons (.int .u8) .snil), res := (.tup (.scons (.int .i64) (.scons .bool .snil))), own := false, F := fun K x => f8 K x.1 }
def f8.hint : Dp.Hint := { n := 28 }
noncomputable def f8.env : Dp.Env := { ti := ti, gl := gl, fns := [(8, Tryd.f8, f8.hint)], specs := [(30, f30.spec), (29, f29.spec), (14, f14.spec)], K := 0 }
theorem f8.body_eq (K : Nat) (x : f8.spec.args.den) : body (f8.env.at K) 8 8 f8.spec x = f8 K x.1 := by kernel_rfl
theorem f8.contract : Contract Tryd.prog gl 8 f8.spec :=
  contract_of (E := f8.env) ⟨TIok_of tiOK, FnsOK_of ⟨⟨Tryd.func8, Tryd.call8⟩, trivial⟩, mixed⟩ (SpecsOK_of (E := f8.env) ⟨f30.contract, f29.contract, f14.contract, trivial⟩) Tryd.call8 rfl rfl fun K x r h => by
    rw [f8.body_eq]; exact h

def f9.spec : Dp.Spec := { args := (.scons (.int .u8) .snil), res := (.tup (.scons (.int .i64) (.scons .bool .snil))), own := false, F := fun K x => f9 K x.1 }
def f9.hint : Dp.Hint := { n := 24, regions := [(5, [(.normal, { regs := [(0, (.int .u8)), (4, .str), (5, .str), (6, (.int .i64)), (22, .bool)] })])], loops := [(3, { regs := [(0, (.int .u8)), (4, .str), (5, .str), (6, (.int .i64))] }, [(.exit 0, { regs := [] }), (.ret, { regs := [(2, (.int .i64)), (3, .bool)] })])] }
noncomputable def f9.env : Dp.Env := { ti := ti, gl := gl, fns := [(9, Tryd.f9, f9.hint)], specs := [], K := 0 }
noncomputable def f9.r0 (K : Nat) : Nat → (((Int) × ((List UInt8) × ((List UInt8) × ((Int) × (Unit))))) × (Unit)) → Option (((Unit) × (Unit)) ⊕ (((Int) × ((Bool) × (Unit))) × (Unit))) :=
  loopV [(.exit 0, { regs := [] }), (.ret, { regs := [(2, (.int .i64)), (3, .bool)] })] { regs := [(0, (.int .u8)), (4, .str), (5, .str), (6, (.int .i64))] } (interp (f9.env.at K) f9.hint (callF (f9.env.at K) 7) (Code.sub [1, 1, 0, 1, 0, 0] (Tryd.f9.body.getD .skip)) _)
theorem f9.s0 (K n : Nat) (x : (((Int) × ((List UInt8) × ((List UInt8) × ((Int) × (Unit))))) × (Unit))) : f9.r0 K (n + 1) x = f9.t0 K (f9.r0 K n) x := by kernel_rfl
theorem f9.e0 (K n : Nat) : f9.r0 K n = f9.l0 K n := by
  induction n with
  | zero => funext x; rfl
  | succ n ih => funext x; rw [f9.s0, ih]; rfl
theorem f9.body_eq (K : Nat) (x : f9.spec.args.den) : body (f9.env.at K) 8 9 f9.spec x = f9.tr (f9.r0 K) K x.1 := by kernel_rfl
theorem f9.contract : Contract Tryd.prog gl 9 f9.spec :=
  contract_of (E := f9.env) ⟨TIok_of tiOK, FnsOK_of ⟨⟨Tryd.func9, Tryd.call9⟩, trivial⟩, mixed⟩ (SpecsOK_of (E := f9.env) trivial) Tryd.call9 rfl rfl fun K x r h => by
    rw [f9.body_eq, show f9.r0 K = f9.l0 K from funext (f9.e0 K)]; exact h

def f31.spec : Dp.Spec := { args := (.scons .str .snil), res := (.fn 37 (.scons (.ref .str) .snil)), own := false, F := fun K x => f31 K x.1 }
def f31.hint : Dp.Hint := { n := 4, imm := [1] }
noncomputable def f31.env : Dp.Env := { ti := ti, gl := gl, fns := [(31, Tryd.f31, f31.hint)], specs := [], K := 0 }
theorem f31.body_eq (K : Nat) (x : f31.spec.args.den) : body (f31.env.at K) 8 31 f31.spec x = f31 K x.1 := by kernel_rfl
theorem f31.contract : Contract Tryd.prog gl 31 f31.spec :=
  contract_of (E := f31.env) ⟨TIok_of tiOK, FnsOK_of ⟨⟨Tryd.func31, Tryd.call31⟩, trivial⟩, mixed⟩ (SpecsOK_of (E := f31.env) trivial) Tryd.call31 rfl rfl fun K x r h => by
    rw [f31.body_eq]; exact h

def f38.spec : Dp.Spec := { args := (.scons .str (.scons (.int .u8) .snil)), res := (.int .i64), own := false, F := fun K x => f38 K x.1 x.2.1 }
def f38.hint : Dp.Hint := { n := 8 }
noncomputable def f38.env : Dp.Env := { ti := ti, gl := gl, fns := [(38, Tryd.f38, f38.hint)], specs := [(46, ixb.spec)], K := 0 }
theorem f38.body_eq (K : Nat) (x : f38.spec.args.den) : body (f38.env.at K) 8 38 f38.spec x = f38 K x.1 x.2.1 := by kernel_rfl
theorem f38.contract : Contract Tryd.prog gl 38 f38.spec :=
  contract_of (E := f38.env) ⟨TIok_of tiOK, FnsOK_of ⟨⟨Tryd.func38, Tryd.call38⟩, trivial⟩, mixed⟩ (SpecsOK_of (E := f38.env) ⟨ixb.contract, trivial⟩) Tryd.call38 rfl rfl fun K x r h => by
    rw [f38.body_eq]; exact h

def f32.spec : Dp.Spec := { args := (.scons .str (.scons (.int .u8) .snil)), res := (.int .i64), own := false, F := fun K x => f32 K x.1 x.2.1 }
def f32.hint : Dp.Hint := { n := 8 }
noncomputable def f32.env : Dp.Env := { ti := ti, gl := gl, fns := [(32, Tryd.f32, f32.hint)], specs := [(38, f38.spec)], K := 0 }
theorem f32.body_eq (K : Nat) (x : f32.spec.args.den) : body (f32.env.at K) 8 32 f32.spec x = f32 K x.1 x.2.1 := by kernel_rfl
theorem f32.contract : Contract Tryd.prog gl 32 f32.spec :=
  contract_of (E := f32.env) ⟨TIok_of tiOK, FnsOK_of ⟨⟨Tryd.func32, Tryd.call32⟩, trivial⟩, mixed⟩ (SpecsOK_of (E := f32.env) ⟨f38.contract, trivial⟩) Tryd.call32 rfl rfl fun K x r h => by
    rw [f32.body_eq]; exact h

def f37.spec : Dp.Spec := { args := (.scons (.int .u8) (.scons (.ref .str) .snil)), res := .bool, own := false, F := fun K x => f37 K x.1 x.2.1 }
def f37.hint : Dp.Hint := { n := 8 }
noncomputable def f37.env : Dp.Env := { ti := ti, gl := gl, fns := [(37, Tryd.f37, f37.hint)], specs := [(32, f32.spec)], K := 0 }
theorem f37.body_eq (K : Nat) (x : f37.spec.args.den) : body (f37.env.at K) 8 37 f37.spec x = f37 K x.1 x.2.1 := by kernel_rfl
theorem f37.contract : Contract Tryd.prog gl 37 f37.spec :=
  contract_of (E := f37.env) ⟨TIok_of tiOK, FnsOK_of ⟨⟨Tryd.func37, Tryd.call37⟩, trivial⟩, mixed⟩ (SpecsOK_of (E := f37.env) ⟨f32.contract, trivial⟩) Tryd.call37 rfl rfl fun K x r h => by
    rw [f37.body_eq]; exact h

def f29v1.spec : Dp.Spec := { args := (.scons (.int .u8) (.scons (.hl (.scons (.fn 14 .snil) (.scons (.fn 36 (.scons (.ref (.int .u8)) (.scons (.ref (.int .u8)) .snil))) (.scons (.fn 36 (.scons (.ref (.int .u8)) (.scons (.ref (.int .u8)) .snil))) (.scons (.fn 37 (.scons (.ref .str) .snil)) .snil))))) .snil)), res := .bool, own := false, F := fun K x => f29v1 K x.1 x.2.1 }
def f29v1.hint : Dp.Hint := { n := 17 }
noncomputable def f29v1.env : Dp.Env := { ti := ti, gl := gl, fns := [(29, Tryd.f29, f29v1.hint)], specs := [(36, f36.spec), (14, f14.spec), (37, f37.spec)], K := 0 }
theorem f29v1.body_eq (K : Nat) (x : f29v1.spec.args.den) : body (f29v1.env.at K) 8 29 f29v1.spec x = f29v1 K x.1 x.2.1 := by kernel_rfl
theorem f29v1.contract : Contract Tryd.prog gl 29 f29v1.spec :=
  contract_of (E := f29v1.env) ⟨TIok_of tiOK, FnsOK_of ⟨⟨Tryd.func29, Tryd.call29⟩, trivial⟩, mixed⟩ (SpecsOK_of (E := f29v1.env) ⟨f36.contract, f14.contract, f37.contract, trivial⟩) Tryd.call29 rfl rfl fun K x r h => by
    rw [f29v1.body_eq]; exact h

def f10.spec : Dp.Spec := { args := (.scons (.int .u8) .snil), res := .bool, own := false, F := fun K x => f10 K x.1 }
def f10.hint : Dp.Hint := { n := 9 }
noncomputable def f10.env : Dp.Env := { ti := ti, gl := gl, fns := [(10, Tryd.f10, f10.hint)], specs := [(30, f30.spec), (31, f31.spec), (29, f29v1.spec)], K := 0 }
theorem f10.body_eq (K : Nat) (x : f10.spec.args.den) : body (f10.env.at K) 8 10 f10.spec x = f10 K x.1 := by kernel_rfl
theorem f10.contract : Contract Tryd.prog gl 10 f10.spec :=
  contract_of (E := f10.env) ⟨TIok_of tiOK, FnsOK_of ⟨⟨Tryd.func10, Tryd.call10⟩, trivial⟩, mixed⟩ (SpecsOK_of (E := f10.env) ⟨f30.contract, f31.contract, f29v1.contract, trivial⟩) Tryd.call10 rfl rfl fun K x r h => by
    rw [f10.body_eq]; exact h

def f11.spec : Dp.Spec := { args := (.scons (.int .u8) .snil), res := .bool, own := false, F := fun K x => f11 K x.1 }
def f11.hint : Dp.Hint := { n := 38, regions := [(1, [(.normal, { regs := [(0, (.int .u8)), (26, .bool)] })])], loops := [(5, { regs := [(0, (.int .u8)), (3, .str), (4, (.int .i64))] }, [(.exit 0, { regs := [] }), (.ret, { regs := [(2, .bool)] })])] }
noncomputable def f11.env : Dp.Env := { ti := ti, gl := gl, fns := [(11, Tryd.f11, f11.hint)], specs := [], K := 0 }
noncomputable def f11.r0 (K : Nat) : Nat → (((Int) × ((List UInt8) × ((Int) × (Unit)))) × (Unit)) → Option (((Unit) × (Unit)) ⊕ (((Bool) × (Unit)) × (Unit))) :=
  loopV [(.exit 0, { regs := [] }), (.ret, { regs := [(2, .bool)] })] { regs := [(0, (.int .u8)), (3, .str), (4, (.int .i64))] } (interp (f11.env.at K) f11.hint (callF (f11.env.at K) 7) (Code.sub [1, 1, 1, 0, 1, 0, 0] (Tryd.f11.body.getD .skip)) _)
theorem f11.s0 (K n : Nat) (x : (((Int) × ((List UInt8) × ((Int) × (Unit)))) × (Unit))) : f11.r0 K (n + 1) x = f11.t0 K (f11.r0 K n) x := by kernel_rfl
theorem f11.e0 (K n : Nat) : f11.r0 K n = f11.l0 K n := by
  induction n with
  | zero => funext x; rfl
  | succ n ih => funext x; rw [f11.s0, ih]; rfl
theorem f11.body_eq (K : Nat) (x : f11.spec.args.den) : body (f11.env.at K) 8 11 f11.spec x = f11.tr (f11.r0 K) K x.1 := by kernel_rfl
theorem f11.contract : Contract Tryd.prog gl 11 f11.spec :=
  contract_of (E := f11.env) ⟨TIok_of tiOK, FnsOK_of ⟨⟨Tryd.func11, Tryd.call11⟩, trivial⟩, mixed⟩ (SpecsOK_of (E := f11.env) trivial) Tryd.call11 rfl rfl fun K x r h => by
    rw [f11.body_eq, show f11.r0 K = f11.l0 K from funext (f11.e0 K)]; exact h

def f29v2.spec : Dp.Spec := { args := (.scons (.int .u8) (.scons (.hl (.scons (.fn 36 (.scons (.ref (.int .u8)) (.scons (.ref (.int .u8)) .snil))) (.scons (.fn 37 (.scons (.ref .str) .snil)) (.scons (.fn 36 (.scons (.ref (.int .u8)) (.scons (.ref (.int .u8)) .snil))) .snil)))) .snil)), res := .bool, own := false, F := fun K x => f29v2 K x.1 x.2.1 }
def f29v2.hint : Dp.Hint := { n := 17 }
noncomputable def f29v2.env : Dp.Env := { ti := ti, gl := gl, fns := [(29, Tryd.f29, f29v2.hint)], specs := [(36, f36.spec), (37, f37.spec)], K := 0 }
theorem f29v2.body_eq (K : Nat) (x : f29v2.spec.args.den) : body (f29v2.env.at K) 8 29 f29v2.spec x = f29v2 K x.1 x.2.1 := by kernel_rfl
theorem f29v2.contract : Contract Tryd.prog gl 29 f29v2.spec :=
  contract_of (E := f29v2.env) ⟨TIok_of tiOK, FnsOK_of ⟨⟨Tryd.func29, Tryd.call29⟩, trivial⟩, mixed⟩ (SpecsOK_of (E := f29v2.env) ⟨f36.contract, f37.contract, trivial⟩) Tryd.call29 rfl rfl fun K x r h => by
    rw [f29v2.body_eq]; exact h

def f12.spec : Dp.Spec := { args := (.scons (.int .u8) .snil), res := .bool, own := false, F := fun K x => f12 K x.1 }
def f12.hint : Dp.Hint := { n := 9 }
noncomputable def f12.env : Dp.Env := { ti := ti, gl := gl, fns := [(12, Tryd.f12, f12.hint)], specs := [(30, f30.spec), (31, f31.spec), (29, f29v2.spec)], K := 0 }
theorem f12.body_eq (K : Nat) (x : f12.spec.args.den) : body (f12.env.at K) 8 12 f12.spec x = f12 K x.1 := by kernel_rfl
theorem f12.contract : Contract Tryd.prog gl 12 f12.spec :=
  contract_of (E := f12.env) ⟨TIok_of tiOK, FnsOK_of ⟨⟨Tryd.func12, Tryd.call12⟩, trivial⟩, mixed⟩ (SpecsOK_of (E := f12.env) ⟨f30.contract, f31.contract, f29v2.contract, trivial⟩) Tryd.call12 rfl rfl fun K x r h => by
    rw [f12.body_eq]; exact h

def f13.spec : Dp.Spec := { args := (.scons (.int .u8) .snil), res := .bool, own := false, F := fun K x => f13 K x.1 }
def f13.hint : Dp.Hint := { n := 13 }
noncomputable def f13.env : Dp.Env := { ti := ti, gl := gl, fns := [(13, Tryd.f13, f13.hint)], specs := [], K := 0 }
theorem f13.body_eq (K : Nat) (x : f13.spec.args.den) : body (f13.env.at K) 8 13 f13.spec x = f13 K x.1 := by kernel_rfl
theorem f13.contract : Contract Tryd.prog gl 13 f13.spec :=
  contract_of (E := f13.env) ⟨TIok_of tiOK, FnsOK_of ⟨⟨Tryd.func13, Tryd.call13⟩, trivial⟩, mixed⟩ (SpecsOK_of (E := f13.env) trivial) Tryd.call13 rfl rfl fun K x r h => by
    rw [f13.body_eq]; exact h

def f15.spec : Dp.Spec := { args := (.scons (.int .u8) .snil), res := .bool, own := false, F := fun K x => f15 K x.1 }
def f15.hint : Dp.Hint := { n := 15 }
noncomputable def f15.env : Dp.Env := { ti := ti, gl := gl, fns := [(15, Tryd.f15, f15.hint)], specs := [(9, f9.spec)], K := 0 }
theorem f15.body_eq (K : Nat) (x : f15.spec.args.den) : body (f15.env.at K) 8 15 f15.spec x = f15 K x.1 := by kernel_rfl
theorem f15.contract : Contract Tryd.prog gl 15 f15.spec :=
  contract_of (E := f15.env) ⟨TIok_of tiOK, FnsOK_of ⟨⟨Tryd.func15, Tryd.call15⟩, trivial⟩, mixed⟩ (SpecsOK_of (E := f15.env) ⟨f9.contract, trivial⟩) Tryd.call15 rfl rfl fun K x r h => by
    rw [f15.body_eq]; exact h

def f17.spec : Dp.Spec := { args := (.scons .str (.scons (.int .u8) .snil)), res := (.tup (.scons .str (.scons .str (.scons .bool .snil)))), own := false, F := fun K x => f17 K x.1 x.2.1 }
def f17.hint : Dp.Hint := { n := 21 }
noncomputable def f17.env : Dp.Env := { ti := ti, gl := gl, fns := [(17, Tryd.f17, f17.hint)], specs := [(32, f32.spec)], K := 0 }
theorem f17.body_eq (K : Nat) (x : f17.spec.args.den) : body (f17.env.at K) 8 17 f17.spec x = f17 K x.1 x.2.1 := by kernel_rfl
theorem f17.contract : Contract Tryd.prog gl 17 f17.spec :=
  contract_of (E := f17.env) ⟨TIok_of tiOK, FnsOK_of ⟨⟨Tryd.func17, Tryd.call17⟩, trivial⟩, mixed⟩ (SpecsOK_of (E := f17.env) ⟨f32.contract, trivial⟩) Tryd.call17 rfl rfl fun K x r h => by
    rw [f17.body_eq]; exact h

def f40.spec : Dp.Spec := { args := (.scons .str (.scons (.int .u8) .snil)), res := .str, own := false, F := fun K x => f40 K x.1 x.2.1 }
def f40.hint : Dp.Hint := { n := 23, regions := [(1, [(.normal, { regs := [(0, .str), (1, (.int .u8)), (16, .bool)] })])], loops := [(1, { regs := [(0, .str), (1, (.int .u8))] }, [(.exit 0, { regs := [(0, .str)] })])] }
noncomputable def f40.env : Dp.Env := { ti := ti, gl := gl, fns := [(40, Tryd.f40, f40.hint)], specs := [], K := 0 }
noncomputable def f40.r0 (K : Nat) : Nat → (((List UInt8) × ((Int) × (Unit))) × (Unit)) → Option ((((List UInt8) × (Unit)) × (Unit))) :=
  loopV [(.exit 0, { regs := [(0, .str)] })] { regs := [(0, .str), (1, (.int .u8))] } (interp (f40.env.at K) f40.hint (callF (f40.env.at K) 7) (Code.sub [1, 0, 0, 0] (Tryd.f40.body.getD .skip)) _)
theorem f40.s0 (K n : Nat) (x : (((List UInt8) × ((Int) × (Unit))) × (Unit))) : f40.r0 K (n + 1) x = f40.t0 K (f40.r0 K n) x := by kernel_rfl
theorem f40.e0 (K n : Nat) : f40.r0 K n = f40.l0 K n := by
  induction n with
  | zero => funext x; rfl
  | succ n ih => funext x; rw [f40.s0, ih]; rfl
theorem f40.body_eq (K : Nat) (x : f40.spec.args.den) : body (f40.env.at K) 8 40 f40.spec x = f40.tr (f40.r0 K) K x.1 x.2.1 := by kernel_rfl
theorem f40.contract : Contract Tryd.prog gl 40 f40.spec :=
  contract_of (E := f40.env) ⟨TIok_of tiOK, FnsOK_of ⟨⟨Tryd.func40, Tryd.call40⟩, trivial⟩, mixed⟩ (SpecsOK_of (E := f40.env) trivial) Tryd.call40 rfl rfl fun K x r h => by
    rw [f40.body_eq, show f40.r0 K = f40.l0 K from funext (f40.e0 K)]; exact h

def f39.spec : Dp.Spec := { args := (.scons .str (.scons (.int .u8) .snil)), res := .str, own := false, F := fun K x => f39 K x.1 x.2.1 }
def f39.hint : Dp.Hint := { n := 17, regions := [(1, [(.normal, { regs := [(0, .str), (1, (.int .u8)), (13, .bool)] })])], loops := [(1, { regs := [(0, .str), (1, (.int .u8))] }, [(.exit 0, { regs := [(0, .str)] })])] }
noncomputable def f39.env : Dp.Env := { ti := ti, gl := gl, fns := [(39, Tryd.f39, f39.hint)], specs := [], K := 0 }
noncomputable def f39.r0 (K : Nat) : Nat → (((List UInt8) × ((Int) × (Unit))) × (Unit)) → Option ((((List UInt8) × (Unit)) × (Unit))) :=
  loopV [(.exit 0, { regs := [(0, .str)] })] { regs := [(0, .str), (1, (.int .u8))] } (interp (f39.env.at K) f39.hint (callF (f39.env.at K) 7) (Code.sub [1, 0, 0, 0] (Tryd.f39.body.getD .skip)) _)
theorem f39.s0 (K n : Nat) (x : (((List UInt8) × ((Int) × (Unit))) × (Unit))) : f39.r0 K (n + 1) x = f39.t0 K (f39.r0 K n) x := by kernel_rfl
theorem f39.e0 (K n : Nat) : f39.r0 K n = f39.l0 K n := by
  induction n with
  | zero => funext x; rfl
  | succ n ih => funext x; rw [f39.s0, ih]; rfl
theorem f39.body_eq (K : Nat) (x : f39.spec.args.den) : body (f39.env.at K) 8 39 f39.spec x = f39.tr (f39.r0 K) K x.1 x.2.1 := by kernel_rfl
theorem f39.contract : Contract Tryd.prog gl 39 f39.spec :=
  contract_of (E := f39.env) ⟨TIok_of tiOK, FnsOK_of ⟨⟨Tryd.func39, Tryd.call39⟩, trivial⟩, mixed⟩ (SpecsOK_of (E := f39.env) trivial) Tryd.call39 rfl rfl fun K x r h => by
    rw [f39.body_eq, show f39.r0 K = f39.l0 K from funext (f39.e0 K)]; exact h

def f47.spec : Dp.Spec := { args := (.scons (.ref (.arr 256 .bool)) (.scons (.int .u8) .snil)), res := .bool, own := false, F := fun K x => f47 K x.1 x.2.1 }
def f47.hint : Dp.Hint := { n := 10 }
noncomputable def f47.env : Dp.Env := { ti := ti, gl := gl, fns := [(47, Tryd.f47, f47.hint)], specs := [], K := 0 }
theorem f47.body_eq (K : Nat) (x : f47.spec.args.den) : body (f47.env.at K) 8 47 f47.spec x = f47 K x.1 x.2.1 := by kernel_rfl
theorem f47.contract : Contract Tryd.prog gl 47 f47.spec :=
  contract_of (E := f47.env) ⟨TIok_of tiOK, FnsOK_of ⟨⟨Tryd.func47, Tryd.call47⟩, trivial⟩, mixed⟩ (SpecsOK_of (E := f47.env) trivial) Tryd.call47 rfl rfl fun K x r h => by
    rw [f47.body_eq]; exact h

def f43.spec : Dp.Spec := { args := (.scons .str (.scons (.ref (.arr 256 .bool)) .snil)), res := .str, own := false, F := fun K x => f43 K x.1 x.2.1 }
def f43.hint : Dp.Hint := { n := 22, loops := [(1, { regs := [(0, .str), (1, (.ref (.arr 256 .bool)))] }, [(.exit 0, { regs := [(0, .str)] })])] }
noncomputable def f43.env : Dp.Env := { ti := ti, gl := gl, fns := [(43, Tryd.f43, f43.hint)], specs := [(47, f47.spec)], K := 0 }
noncomputable def f43.r0 (K : Nat) : Nat → (((List UInt8) × ((List (Bool)) × (Unit))) × (Unit)) → Option ((((List UInt8) × (Unit)) × (Unit))) :=
  loopV [(.exit 0, { regs := [(0, .str)] })] { regs := [(0, .str), (1, (.ref (.arr 256 .bool)))] } (interp (f43.env.at K) f43.hint (callF (f43.env.at K) 7) (Code.sub [1, 0, 0, 0] (Tryd.f43.body.getD .skip)) _)
theorem f43.s0 (K n : Nat) (x : (((List UInt8) × ((List (Bool)) × (Unit))) × (Unit))) : f43.r0 K (n + 1) x = f43.t0 K (f43.r0 K n) x := by kernel_rfl
theorem f43.e0 (K n : Nat) : f43.r0 K n = f43.l0 K n := by
  induction n with
  | zero => funext x; rfl
  | succ n ih => funext x; rw [f43.s0, ih]; rfl
theorem f43.body_eq (K : Nat) (x : f43.spec.args.den) : body (f43.env.at K) 8 43 f43.spec x = f43.tr (f43.r0 K) K x.1 x.2.1 := by kernel_rfl
theorem f43.contract : Contract Tryd.prog gl 43 f43.spec :=
  contract_of (E := f43.env) ⟨TIok_of tiOK, FnsOK_of ⟨⟨Tryd.func43, Tryd.call43⟩, trivial⟩, mixed⟩ (SpecsOK_of (E := f43.env) ⟨f47.contract, trivial⟩) Tryd.call43 rfl rfl fun K x r h => by
    rw [f43.body_eq, show f43.r0 K = f43.l0 K from funext (f43.e0 K)]; exact h

def f42.spec : Dp.Spec := { args := (.scons .str (.scons (.ref (.arr 256 .bool)) .snil)), res := .str, own := false, F := fun K x => f42 K x.1 x.2.1 }
def f42.hint : Dp.Hint := { n := 16, loops := [(1, { regs := [(0, .str), (1, (.ref (.arr 256 .bool)))] }, [(.exit 0, { regs := [(0, .str)] })])] }
noncomputable def f42.env : Dp.Env := { ti := ti, gl := gl, fns := [(42, Tryd.f42, f42.hint)], specs := [(47, f47.spec)], K := 0 }
noncomputable def f42.r0 (K : Nat) : Nat → (((List UInt8) × ((List (Bool)) × (Unit))) × (Unit)) → Option ((((List UInt8) × (Unit)) × (Unit))) :=
  loopV [(.exit 0, { regs := [(0, .str)] })] { regs := [(0, .str), (1, (.ref (.arr 256 .bool)))] } (interp (f42.env.at K) f42.hint (callF (f42.env.at K) 7) (Code.sub [1, 0, 0, 0] (Tryd.f42.body.getD .skip)) _)
theorem f42.s0 (K n : Nat) (x : (((List UInt8) × ((List (Bool)) × (Unit))) × (Unit))) : f42.r0 K (n + 1) x = f42.t0 K (f42.r0 K n) x := by kernel_rfl
theorem f42.e0 (K n : Nat) : f42.r0 K n = f42.l0 K n := by
  induction n with
  | zero => funext x; rfl
  | succ n ih => funext x; rw [f42.s0, ih]; rfl
theorem f42.body_eq (K : Nat) (x : f42.spec.args.den) : body (f42.env.at K) 8 42 f42.spec x = f42.tr (f42.r0 K) K x.1 x.2.1 := by kernel_rfl
theorem f42.contract : Contract Tryd.prog gl 42 f42.spec :=
  contract_of (E := f42.env) ⟨TIok_of tiOK, FnsOK_of ⟨⟨Tryd.func42, Tryd.call42⟩, trivial⟩, mixed⟩ (SpecsOK_of (E := f42.env) ⟨f47.contract, trivial⟩) Tryd.call42 rfl rfl fun K x r h => by
    rw [f42.body_eq, show f42.r0 K = f42.l0 K from funext (f42.e0 K)]; exact h

def f33.spec : Dp.Spec := { args := (.scons .str (.scons .str .snil)), res := .str, own := false, F := fun K x => f33 K x.1 x.2.1 }
def f33.hint : Dp.Hint := { n := 43, regions := [(1, [(.normal, { regs := [(0, .str), (1, .str), (12, .bool)] })]), (3, [(.normal, { regs := [(0, .str), (1, .str), (21, .bool)] })])] }
noncomputable def f33.env : Dp.Env := { ti := ti, gl := gl, fns := [(33, Tryd.f33, f33.hint)], specs := [(40, f40.spec), (39, f39.spec), (43, f43.spec), (42, f42.spec), (41, asciiSet.spec)], K := 0 }
theorem f33.body_eq (K : Nat) (x : f33.spec.args.den) : body (f33.env.at K) 8 33 f33.spec x = f33 K x.1 x.2.1 := by kernel_rfl
theorem f33.contract : Contract Tryd.prog gl 33 f33.spec :=
  contract_of (E := f33.env) ⟨TIok_of tiOK, FnsOK_of ⟨⟨Tryd.func33, Tryd.call33⟩, trivial⟩, mixed⟩ (SpecsOK_of (E := f33.env) ⟨f40.contract, f39.contract, f43.contract, f42.contract, asciiSet.contract, trivial⟩) Tryd.call33 rfl rfl fun K x r h => by
    rw [f33.body_eq]; exact h

def f23.spec : Dp.Spec := { args := (.scons .str .snil), res := .str, own := false, F := fun K x => f23 K x.1 }
def f23.hint : Dp.Hint := { n := 5 }
noncomputable def f23.env : Dp.Env := { ti := ti, gl := gl, fns := [(23, Tryd.f23, f23.hint)], specs := [(33, f33.spec)], K := 0 }
theorem f23.body_eq (K : Nat) (x : f23.spec.args.den) : body (f23.env.at K) 8 23 f23.spec x = f23 K x.1 := by kernel_rfl
theorem f23.contract : Contract Tryd.prog gl 23 f23.spec :=
  contract_of (E := f23.env) ⟨TIok_of tiOK, FnsOK_of ⟨⟨Tryd.func23, Tryd.call23⟩, trivial⟩, mixed⟩ (SpecsOK_of (E := f23.env) ⟨f33.contract, trivial⟩) Tryd.call23 rfl rfl fun K x r h => by
    rw [f23.body_eq]; exact h

def f19.spec : Dp.Spec := { args := (.scons .str .snil), res := .str, own := false, F := fun K x => f19 K x.1 }
def f19.hint : Dp.Hint := { n := 29, conds := [(19, [(.normal, { regs := [(3, (.fn 36 (.scons (.ref (.int .u8)) (.scons (.ref (.int .u8)) .snil)))), (4, (.slw 0)), (10, (.slw 0)), (11, (.int .i64)), (12, (.int .i64))], heap := [(.row (.int .u8))] })])], loops := [(4, { regs := [(3, (.fn 36 (.scons (.ref (.int .u8)) (.scons (.ref (.int .u8)) .snil)))), (4, (.slw 0)), (10, (.slw 0)), (11, (.int .i64)), (12, (.int .i64))], heap := [(.row (.int .u8))] }, [(.exit 0, { regs := [(4, (.slw 0))], heap := [(.row (.int .u8))] })])], own := [9] }
noncomputable def f19.env : Dp.Env := { ti := ti, gl := gl, fns := [(19, Tryd.f19, f19.hint)], specs := [(30, f30.spec), (36, f36.spec)], K := 0 }
noncomputable def f19.r0 (K : Nat) : Nat → ((((Int) × ((Int) × (Unit))) × ((Unit) × ((Unit) × ((Int) × ((Int) × (Unit)))))) × ((List (Int)) × (Unit))) → Option ((((Unit) × (Unit)) × ((List (Int)) × (Unit)))) :=
  loopV [(.exit 0, { regs := [(4, (.slw 0))], heap := [(.row (.int .u8))] })] { regs := [(3, (.fn 36 (.scons (.ref (.int .u8)) (.scons (.ref (.int .u8)) .snil)))), (4, (.slw 0)), (10, (.slw 0)), (11, (.int .i64)), (12, (.int .i64))], heap := [(.row (.int .u8))] } (interp (f19.env.at K) f19.hint (callF (f19.env.at K) 7) (Code.sub [1, 1, 1, 0, 1, 0, 0] (Tryd.f19.body.getD .skip)) _)
theorem f19.s0 (K n : Nat) (x : ((((Int) × ((Int) × (Unit))) × ((Unit) × ((Unit) × ((Int) × ((Int) × (Unit)))))) × ((List (Int)) × (Unit)))) : f19.r0 K (n + 1) x = f19.t0 K (f19.r0 K n) x := by kernel_rfl
theorem f19.e0 (K n : Nat) : f19.r0 K n = f19.l0 K n := by
  induction n with
  | zero => funext x; rfl
  | succ n ih => funext x; rw [f19.s0, ih]; rfl
theorem f19.body_eq (K : Nat) (x : f19.spec.args.den) : body (f19.env.at K) 8 19 f19.spec x = f19.tr (f19.r0 K) K x.1 := by kernel_rfl
theorem f19.contract : Contract Tryd.prog gl 19 f19.spec :=
  contract_of (E := f19.env) ⟨TIok_of tiOK, FnsOK_of ⟨⟨Tryd.func19, Tryd.call19⟩, trivial⟩, mixed⟩ (SpecsOK_of (E := f19.env) ⟨f30.contract, f36.contract, trivial⟩) Tryd.call19 rfl rfl fun K x r h => by
    rw [f19.body_eq, show f19.r0 K = f19.l0 K from funext (f19.e0 K)]; exact h

def f21.spec : Dp.Spec := { args := (.scons .str (.scons .str .snil)), res := .bool, own := false, F := fun K x => f21 K x.1 x.2.1 }
def f21.hint : Dp.Hint := { n := 17 }
noncomputable def f21.env : Dp.Env := { ti := ti, gl := gl, fns := [(21, Tryd.f21, f21.hint)], specs := [(19, f19.spec)], K := 0 }
theorem f21.body_eq (K : Nat) (x : f21.spec.args.den) : body (f21.env.at K) 8 21 f21.spec x = f21 K x.1 x.2.1 := by kernel_rfl
theorem f21.contract : Contract Tryd.prog gl 21 f21.spec :=
  contract_of (E := f21.env) ⟨TIok_of tiOK, FnsOK_of ⟨⟨Tryd.func21, Tryd.call21⟩, trivial⟩, mixed⟩ (SpecsOK_of (E := f21.env) ⟨f19.contract, trivial⟩) Tryd.call21 rfl rfl fun K x r h => by
    rw [f21.body_eq]; exact h

def f35.spec : Dp.Spec := { args := (.scons .str (.scons (.fn 10 .snil) .snil)), res := .bool, own := false, F := fun K x => f35 K x.1 }
def f35.hint : Dp.Hint := { n := 19, loops := [(2, { regs := [(1, (.fn 10 .snil)), (8, (.list (.int .u8))), (9, (.int .i64)), (10, (.int .i64))] }, [(.exit 0, { regs := [] }), (.ret, { regs := [(4, .bool)] })])] }
noncomputable def f35.env : Dp.Env := { ti := ti, gl := gl, fns := [(35, Tryd.f35, f35.hint)], specs := [(10, f10.spec)], K := 0 }
noncomputable def f35.r0 (K : Nat) : Nat → (((Unit) × ((List (Int)) × ((Int) × ((Int) × (Unit))))) × (Unit)) → Option (((Unit) × (Unit)) ⊕ (((Bool) × (Unit)) × (Unit))) :=
  loopV [(.exit 0, { regs := [] }), (.ret, { regs := [(4, .bool)] })] { regs := [(1, (.fn 10 .snil)), (8, (.list (.int .u8))), (9, (.int .i64)), (10, (.int .i64))] } (interp (f35.env.at K) f35.hint (callF (f35.env.at K) 7) (Code.sub [1, 0, 1, 0, 0] (Tryd.f35.body.getD .skip)) _)
theorem f35.s0 (K n : Nat) (x : (((Unit) × ((List (Int)) × ((Int) × ((Int) × (Unit))))) × (Unit))) : f35.r0 K (n + 1) x = f35.t0 K (f35.r0 K n) x := by kernel_rfl
theorem f35.e0 (K n : Nat) : f35.r0 K n = f35.l0 K n := by
  induction n with
  | zero => funext x; rfl
  | succ n ih => funext x; rw [f35.s0, ih]; rfl
theorem f35.body_eq (K : Nat) (x : f35.spec.args.den) : body (f35.env.at K) 8 35 f35.spec x = f35.tr (f35.r0 K) K x.1 := by kernel_rfl
theorem f35.contract : Contract Tryd.prog gl 35 f35.spec :=
  contract_of (E := f35.env) ⟨TIok_of tiOK, FnsOK_of ⟨⟨Tryd.func35, Tryd.call35⟩, trivial⟩, mixed⟩ (SpecsOK_of (E := f35.env) ⟨f10.contract, trivial⟩) Tryd.call35 rfl rfl fun K x r h => by
    rw [f35.body_eq, show f35.r0 K = f35.l0 K from funext (f35.e0 K)]; exact h

def f25.spec : Dp.Spec := { args := (.scons .str .snil), res := .bool, own := false, F := fun K x => f25 K x.1 }
def f25.hint : Dp.Hint := { n := 9 }
noncomputable def f25.env : Dp.Env := { ti := ti, gl := gl, fns := [(25, Tryd.f25, f25.hint)], specs := [(35, f35.spec)], K := 0 }
theorem f25.body_eq (K : Nat) (x : f25.spec.args.den) : body (f25.env.at K) 8 25 f25.spec x = f25 K x.1 := by kernel_rfl
theorem f25.contract : Contract Tryd.prog gl 25 f25.spec :=
  contract_of (E := f25.env) ⟨TIok_of tiOK, FnsOK_of ⟨⟨Tryd.func25, Tryd.call25⟩, trivial⟩, mixed⟩ (SpecsOK_of (E := f25.env) ⟨f35.contract, trivial⟩) Tryd.call25 rfl rfl fun K x r h => by
    rw [f25.body_eq]; exact h

def f35v1.spec : Dp.Spec := { args := (.scons .str (.scons (.fn 12 .snil) .snil)), res := .bool, own := false, F := fun K x => f35v1 K x.1 }
def f35v1.hint : Dp.Hint := { n := 19, loops := [(2, { regs := [(1, (.fn 12 .snil)), (8, (.list (.int .u8))), (9, (.int .i64)), (10, (.int .i64))] }, [(.exit 0, { regs := [] }), (.ret, { regs := [(4, .bool)] })])] }
noncomputable def f35v1.env : Dp.Env := { ti := ti, gl := gl, fns := [(35, Tryd.f35, f35v1.hint)], specs := [(12, f12.spec)], K := 0 }
noncomputable def f35v1.r0 (K : Nat) : Nat → (((Unit) × ((List (Int)) × ((Int) × ((Int) × (Unit))))) × (Unit)) → Option (((Unit) × (Unit)) ⊕ (((Bool) × (Unit)) × (Unit))) :=
  loopV [(.exit 0, { regs := [] }), (.ret, { regs := [(4, .bool)] })] { regs := [(1, (.fn 12 .snil)), (8, (.list (.int .u8))), (9, (.int .i64)), (10, (.int .i64))] } (interp (f35v1.env.at K) f35v1.hint (callF (f35v1.env.at K) 7) (Code.sub [1, 0, 1, 0, 0] (Tryd.f35.body.getD .skip)) _)
theorem f35v1.s0 (K n : Nat) (x : (((Unit) × ((List (Int)) × ((Int) × ((Int) × (Unit))))) × (Unit))) : f35v1.r0 K (n + 1) x = f35v1.t0 K (f35v1.r0 K n) x := by kernel_rfl
theorem f35v1.e0 (K n : Nat) : f35v1.r0 K n = f35v1.l0 K n := by
  induction n with
  | zero => funext x; rfl
  | succ n ih => funext x; rw [f35v1.s0, ih]; rfl
theorem f35v1.body_eq (K : Nat) (x : f35v1.spec.args.den) : body (f35v1.env.at K) 8 35 f35v1.spec x = f35v1.tr (f35v1.r0 K) K x.1 := by kernel_rfl
theorem f35v1.contract : Contract Tryd.prog gl 35 f35v1.spec :=
  contract_of (E := f35v1.env) ⟨TIok_of tiOK, FnsOK_of ⟨⟨Tryd.func35, Tryd.call35⟩, trivial⟩, mixed⟩ (SpecsOK_of (E := f35v1.env) ⟨f12.contract, trivial⟩) Tryd.call35 rfl rfl fun K x r h => by
    rw [f35v1.body_eq, show f35v1.r0 K = f35v1.l0 K from funext (f35v1.e0 K)]; exact h

def f27.spec : Dp.Spec := { args := (.scons .str .snil), res := .bool, own := false, F := fun K x => f27 K x.1 }
def f27.hint : Dp.Hint := { n := 5 }
noncomputable def f27.env : Dp.Env := { ti := ti, gl := gl, fns := [(27, Tryd.f27, f27.hint)], specs := [(35, f35v1.spec)], K := 0 }
theorem f27.body_eq (K : Nat) (x : f27.spec.args.den) : body (f27.env.at K) 8 27 f27.spec x = f27 K x.1 := by kernel_rfl
theorem f27.contract : Contract Tryd.prog gl 27 f27.spec :=
  contract_of (E := f27.env) ⟨TIok_of tiOK, FnsOK_of ⟨⟨Tryd.func27, Tryd.call27⟩, trivial⟩, mixed⟩ (SpecsOK_of (E := f27.env) ⟨f35v1.contract, trivial⟩) Tryd.call27 rfl rfl fun K x r h => by
    rw [f27.body_eq]; exact h

def f16.spec : Dp.Spec := { args := .snil, res := .bool, own := false, F := fun K x => f16 K }
def f16.hint : Dp.Hint := { n := 62 }
noncomputable def f16.env : Dp.Env := { ti := ti, gl := gl, fns := [(16, Tryd.f16, f16.hint)], specs := [(14, f14.spec), (8, f8.spec), (10, f10.spec), (12, f12.spec), (17, f17.spec), (23, f23.spec), (19, f19.spec), (21, f21.spec), (25, f25.spec), (27, f27.spec)], K := 0 }
theorem f16.body_eq (K : Nat) (x : f16.spec.args.den) : body (f16.env.at K) 8 16 f16.spec x = f16 K := by kernel_rfl
theorem f16.contract : Contract Tryd.prog gl 16 f16.spec :=
  contract_of (E := f16.env) ⟨TIok_of tiOK, FnsOK_of ⟨⟨Tryd.func16, Tryd.call16⟩, trivial⟩, mixed⟩ (SpecsOK_of (E := f16.env) ⟨f14.contract, f8.contract, f10.contract, f12.contract, f17.contract, f23.contract, f19.contract, f21.contract, f25.contract, f27.contract, trivial⟩) Tryd.call16 rfl rfl fun K x r h => by
    rw [f16.body_eq]; exact h

def f3.spec : Dp.Spec := { args := (.scons (.int .u8) .snil), res := .bool, own := false, F := fun K x => f3 K x.1 }
def f3.hint : Dp.Hint := { n := 49 }
noncomputable def f3.env : Dp.Env := { ti := ti, gl := gl, fns := [(3, Tryd.f3, f3.hint)], specs := [(14, f14.spec), (8, f8.spec), (9, f9.spec), (10, f10.spec), (11, f11.spec), (12, f12.spec), (13, f13.spec), (15, f15.spec), (16, f16.spec)], K := 0 }
theorem f3.body_eq (K : Nat) (x : f3.spec.args.den) : body (f3.env.at K) 8 3 f3.spec x = f3 K x.1 := by kernel_rfl
theorem f3.contract : Contract Tryd.prog gl 3 f3.spec :=
  contract_of (E := f3.env) ⟨TIok_of tiOK, FnsOK_of ⟨⟨Tryd.func3, Tryd.call3⟩, trivial⟩, mixed⟩ (SpecsOK_of (E := f3.env) ⟨f14.contract, f8.contract, f9.contract, f10.contract, f11.contract, f12.contract, f13.contract, f15.contract, f16.contract, trivial⟩) Tryd.call3 rfl rfl fun K x r h => by
    rw [f3.body_eq]; exact h

def f18.spec : Dp.Spec := { args := (.scons .str (.scons (.int .u8) .snil)), res := (.tup (.scons .str (.scons .str (.scons .bool .snil)))), own := false, F := fun K x => f18 K x.1 x.2.1 }
def f18.hint : Dp.Hint := { n := 27, loops := [(2, { regs := [(0, .str), (1, (.int .u8)), (7, (.int .i64))] }, [(.exit 0, { regs := [(0, .str)] }), (.ret, { regs := [(4, .str), (5, .str), (6, .bool)] })])] }
noncomputable def f18.env : Dp.Env := { ti := ti, gl := gl, fns := [(18, Tryd.f18, f18.hint)], specs := [], K := 0 }
noncomputable def f18.r0 (K : Nat) : Nat → (((List UInt8) × ((Int) × ((Int) × (Unit)))) × (Unit)) → Option ((((List UInt8) × (Unit)) × (Unit)) ⊕ (((List UInt8) × ((List UInt8) × ((Bool) × (Unit)))) × (Unit))) :=
  loopV [(.exit 0, { regs := [(0, .str)] }), (.ret, { regs := [(4, .str), (5, .str), (6, .bool)] })] { regs := [(0, .str), (1, (.int .u8)), (7, (.int .i64))] } (interp (f18.env.at K) f18.hint (callF (f18.env.at K) 7) (Code.sub [1, 0, 1, 0, 0] (Tryd.f18.body.getD .skip)) _)
theorem f18.s0 (K n : Nat) (x : (((List UInt8) × ((Int) × ((Int) × (Unit)))) × (Unit))) : f18.r0 K (n + 1) x = f18.t0 K (f18.r0 K n) x := by kernel_rfl
theorem f18.e0 (K n : Nat) : f18.r0 K n = f18.l0 K n := by
  induction n with
  | zero => funext x; rfl
  | succ n ih => funext x; rw [f18.s0, ih]; rfl
theorem f18.body_eq (K : Nat) (x : f18.spec.args.den) : body (f18.env.at K) 8 18 f18.spec x = f18.tr (f18.r0 K) K x.1 x.2.1 := by kernel_rfl
theorem f18.contract : Contract Tryd.prog gl 18 f18.spec :=
  contract_of (E := f18.env) ⟨TIok_of tiOK, FnsOK_of ⟨⟨Tryd.func18, Tryd.call18⟩, trivial⟩, mixed⟩ (SpecsOK_of (E := f18.env) trivial) Tryd.call18 rfl rfl fun K x r h => by
    rw [f18.body_eq, show f18.r0 K = f18.l0 K from funext (f18.e0 K)]; exact h

def f20.spec : Dp.Spec := { args := (.scons .str .snil), res := .str, own := false, F := fun K x => f20 K x.1 }
def f20.hint : Dp.Hint := { n := 35, conds := [(24, [(.normal, { regs := [(3, (.slw 0)), (4, (.int .i64))], heap := [(.row (.int .u8))] })])], regions := [(5, [(.normal, { regs := [(3, (.slw 0)), (4, (.int .i64)), (24, .bool)], heap := [(.row (.int .u8))] })])], loops := [(3, { regs := [(3, (.slw 0)), (4, (.int .i64))], heap := [(.row (.int .u8))] }, [(.exit 0, { regs := [(3, (.slw 0))], heap := [(.row (.int .u8))] })])], own := [6] }
noncomputable def f20.env : Dp.Env := { ti := ti, gl := gl, fns := [(20, Tryd.f20, f20.hint)], specs := [], K := 0 }
noncomputable def f20.r0 (K : Nat) : Nat → (((Unit) × ((Int) × (Unit))) × ((List (Int)) × (Unit))) → Option ((((Unit) × (Unit)) × ((List (Int)) × (Unit)))) :=
  loopV [(.exit 0, { regs := [(3, (.slw 0))], heap := [(.row (.int .u8))] })] { regs := [(3, (.slw 0)), (4, (.int .i64))], heap := [(.row (.int .u8))] } (interp (f20.env.at K) f20.hint (callF (f20.env.at K) 7) (Code.sub [1, 1, 0, 1, 0, 0] (Tryd.f20.body.getD .skip)) _)
theorem f20.s0 (K n : Nat) (x : (((Unit) × ((Int) × (Unit))) × ((List (Int)) × (Unit)))) : f20.r0 K (n + 1) x = f20.t0 K (f20.r0 K n) x := by kernel_rfl
theorem f20.e0 (K n : Nat) : f20.r0 K n = f20.l0 K n := by
  induction n with
  | zero => funext x; rfl
  | succ n ih => funext x; rw [f20.s0, ih]; rfl
theorem f20.body_eq (K : Nat) (x : f20.spec.args.den) : body (f20.env.at K) 8 20 f20.spec x = f20.tr (f20.r0 K) K x.1 := by kernel_rfl
theorem f20.contract : Contract Tryd.prog gl 20 f20.spec :=
  contract_of (E := f20.env) ⟨TIok_of tiOK, FnsOK_of ⟨⟨Tryd.func20, Tryd.call20⟩, trivial⟩, mixed⟩ (SpecsOK_of (E := f20.env) trivial) Tryd.call20 rfl rfl fun K x r h => by
    rw [f20.body_eq, show f20.r0 K = f20.l0 K from funext (f20.e0 K)]; exact h

def f22.spec : Dp.Spec := { args := (.scons .str (.scons .str .snil)), res := .bool, own := false, F := fun K x => f22 K x.1 x.2.1 }
def f22.hint : Dp.Hint := { n := 10 }
noncomputable def f22.env : Dp.Env := { ti := ti, gl := gl, fns := [(22, Tryd.f22, f22.hint)], specs := [(20, f20.spec)], K := 0 }
theorem f22.body_eq (K : Nat) (x : f22.spec.args.den) : body (f22.env.at K) 8 22 f22.spec x = f22 K x.1 x.2.1 := by kernel_rfl
theorem f22.contract : Contract Tryd.prog gl 22 f22.spec :=
  contract_of (E := f22.env) ⟨TIok_of tiOK, FnsOK_of ⟨⟨Tryd.func22, Tryd.call22⟩, trivial⟩, mixed⟩ (SpecsOK_of (E := f22.env) ⟨f20.contract, trivial⟩) Tryd.call22 rfl rfl fun K x r h => by
    rw [f22.body_eq]; exact h

def f34.spec : Dp.Spec := { args := (.scons (.int .u8) .snil), res := .bool, own := false, F := fun K x => f34 K x.1 }
def f34.hint : Dp.Hint := { n := 9 }
noncomputable def f34.env : Dp.Env := { ti := ti, gl := gl, fns := [(34, Tryd.f34, f34.hint)], specs := [], K := 0 }
theorem f34.body_eq (K : Nat) (x : f34.spec.args.den) : body (f34.env.at K) 8 34 f34.spec x = f34 K x.1 := by kernel_rfl
theorem f34.contract : Contract Tryd.prog gl 34 f34.spec :=
  contract_of (E := f34.env) ⟨TIok_of tiOK, FnsOK_of ⟨⟨Tryd.func34, Tryd.call34⟩, trivial⟩, mixed⟩ (SpecsOK_of (E := f34.env) trivial) Tryd.call34 rfl rfl fun K x r h => by
    rw [f34.body_eq]; exact h

def f24.spec : Dp.Spec := { args := (.scons .str .snil), res := .str, own := false, F := fun K x => f24 K x.1 }
def f24.hint : Dp.Hint := { n := 30, regions := [(1, [(.normal, { regs := [(0, .str), (10, .bool)] })]), (3, [(.normal, { regs := [(0, .str), (23, .bool)] })])], loops := [(1, { regs := [(0, .str)] }, [(.exit 0, { regs := [(0, .str)] })]), (3, { regs := [(0, .str)] }, [(.exit 2, { regs := [(0, .str)] })])] }
noncomputable def f24.env : Dp.Env := { ti := ti, gl := gl, fns := [(24, Tryd.f24, f24.hint)], specs := [(34, f34.spec)], K := 0 }
noncomputable def f24.r1 (K : Nat) : Nat → (((List UInt8) × (Unit)) × (Unit)) → Option ((((List UInt8) × (Unit)) × (Unit))) :=
  loopV [(.exit 2, { regs := [(0, .str)] })] { regs := [(0, .str)] } (interp (f24.env.at K) f24.hint (callF (f24.env.at K) 7) (Code.sub [1, 1, 0, 0, 0] (Tryd.f24.body.getD .skip)) _)
theorem f24.s1 (K n : Nat) (x : (((List UInt8) × (Unit)) × (Unit))) : f24.r1 K (n + 1) x = f24.t1 K (f24.r1 K n) x := by kernel_rfl
theorem f24.e1 (K n : Nat) : f24.r1 K n = f24.l1 K n := by
  induction n with
  | zero => funext x; rfl
  | succ n ih => funext x; rw [f24.s1, ih]; rfl
noncomputable def f24.r0 (K : Nat) : Nat → (((List UInt8) × (Unit)) × (Unit)) → Option ((((List UInt8) × (Unit)) × (Unit))) :=
  loopV [(.exit 0, { regs := [(0, .str)] })] { regs := [(0, .str)] } (interp (f24.env.at K) f24.hint (callF (f24.env.at K) 7) (Code.sub [1, 0, 0, 0] (Tryd.f24.body.getD .skip)) _)
theorem f24.s0 (K n : Nat) (x : (((List UInt8) × (Unit)) × (Unit))) : f24.r0 K (n + 1) x = f24.t0 K (f24.r0 K n) x := by kernel_rfl
theorem f24.e0 (K n : Nat) : f24.r0 K n = f24.l0 K n := by
  induction n with
  | zero => funext x; rfl
  | succ n ih => funext x; rw [f24.s0, ih]; rfl
theorem f24.body_eq (K : Nat) (x : f24.spec.args.den) : body (f24.env.at K) 8 24 f24.spec x = f24.tr (f24.r0 K) (f24.r1 K) K x.1 := by kernel_rfl
theorem f24.contract : Contract Tryd.prog gl 24 f24.spec :=
  contract_of (E := f24.env) ⟨TIok_of tiOK, FnsOK_of ⟨⟨Tryd.func24, Tryd.call24⟩, trivial⟩, mixed⟩ (SpecsOK_of (E := f24.env) ⟨f34.contract, trivial⟩) Tryd.call24 rfl rfl fun K x r h => by
    rw [f24.body_eq, show f24.r0 K = f24.l0 K from funext (f24.e0 K), show f24.r1 K = f24.l1 K from funext (f24.e1 K)]; exact h

def f26.spec : Dp.Spec := { args := (.scons .str .snil), res := .bool, own := false, F := fun K x => f26 K x.1 }
def f26.hint : Dp.Hint := { n := 18, loops := [(2, { regs := [(0, .str), (3, (.int .i64))] }, [(.exit 0, { regs := [(0, .str)] }), (.ret, { regs := [(2, .bool)] })])] }
noncomputable def f26.env : Dp.Env := { ti := ti, gl := gl, fns := [(26, Tryd.f26, f26.hint)], specs := [(11, f11.spec)], K := 0 }
noncomputable def f26.r0 (K : Nat) : Nat → (((List UInt8) × ((Int) × (Unit))) × (Unit)) → Option ((((List UInt8) × (Unit)) × (Unit)) ⊕ (((Bool) × (Unit)) × (Unit))) :=
  loopV [(.exit 0, { regs := [(0, .str)] }), (.ret, { regs := [(2, .bool)] })] { regs := [(0, .str), (3, (.int .i64))] } (interp (f26.env.at K) f26.hint (callF (f26.env.at K) 7) (Code.sub [1, 0, 1, 0, 0] (Tryd.f26.body.getD .skip)) _)
theorem f26.s0 (K n : Nat) (x : (((List UInt8) × ((Int) × (Unit))) × (Unit))) : f26.r0 K (n + 1) x = f26.t0 K (f26.r0 K n) x := by kernel_rfl
theorem f26.e0 (K n : Nat) : f26.r0 K n = f26.l0 K n := by
  induction n with
  | zero => funext x; rfl
  | succ n ih => funext x; rw [f26.s0, ih]; rfl
theorem f26.body_eq (K : Nat) (x : f26.spec.args.den) : body (f26.env.at K) 8 26 f26.spec x = f26.tr (f26.r0 K) K x.1 := by kernel_rfl
theorem f26.contract : Contract Tryd.prog gl 26 f26.spec :=
  contract_of (E := f26.env) ⟨TIok_of tiOK, FnsOK_of ⟨⟨Tryd.func26, Tryd.call26⟩, trivial⟩, mixed⟩ (SpecsOK_of (E := f26.env) ⟨f11.contract, trivial⟩) Tryd.call26 rfl rfl fun K x r h => by
    rw [f26.body_eq, show f26.r0 K = f26.l0 K from funext (f26.e0 K)]; exact h

def f28.spec : Dp.Spec := { args := (.scons .str .snil), res := .bool, own := false, F := fun K x => f28 K x.1 }
def f28.hint : Dp.Hint := { n := 15, loops := [(2, { regs := [(0, .str), (3, (.int .i64))] }, [(.exit 0, { regs := [] }), (.ret, { regs := [(2, .bool)] })])] }
noncomputable def f28.env : Dp.Env := { ti := ti, gl := gl, fns := [(28, Tryd.f28, f28.hint)], specs := [(13, f13.spec)], K := 0 }
noncomputable def f28.r0 (K : Nat) : Nat → (((List UInt8) × ((Int) × (Unit))) × (Unit)) → Option (((Unit) × (Unit)) ⊕ (((Bool) × (Unit)) × (Unit))) :=
  loopV [(.exit 0, { regs := [] }), (.ret, { regs := [(2, .bool)] })] { regs := [(0, .str), (3, (.int .i64))] } (interp (f28.env.at K) f28.hint (callF (f28.env.at K) 7) (Code.sub [1, 0, 1, 0, 0] (Tryd.f28.body.getD .skip)) _)
theorem f28.s0 (K n : Nat) (x : (((List UInt8) × ((Int) × (Unit))) × (Unit))) : f28.r0 K (n + 1) x = f28.t0 K (f28.r0 K n) x := by kernel_rfl
theorem f28.e0 (K n : Nat) : f28.r0 K n = f28.l0 K n := by
  induction n with
  | zero => funext x; rfl
  | succ n ih => funext x; rw [f28.s0, ih]; rfl
theorem f28.body_eq (K : Nat) (x : f28.spec.args.den) : body (f28.env.at K) 8 28 f28.spec x = f28.tr (f28.r0 K) K x.1 := by kernel_rfl
theorem f28.contract : Contract Tryd.prog gl 28 f28.spec :=
  contract_of (E := f28.env) ⟨TIok_of tiOK, FnsOK_of ⟨⟨Tryd.func28, Tryd.call28⟩, trivial⟩, mixed⟩ (SpecsOK_of (E := f28.env) ⟨f13.contract, trivial⟩) Tryd.call28 rfl rfl fun K x r h => by
    rw [f28.body_eq, show f28.r0 K = f28.l0 K from funext (f28.e0 K)]; exact h

def f4.spec : Dp.Spec := { args := (.scons .str (.scons .str (.scons (.int .u8) .snil))), res := .bool, own := false, F := fun K x => f4 K x.1 x.2.1 x.2.2.1 }
def f4.hint : Dp.Hint := { n := 89, regions := [(1, [(.normal, { regs := [(0, .str), (1, .str), (2, (.int .u8)), (20, .bool)] })])] }
noncomputable def f4.env : Dp.Env := { ti := ti, gl := gl, fns := [(4, Tryd.f4, f4.hint)], specs := [(17, f17.spec), (23, f23.spec), (19, f19.spec), (21, f21.spec), (25, f25.spec), (27, f27.spec), (16, f16.spec), (18, f18.spec), (20, f20.spec), (22, f22.spec), (24, f24.spec), (26, f26.spec), (28, f28.spec)], K := 0 }
theorem f4.body_eq (K : Nat) (x : f4.spec.args.den) : body (f4.env.at K) 8 4 f4.spec x = f4 K x.1 x.2.1 x.2.2.1 := by kernel_rfl
theorem f4.contract : Contract Tryd.prog gl 4 f4.spec :=
  contract_of (E := f4.env) ⟨TIok_of tiOK, FnsOK_of ⟨⟨Tryd.func4, Tryd.call4⟩, trivial⟩, mixed⟩ (SpecsOK_of (E := f4.env) ⟨f17.contract, f23.contract, f19.contract, f21.contract, f25.contract, f27.contract, f16.contract, f18.contract, f20.contract, f22.contract, f24.contract, f26.contract, f28.contract, trivial⟩) Tryd.call4 rfl rfl fun K x r h => by
    rw [f4.body_eq]; exact h

def f5.spec : Dp.Spec := { args := (.scons .str (.scons .str .snil)), res := .bool, own := false, F := fun K x => f5 K x.1 x.2.1 }
def f5.hint : Dp.Hint := { n := 62, regions := [(1, [(.normal, { regs := [(0, .str), (1, .str), (13, .bool)] })])] }
noncomputable def f5.env : Dp.Env := { ti := ti, gl := gl, fns := [(5, Tryd.f5, f5.hint)], specs := [(19, f19.spec), (21, f21.spec), (25, f25.spec), (16, f16.spec)], K := 0 }
theorem f5.body_eq (K : Nat) (x : f5.spec.args.den) : body (f5.env.at K) 8 5 f5.spec x = f5 K x.1 x.2.1 := by kernel_rfl
theorem f5.contract : Contract Tryd.prog gl 5 f5.spec :=
  contract_of (E := f5.env) ⟨TIok_of tiOK, FnsOK_of ⟨⟨Tryd.func5, Tryd.call5⟩, trivial⟩, mixed⟩ (SpecsOK_of (E := f5.env) ⟨f19.contract, f21.contract, f25.contract, f16.contract, trivial⟩) Tryd.call5 rfl rfl fun K x r h => by
    rw [f5.body_eq]; exact h

def f6.spec : Dp.Spec := { args := (.scons .str (.scons (.int .i64) (.scons (.int .i64) .snil))), res := .bool, own := false, F := fun K x => f6 K x.1 x.2.1 x.2.2.1 }
def f6.hint : Dp.Hint := { n := 80, regions := [(4, [(.normal, { regs := [(1, (.int .i64)), (2, (.int .i64)), (7, .str), (51, .bool)] })])], loops := [(8, { regs := [(1, (.int .i64)), (2, (.int .i64)), (7, .str), (8, .str), (9, (.int .i64))] }, [(.exit 0, { regs := [(2, (.int .i64)), (7, .str), (8, .str)] })]), (12, { regs := [(2, (.int .i64)), (7, .str), (8, .str), (10, (.int .i64))] }, [(.exit 2, { regs := [(7, .str), (8, .str)] })])] }
noncomputable def f6.env : Dp.Env := { ti := ti, gl := gl, fns := [(6, Tryd.f6, f6.hint)], specs := [(23, f23.spec), (16, f16.spec)], K := 0 }
noncomputable def f6.r1 (K : Nat) : Nat → (((Int) × ((List UInt8) × ((List UInt8) × ((Int) × (Unit))))) × (Unit)) → Option ((((List UInt8) × ((List UInt8) × (Unit))) × (Unit))) :=
  loopV [(.exit 2, { regs := [(7, .str), (8, .str)] })] { regs := [(2, (.int .i64)), (7, .str), (8, .str), (10, (.int .i64))] } (interp (f6.env.at K) f6.hint (callF (f6.env.at K) 7) (Code.sub [1, 1, 1, 1, 1, 1, 0, 1, 0, 0] (Tryd.f6.body.getD .skip)) _)
theorem f6.s1 (K n : Nat) (x : (((Int) × ((List UInt8) × ((List UInt8) × ((Int) × (Unit))))) × (Unit))) : f6.r1 K (n + 1) x = f6.t1 K (f6.r1 K n) x := by kernel_rfl
theorem f6.e1 (K n : Nat) : f6.r1 K n = f6.l1 K n := by
  induction n with
  | zero => funext x; rfl
  | succ n ih => funext x; rw [f6.s1, ih]; rfl
noncomputable def f6.r0 (K : Nat) : Nat → (((Int) × ((Int) × ((List UInt8) × ((List UInt8) × ((Int) × (Unit)))))) × (Unit)) → Option ((((Int) × ((List UInt8) × ((List UInt8) × (Unit)))) × (Unit))) :=
  loopV [(.exit 0, { regs := [(2, (.int .i64)), (7, .str), (8, .str)] })] { regs := [(1, (.int .i64)), (2, (.int .i64)), (7, .str), (8, .str), (9, (.int .i64))] } (interp (f6.env.at K) f6.hint (callF (f6.env.at K) 7) (Code.sub [1, 1, 1, 1, 1, 0, 1, 0, 0] (Tryd.f6.body.getD .skip)) _)
theorem f6.s0 (K n : Nat) (x : (((Int) × ((Int) × ((List UInt8) × ((List UInt8) × ((Int) × (Unit)))))) × (Unit))) : f6.r0 K (n + 1) x = f6.t0 K (f6.r0 K n) x := by kernel_rfl
theorem f6.e0 (K n : Nat) : f6.r0 K n = f6.l0 K n := by
  induction n with
  | zero => funext x; rfl
  | succ n ih => funext x; rw [f6.s0, ih]; rfl
theorem f6.body_eq (K : Nat) (x : f6.spec.args.den) : body (f6.env.at K) 8 6 f6.spec x = f6.tr (f6.r0 K) (f6.r1 K) K x.1 x.2.1 x.2.2.1 := by kernel_rfl
theorem f6.contract : Contract Tryd.prog gl 6 f6.spec :=
  contract_of (E := f6.env) ⟨TIok_of tiOK, FnsOK_of ⟨⟨Tryd.func6, Tryd.call6⟩, trivial⟩, mixed⟩ (SpecsOK_of (E := f6.env) ⟨f23.contract, f16.contract, trivial⟩) Tryd.call6 rfl rfl fun K x r h => by
    rw [f6.body_eq, show f6.r0 K = f6.l0 K from funext (f6.e0 K), show f6.r1 K = f6.l1 K from funext (f6.e1 K)]; exact h

def f7.spec : Dp.Spec := { args := (.scons .str (.scons (.int .u8) .snil)), res := .bool, own := false, F := fun K x => f7 K x.1 x.2.1 }
def f7.hint : Dp.Hint := { n := 55, regions := [(10, [(.normal, { regs := [(4, .bool)] })])], loops := [(5, { regs := [(0, .str), (1, (.int .u8)), (5, .str), (6, .str), (7, .bool), (8, (.int .i64))] }, [(.exit 0, { regs := [(0, .str), (1, (.int .u8)), (5, .str), (6, .str), (7, .bool)] }), (.ret, { regs := [(4, .bool)] })])] }
noncomputable def f7.env : Dp.Env := { ti := ti, gl := gl, fns := [(7, Tryd.f7, f7.hint)], specs := [(17, f17.spec), (16, f16.spec)], K := 0 }
noncomputable def f7.r0 (K : Nat) : Nat → (((List UInt8) × ((Int) × ((List UInt8) × ((List UInt8) × ((Bool) × ((Int) × (Unit))))))) × (Unit)) → Option ((((List UInt8) × ((Int) × ((List UInt8) × ((List UInt8) × ((Bool) × (Unit)))))) × (Unit)) ⊕ (((Bool) × (Unit)) × (Unit))) :=
  loopV [(.exit 0, { regs := [(0, .str), (1, (.int .u8)), (5, .str), (6, .str), (7, .bool)] }), (.ret, { regs := [(4, .bool)] })] { regs := [(0, .str), (1, (.int .u8)), (5, .str), (6, .str), (7, .bool), (8, (.int .i64))] } (interp (f7.env.at K) f7.hint (callF (f7.env.at K) 7) (Code.sub [1, 1, 1, 0, 1, 0, 0] (Tryd.f7.body.getD .skip)) _)
theorem f7.s0 (K n : Nat) (x : (((List UInt8) × ((Int) × ((List UInt8) × ((List UInt8) × ((Bool) × ((Int) × (Unit))))))) × (Unit))) : f7.r0 K (n + 1) x = f7.t0 K (f7.r0 K n) x := by kernel_rfl
theorem f7.e0 (K n : Nat) : f7.r0 K n = f7.l0 K n := by
  induction n with
  | zero => funext x; rfl
  | succ n ih => funext x; rw [f7.s0, ih]; rfl
theorem f7.body_eq (K : Nat) (x : f7.spec.args.den) : body (f7.env.at K) 8 7 f7.spec x = f7.tr (f7.r0 K) K x.1 x.2.1 := by kernel_rfl
theorem f7.contract : Contract Tryd.prog gl 7 f7.spec :=
  contract_of (E := f7.env) ⟨TIok_of tiOK, FnsOK_of ⟨⟨Tryd.func7, Tryd.call7⟩, trivial⟩, mixed⟩ (SpecsOK_of (E := f7.env) ⟨f17.contract, f16.contract, trivial⟩) Tryd.call7 rfl rfl fun K x r h => by
    rw [f7.body_eq, show f7.r0 K = f7.l0 K from funext (f7.e0 K)]; exact h

end Go.Proofs.X