/- The closed machine over this program: what is shown once. No condition. -/
import Derived.Test.YtilmijbpmkandaaGreatDoorG1
import Derived.Test.YtilmijbpmkandaaGreatDoorFe
import Derived.Shelf.Strings.Search3
import Derived.Test.YtilmijbpmkandaaGreatDoorChecked
import Derived.KernelRfl
set_option linter.unusedVariables false
namespace Go.Proofs
open Go.Shelf
def Tryz.lays219_ren : Go.Shelf.Ren := ⟨fun | 219 => 321 | 217 => 339 | 225 => 338 | 224 => 337 | 267 => 357 | 266 => 373 | 314 => 399 | n => n, fun | 9 => 9 | 3 => 3 | 4 => 4 | 5 => 5 | 46 => 179 | 146 => 476 | 51 => 367 | n => n, fun | 1 => 2 | n => n⟩
theorem Tryz.lays219 : Go.Proofs.Lays.n219 Tryz.prog Tryz.lays219_ren := {
  mixed := by kernel_rfl
  f217 := Tryz.func339.trans (congrArg some (by kernel_rfl))
  f219 := Tryz.func321.trans (congrArg some (by kernel_rfl))
  f224 := Tryz.func337.trans (congrArg some (by kernel_rfl))
  f225 := Tryz.func338.trans (congrArg some (by kernel_rfl))
  f266 := Tryz.func373.trans (congrArg some (by kernel_rfl))
  f267 := Tryz.func357.trans (congrArg some (by kernel_rfl))
  f314 := Tryz.func399.trans (congrArg some (by kernel_rfl))
  t3 := Tryz.underlying3
  a3 := Tryz.isAgg3
  z3 := Tryz.sizeOf3
  v3 := Tryz.zeroValue3
  t4 := Tryz.underlying4
  a4 := Tryz.isAgg4
  z4 := Tryz.sizeOf4
  v4 := Tryz.zeroValue4
  t5 := Tryz.underlying5
  a5 := Tryz.isAgg5
  z5 := Tryz.sizeOf5
  v5 := Tryz.zeroValue5
  t9 := Tryz.underlying9
  a9 := Tryz.isAgg9
  z9 := Tryz.sizeOf9
  v9 := Tryz.zeroValue9
  t46 := Tryz.underlying179
  a46 := Tryz.isAgg179
  z46 := Tryz.sizeOf179
  v46 := Tryz.zeroValue179
  t51 := Tryz.underlying367
  a51 := Tryz.isAgg367
  z51 := Tryz.sizeOf367
  v51 := Tryz.zeroValue367
  t146 := Tryz.underlying476
  a146 := Tryz.isAgg476
  z146 := Tryz.sizeOf476
  v146 := Tryz.zeroValue476
  g1 := by kernel_rfl }
open Go.RowKit Go.Lib in
theorem Tryz.stringslite_Index (s sub : ByteArray) (m : Int) (w : World) (hs : s.size < 4294967281) (hm : w.cell? ⟨2, 0, none⟩ = some (.int .i64 m)) :
    Calls Tryz.prog 321 #[.string s, .string sub] w fun e w' => e = .returned (.int .i64 (Lib.index s.data.toList sub.data.toList)) ∧ w' = w := Any.stringslite_Index Tryz.lays219 s sub m w hs hm
end Go.Proofs
namespace Go.Proofs.X
open Go
def ids : List Nat := [2, 0, 1, 3, 4, 5]
def spL : List (Nat × Cm.Sp) := [(333, .pure Cm.sameF),
  (334, .mkz 5),
  (373, .pure Cm.ibF),
  (360, .pure Cm.ctF),
  (321, .gpure 2 Cm.ixF)]
noncomputable def cx : Cm.Ctx := Cm.ctx Tryz.prog (Cm.glC ids) spL 10000
theorem names_ok : Tryz.prog.funcs.toList.all (fun fn => !(fn.name == "runtime.NumGoroutine")) = true := by kernel_rfl
theorem enter_ok (f : Nat) (fn : Func) (c : Code) (h : cx.ft.get f = some fn) (hb : fn.body = some c) : Dp.EnterOK Tryz.prog f := by
  have hf : Tryz.prog.funcs[f]? = some fn := (Cm.ctx_ok Tryz.prog (Cm.glC ids) spL 10000).ft f fn h
  have hn : (fn.name == "runtime.NumGoroutine") = false := by
    have := List.all_eq_true.1 names_ok fn (Array.mem_toList_iff.2 (Array.mem_of_getElem? hf))
    simpa using this
  intro args w
  have hn' : ¬ fn.name = "runtime.NumGoroutine" := by simpa using hn
  unfold callFunc
  simp [Sem.run_bind, hf, hn', hb]
theorem sp_ok : Cm.SpOK cx := by
  intro f p h
  have h := Dp.look_mem h
  simp only [cx, Cm.ctx, spL, List.mem_cons, Prod.mk.injEq, List.not_mem_nil, or_false] at h
  rcases h with ⟨rfl, rfl⟩ | ⟨rfl, rfl⟩ | ⟨rfl, rfl⟩ | ⟨rfl, rfl⟩ | ⟨rfl, rfl⟩
  · exact Cm.same_is (C := cx) (fn := Tryz.f333) Tryz.func333 (by decide +kernel) rfl (by kernel_rfl) (by kernel_rfl)
  · exact Cm.mkz_is (C := cx) (fn := Tryz.f334) (t := 30) (ps := Tryz.f334.params) Tryz.func334 (by decide +kernel) rfl (by kernel_rfl) (by kernel_rfl) (show Tryz.prog.underlying 30 = some (.slice 5) by kernel_rfl)
  · exact Cm.ib_is (C := cx) (fn := Tryz.f373) Tryz.func373 (by decide +kernel) rfl (by kernel_rfl) (by kernel_rfl)
  · exact Cm.ct_is (C := cx) (fn := Tryz.f360) Tryz.func360 (by decide +kernel) rfl (by kernel_rfl) (by kernel_rfl)
  · exact Cm.ix_is (C := cx) Tryz.call321 fun s sub m w h1 h2 => Tryz.stringslite_Index s sub m w h1 h2
theorem prog_ok : Cm.ProgOK cx := ⟨Cm.ctx_ok _ _ _ _, sp_ok, Checked.mixed Tryz.checked, enter_ok⟩
end Go.Proofs.X
