/- The contract of the closed example. No condition. -/
import Derived.Test.YtohbjikggmkkhaaGreatDoorUA2
import Derived.Test.YtohbjikggmkkhaaGreatDoorUB2
import Derived.Test.YtohbjikggmkkhaaGreatDoorChecked
import Derived.KernelRfl
set_option linter.unusedVariables false
namespace Go.Proofs.X
open Go
theorem names_ok : Tryz.prog.funcs.toList.all (fun fn => !(fn.name == "runtime.NumGoroutine")) = true := by kernel_rfl
theorem enter_ok (f : Nat) (fn : Func) (c : Code) (h : cx.ft.get f = some fn) (hb : fn.body = some c) : Dp.EnterOK Tryz.prog f := by
  have hf : Tryz.prog.funcs[f]? = some fn := (Cm.ctx_ok Tryz.prog (Cm.glC ids) spL 10000).ft f fn h
  have hn : (fn.name == "runtime.NumGoroutine") = false := by
    have := List.all_eq_true.1 names_ok fn (Array.mem_toList_iff.2 (Array.mem_of_getElem? hf))
    simpa using this
  intro args w
  have hn' : ¬ fn.name = "runtime.NumGoroutine" := by simpa using hn
  unfold callFunc
  simp [Sem.run_bind, hf, hn', hb]
theorem sp_ok : Cm.SpOK cx := by
  intro f p h
  have h := Dp.look_mem h
  simp only [cx, Cm.ctx, spL, List.mem_cons, Prod.mk.injEq, List.not_mem_nil, or_false] at h
  rcases h with ⟨rfl, rfl⟩ | ⟨rfl, rfl⟩ | ⟨rfl, rfl⟩ | ⟨rfl, rfl⟩ | ⟨rfl, rfl⟩
  · exact Cm.same_is (C := cx) (fn := Tryz.f92) Tryz.func92 (by decide +kernel) rfl (by kernel_rfl) (by kernel_rfl)
  · exact Cm.mkz_is (C := cx) (fn := Tryz.f121) (t := 53) (ps := Tryz.f121.params) Tryz.func121 (by decide +kernel) rfl (by kernel_rfl) (by kernel_rfl) (show Tryz.prog.underlying 53 = some (.slice 5) by kernel_rfl)
  · exact Cm.row_is (C := cx) (G := Y.page_Blank) Y.page_Blank.contract Y.blF_ok
  · exact Cm.blank_is (C := cx) (G := Y.flash_blank) Y.flash_blank.ocontract Y.blank_ok
  · exact Cm.ib_is (C := cx) (fn := Tryz.f162) Tryz.func162 (by decide +kernel) rfl (by kernel_rfl) (by kernel_rfl)
theorem prog_ok : Cm.ProgOK cx := ⟨Cm.ctx_ok _ _ _ _, sp_ok, Checked.mixed Tryz.checked, enter_ok⟩
theorem textsC_ok : Dp.Contract Tryz.prog gl 6 Cm.spec0 := Cm.closed_contract prog_ok rfl rfl (by kernel_rfl) texts_run
end Go.Proofs.X
