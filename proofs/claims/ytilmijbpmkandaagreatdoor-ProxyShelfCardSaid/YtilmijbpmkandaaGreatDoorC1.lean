/- The contract of the closed example. No condition. -/
import Derived.Test.YtilmijbpmkandaaGreatDoorT1
import Derived.Test.YtilmijbpmkandaaGreatDoorT2
import Derived.Test.YtilmijbpmkandaaGreatDoorT3
import Derived.Test.YtilmijbpmkandaaGreatDoorT4
set_option linter.unusedVariables false
namespace Go.Proofs.X
open Go
theorem tab_ok : ∀ e ∈ ([e1, e2, e3, e4] : List Cm.Ent), Cm.EntOK cx e := by
  intro e h
  simp only [List.mem_cons, List.not_mem_nil, or_false] at h
  rcases h with rfl | rfl | rfl | rfl
  · exact e1_ok
  · exact e2_ok
  · exact e3_ok
  · exact e4_ok
set_option maxRecDepth 1000000 in
theorem texts_run : Cm.okT (Cm.callM cx [e1, e2, e3, e4] 60 4 .nil (Cm.st0 gl ids 10)) = true := by kernel_rfl
theorem textsC_ok : Dp.Contract Tryz.prog gl 4 Cm.spec0 := Cm.closed_table (C := cx) prog_ok tab_ok rfl rfl (by kernel_rfl) texts_run
end Go.Proofs.X
