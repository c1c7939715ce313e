/- The kernel's run of the closed example. No condition. -/
import Derived.Test.YtohbjikggmkkhaaGreatDoorUA1
import Derived.Test.YtohbjikggmkkhaaGreatDoorUB3
import Derived.Test.YtohbjikggmkkhaaGreatDoorFe
import Derived.Test.YtohbjikggmkkhaaGreatDoorProg
import Derived.KernelRfl
set_option linter.unusedVariables false
namespace Go.Proofs.X
open Go
def ids : List Nat := [1, 2, 3, 6, 7, 8]
def spL : List (Nat × Cm.Sp) := [(92, .pure Cm.sameF), (121, .mkz 5), (237, .row Y.blF), (94, .mkr Cm.blankF), (162, .pure Cm.ibF)]
noncomputable def cx : Cm.Ctx := Cm.ctx Tryz.prog (Cm.glC ids) spL 10000
set_option maxRecDepth 1000000 in
theorem texts_run : Cm.okT (Cm.callF cx 60 6 .nil (Cm.st0 gl ids 11)) = true := by kernel_rfl
end Go.Proofs.X
