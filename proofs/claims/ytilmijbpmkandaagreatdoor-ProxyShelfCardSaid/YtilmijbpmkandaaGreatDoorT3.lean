/- A call in the closed example, whose run the kernel goes through. No condition. -/
import Derived.Test.YtilmijbpmkandaaGreatDoorT1
import Derived.Test.YtilmijbpmkandaaGreatDoorT2
set_option linter.unusedVariables false
namespace Go.Proofs.X
open Go Cm
def e3 : Cm.Ent := { f := 14, args := (ofL [(.p 12 0), (.s [71, 69, 84, 32, 47, 120, 32, 72, 84, 84, 80, 47, 49, 46, 49, 13, 10, 72, 111, 115, 116, 58, 32, 97, 13, 10, 13, 10]), (.s []), (.i .i64 130)]), nx := 1340, hp := [(2, .num), (5, (.cells 0 (Tr.mk [(.i .u64 1), (.i .u64 10), (.i .u64 100), (.i .u64 1000), (.i .u64 10000), (.i .u64 100000), (.i .u64 1000000), (.i .u64 10000000), (.i .u64 100000000), (.i .u64 1000000000), (.i .u64 10000000000), (.i .u64 100000000000), (.i .u64 1000000000000), (.i .u64 10000000000000), (.i .u64 100000000000000), (.i .u64 1000000000000000), (.i .u64 10000000000000000), (.i .u64 100000000000000000), (.i .u64 1000000000000000000), (.i .u64 10000000000000000000)]) 20 none 20)), (10, (.map [((.s [71, 69, 84, 32, 104, 116, 116, 112, 58, 47, 47, 97, 47, 120]), (.sl 1067 0 0 57 none))])), (11, (.cells 53 (Tr.mk [(.i .i64 1000), (.m 10)]) 2 none 0)), (12, (.cells 58 (Tr.mk [(.ifc 24 (.p 11 0))]) 1 none 0)), (1067, (.cells 5 (Tr.mk [(.i .u8 1), (.i .u8 100), (.i .u8 0), (.i .u8 0), (.i .u8 0), (.i .u8 0), (.i .u8 200), (.i .u8 0), (.i .u8 1), (.i .u8 2), (.i .u8 0), (.i .u8 0), (.i .u8 0), (.i .u8 79), (.i .u8 75), (.i .u8 1), (.i .u8 13), (.i .u8 0), (.i .u8 0), (.i .u8 0), (.i .u8 67), (.i .u8 97), (.i .u8 99), (.i .u8 104), (.i .u8 101), (.i .u8 45), (.i .u8 67), (.i .u8 111), (.i .u8 110), (.i .u8 116), (.i .u8 114), (.i .u8 111), (.i .u8 108), (.i .u8 10), (.i .u8 0), (.i .u8 0), (.i .u8 0), (.i .u8 109), (.i .u8 97), (.i .u8 120), (.i .u8 45), (.i .u8 97), (.i .u8 103), (.i .u8 101), (.i .u8 61), (.i .u8 54), (.i .u8 48), (.i .u8 5), (.i .u8 0), (.i .u8 0), (.i .u8 0), (.i .u8 104), (.i .u8 101), (.i .u8 108), (.i .u8 108), (.i .u8 111), (.i .u8 0)]) 57 (some 1) 0))], b := false, v := (.agg (ofL [(.s [72, 84, 84, 80, 47, 49, 46, 49, 32, 50, 48, 48, 32, 79, 75, 13, 10, 67, 97, 99, 104, 101, 45, 67, 111, 110, 116, 114, 111, 108, 58, 32, 109, 97, 120, 45, 97, 103, 101, 61, 54, 48, 13, 10, 65, 103, 101, 58, 32, 51, 48, 13, 10, 67, 111, 110, 116, 101, 110, 116, 45, 76, 101, 110, 103, 116, 104, 58, 32, 53, 13, 10, 13, 10, 104, 101, 108, 108, 111]), (.s []), (.i .i64 0)])), nx' := 2233, hp' := [], rl := [5, 11, 10, 1067, 2, 12], wl := [] }
theorem t3 : ∀ e ∈ ([e1, e2] : List Cm.Ent), Cm.EntOK cx e := by
  intro e h
  simp only [List.mem_cons, List.not_mem_nil, or_false] at h
  rcases h with rfl | rfl
  · exact e1_ok
  · exact e2_ok
set_option maxRecDepth 1000000 in
theorem e3_ok : Cm.EntOK cx e3 := Cm.ent_ok (d := 60) prog_ok t3 (by kernel_rfl)
end Go.Proofs.X
