/- The functions, as plain Lean. No condition. -/
import Derived.Test.YtohbjikggmkkhaaGreatDoorFc
set_option linter.unusedVariables false
namespace Go.Proofs.Y
open Go Go.Dp


/-! depot/flash.blank ((.int .i64)) -/
def flash_blank.t0 (K : Nat) (rec : (((Unit) × ((Int) × ((Int) × (Unit)))) × ((List (Int)) × ((List (Int)) × (Unit)))) → Option ((((Unit) × (Unit)) × ((List (Int)) × ((List (Int)) × (Unit)))))) (x : (((Unit) × ((Int) × ((Int) × (Unit)))) × ((List (Int)) × ((List (Int)) × (Unit))))) : Option ((((Unit) × (Unit)) × ((List (Int)) × ((List (Int)) × (Unit))))) :=
  (bif (decide (x.1.2.2.1 < x.1.2.1)) then (bif (decide (0 ≤ x.1.2.2.1) && decide (x.1.2.2.1 < (List.length x.2.2.1 : Int))) then (rec (((), (x.1.2.1, ((IntKind.wrap .i64 (x.1.2.2.1 + 1)), ()))), (x.2.1, ((List.set x.2.2.1 (Int.toNat x.1.2.2.1) 255), ())))) else none) else (some (((), ()), (x.2.1, (x.2.2.1, ())))))
def flash_blank.l0 (K : Nat) : Nat → (((Unit) × ((Int) × ((Int) × (Unit)))) × ((List (Int)) × ((List (Int)) × (Unit)))) → Option ((((Unit) × (Unit)) × ((List (Int)) × ((List (Int)) × (Unit)))))
  | 0, _ => none
  | n + 1, x => flash_blank.t0 K (flash_blank.l0 K n) x
def flash_blank.tr (l0 : Nat → (((Unit) × ((Int) × ((Int) × (Unit)))) × ((List (Int)) × ((List (Int)) × (Unit)))) → Option ((((Unit) × (Unit)) × ((List (Int)) × ((List (Int)) × (Unit)))))) (K : Nat) (a0 : Int) : Option (List (Int)) :=
  (bif (decide (a0 = a0) && decide (0 ≤ a0) && decide (Int.toNat a0 * 1 ≤ maxRoom) && true && true && true && true && true) then ((l0 K (((), ((List.length ((List.replicate (Int.toNat a0) (0 : Int))) : Int), (0, ()))), ([], ((List.replicate (Int.toNat a0) (0 : Int)), ())))).bind fun y1 => (some y1.2.2.1)) else none)
def flash_blank (K : Nat) (a0 : Int) : Option (List (Int)) := flash_blank.tr (flash_blank.l0 K) K a0

/-! depot/page.Blank ((.list (.int .u8))) -/
def page_Blank.t0 (K : Nat) (rec : (((List (Int)) × ((Int) × ((Int) × (Unit)))) × (Unit)) → Option (((Unit) × (Unit)) ⊕ (((Bool) × (Unit)) × (Unit)))) (x : (((List (Int)) × ((Int) × ((Int) × (Unit)))) × (Unit))) : Option (((Unit) × (Unit)) ⊕ (((Bool) × (Unit)) × (Unit))) :=
  (bif (decide (x.1.2.2.1 < x.1.2.1)) then (bif (decide (0 ≤ x.1.2.2.1) && decide (x.1.2.2.1 < (List.length x.1.1 : Int))) then (bif (!decide ((List.getD x.1.1 (Int.toNat x.1.2.2.1) 0) = 255)) then (some (.inr ((false, ()), ()))) else (rec ((x.1.1, (x.1.2.1, ((IntKind.wrap .i64 (x.1.2.2.1 + 1)), ()))), ()))) else none) else (some (.inl ((), ()))))
def page_Blank.l0 (K : Nat) : Nat → (((List (Int)) × ((Int) × ((Int) × (Unit)))) × (Unit)) → Option (((Unit) × (Unit)) ⊕ (((Bool) × (Unit)) × (Unit)))
  | 0, _ => none
  | n + 1, x => page_Blank.t0 K (page_Blank.l0 K n) x
def page_Blank.tr (l0 : Nat → (((List (Int)) × ((Int) × ((Int) × (Unit)))) × (Unit)) → Option (((Unit) × (Unit)) ⊕ (((Bool) × (Unit)) × (Unit)))) (K : Nat) (a0 : List (Int)) : Option (Bool) :=
  ((l0 K ((a0, ((List.length a0 : Int), (0, ()))), ())).bind fun y1 => (match y1 with | .inl z2 => (some true) | .inr z3 => (some z3.1.1)))
def page_Blank (K : Nat) (a0 : List (Int)) : Option (Bool) := page_Blank.tr (page_Blank.l0 K) K a0

end Go.Proofs.Y