/-
  A part of the proof. No condition.
-/
import Derived.Test.YtidmfdgokeijlaaDoorFc
/- The functions, as plain Lean. -/
set_option linter.unusedVariables false
namespace Go.Proofs.X
open Go Go.Dp

def ixb (K : Nat) (s : List UInt8) (c : Int) : Option Int := some (indexByteF s c)
def asciiSet (K : Nat) (s : List UInt8) : Option ((List Bool) × Bool × Unit) := asciiSetF s
/-! depot/octet.from ((.int .u8), (.int .u8)) -/
def octet_from (K : Nat) (a0 : Int) (a1 : Int) : Option ((Int) × ((Int) × (Unit))) :=
  (some (a0, (a1, ())))

/-! depot/octet.from$1 ((.int .u8), (.ref (.int .u8)), (.ref (.int .u8))) -/
def octet_from_c1 (K : Nat) (a0 : Int) (a1 : Int) (a2 : Int) : Option (Bool) :=
  (bif (decide (a0 ≥ a1)) then (some (decide (a0 ≤ a2))) else (some false))

/-! depot/octet.is ((.int .u8), (.hl (.scons (.fn 36 (.scons (.ref (.int .u8)) (.scons (.ref (.int .u8)) .snil))) .snil))) -/
def octet_is__from_c1 (K : Nat) (a0 : Int) (a1 : ((Int) × ((Int) × (Unit))) × (Unit)) : Option (Bool) :=
  (Option.bind (octet_from_c1 K a0 a1.1.1 a1.1.2.1) fun r3 => (bif r3 then (some true) else (some false)))

/-! depot/octet.Digit ((.int .u8)) -/
def octet_Digit (K : Nat) (a0 : Int) : Option (Bool) :=
  (Option.bind (octet_from K 48 57) fun r3 => (Option.bind (octet_is__from_c1 K a0 (((r3.1, (r3.2.1, ())), ()))) fun r4 => (some r4)))

/-! depot/octet.Hex ((.int .u8)) -/
def octet_Hex (K : Nat) (a0 : Int) : Option ((Int) × ((Bool) × (Unit))) :=
  (Option.bind (octet_Digit K a0) fun r17 => (bif r17 then (some ((IntKind.wrap .i64 (IntKind.wrap .u8 (a0 - 48))), (true, ()))) else (Option.bind (octet_from K 97 102) fun r18 => (Option.bind (octet_is__from_c1 K a0 (((r18.1, (r18.2.1, ())), ()))) fun r19 => (bif r19 then (some ((IntKind.wrap .i64 ((IntKind.wrap .i64 (IntKind.wrap .u8 (a0 - 97))) + 10)), (true, ()))) else (Option.bind (octet_from K 65 70) fun r20 => (Option.bind (octet_is__from_c1 K a0 (((r20.1, (r20.2.1, ())), ()))) fun r21 => (bif r21 then (some ((IntKind.wrap .i64 ((IntKind.wrap .i64 (IntKind.wrap .u8 (a0 - 65))) + 10)), (true, ()))) else (some (0, (false, ())))))))))))

/-! depot/depotref01.Hex ((.int .u8)) -/
def depotref01_Hex.t0 (K : Nat) (rec : (((Int) × ((List UInt8) × ((List UInt8) × ((Int) × (Unit))))) × (Unit)) → Option (((Unit) × (Unit)) ⊕ (((Int) × ((Bool) × (Unit))) × (Unit)))) (x : (((Int) × ((List UInt8) × ((List UInt8) × ((Int) × (Unit))))) × (Unit))) : Option (((Unit) × (Unit)) ⊕ (((Int) × ((Bool) × (Unit))) × (Unit))) :=
  (bif (decide (x.1.2.2.2.1 < 16)) then (Option.bind ((bif (decide (0 ≤ x.1.2.2.2.1) && decide (x.1.2.2.2.1 < (List.length x.1.2.1 : Int))) then (bif (!(decide (((List.getD x.1.2.1 (Int.toNat x.1.2.2.2.1) 0).toNat : Int) = x.1.1))) then (bif (decide (0 ≤ x.1.2.2.2.1) && decide (x.1.2.2.2.1 < (List.length x.1.2.2.1 : Int))) then (some ((x.1.1, (x.1.2.1, (x.1.2.2.1, (x.1.2.2.2.1, ((decide (((List.getD x.1.2.2.1 (Int.toNat x.1.2.2.2.1) 0).toNat : Int) = x.1.1)), ()))))), ())) else none) else (some ((x.1.1, (x.1.2.1, (x.1.2.2.1, (x.1.2.2.2.1, (true, ()))))), ()))) else none) : Option ((((Int) × ((List UInt8) × ((List UInt8) × ((Int) × ((Bool) × (Unit)))))) × (Unit)))) fun y3 => (bif y3.1.2.2.2.2.1 then (some (.inr ((y3.1.2.2.2.1, (true, ())), ()))) else (rec ((y3.1.1, (y3.1.2.1, (y3.1.2.2.1, ((IntKind.wrap .i64 (y3.1.2.2.2.1 + 1)), ())))), ())))) else (some (.inl ((), ()))))
def depotref01_Hex.l0 (K : Nat) : Nat → (((Int) × ((List UInt8) × ((List UInt8) × ((Int) × (Unit))))) × (Unit)) → Option (((Unit) × (Unit)) ⊕ (((Int) × ((Bool) × (Unit))) × (Unit)))
  | 0, _ => none
  | n + 1, x => depotref01_Hex.t0 K (depotref01_Hex.l0 K n) x
def depotref01_Hex.tr (l0 : Nat → (((Int) × ((List UInt8) × ((List UInt8) × ((Int) × (Unit))))) × (Unit)) → Option (((Unit) × (Unit)) ⊕ (((Int) × ((Bool) × (Unit))) × (Unit)))) (K : Nat) (a0 : Int) : Option ((Int) × ((Bool) × (Unit))) :=
  (Option.bind (l0 K ((a0, ([48, 49, 50, 51, 52, 53, 54, 55, 56, 57, 97, 98, 99, 100, 101, 102], ([48, 49, 50, 51, 52, 53, 54, 55, 56, 57, 65, 66, 67, 68, 69, 70], (0, ())))), ())) fun y4 => (match y4 with | .inl z5 => (some (0, (false, ()))) | .inr z6 => (some (z6.1.1, (z6.1.2.1, ())))))
def depotref01_Hex (K : Nat) (a0 : Int) : Option ((Int) × ((Bool) × (Unit))) := depotref01_Hex.tr (depotref01_Hex.l0 K) K a0

/-! depot/octet.oneOf (.str) -/
def octet_oneOf (K : Nat) (a0 : List UInt8) : Option ((List UInt8) × (Unit)) :=
  (some (a0, ()))

/-! internal/stringslite.IndexByte (.str, (.int .u8)) -/
def stringslite_IndexByte (K : Nat) (a0 : List UInt8) (a1 : Int) : Option (Int) :=
  (Option.bind (ixb K a0 a1) fun r2 => (some r2))

/-! strings.IndexByte (.str, (.int .u8)) -/
def strings_IndexByte (K : Nat) (a0 : List UInt8) (a1 : Int) : Option (Int) :=
  (Option.bind (stringslite_IndexByte K a0 a1) fun r2 => (some r2))

/-! depot/octet.oneOf$1 ((.int .u8), (.ref .str)) -/
def octet_oneOf_c1 (K : Nat) (a0 : Int) (a1 : List UInt8) : Option (Bool) :=
  (Option.bind (strings_IndexByte K a1 a0) fun r2 => (some (decide (r2 ≥ 0))))

/-! depot/octet.is ((.int .u8), (.hl (.scons (.fn 14 .snil) (.scons (.fn 36 (.scons (.ref (.int .u8)) (.scons (.ref (.int .u8)) .snil))) (.scons (.fn 36 (.scons (.ref (.int .u8)) (.scons (.ref (.int .u8)) .snil))) (.scons (.fn 37 (.scons (.ref .str) .snil)) .snil)))))) -/
def octet_is__Digit_from_c1_from_c1_oneOf_c1 (K : Nat) (a0 : Int) (a1 : (Unit) × (((Int) × ((Int) × (Unit))) × (((Int) × ((Int) × (Unit))) × (((List UInt8) × (Unit)) × (Unit))))) : Option (Bool) :=
  (Option.bind (octet_Digit K a0) fun r3 => (bif r3 then (some true) else (Option.bind (octet_from_c1 K a0 a1.2.1.1 a1.2.1.2.1) fun r4 => (bif r4 then (some true) else (Option.bind (octet_from_c1 K a0 a1.2.2.1.1 a1.2.2.1.2.1) fun r5 => (bif r5 then (some true) else (Option.bind (octet_oneOf_c1 K a0 a1.2.2.2.1.1) fun r6 => (bif r6 then (some true) else (some false)))))))))

/-! depot/octet.Token ((.int .u8)) -/
def octet_Token (K : Nat) (a0 : Int) : Option (Bool) :=
  (Option.bind (octet_from K 65 90) fun r5 => (Option.bind (octet_from K 97 122) fun r6 => (Option.bind (octet_oneOf K ([33, 35, 36, 37, 38, 39, 42, 43, 45, 46, 94, 95, 96, 124, 126] : List UInt8)) fun r7 => (Option.bind (octet_is__Digit_from_c1_from_c1_oneOf_c1 K a0 (((), ((r5.1, (r5.2.1, ())), ((r6.1, (r6.2.1, ())), ((r7.1, ()), ())))))) fun r8 => (some r8)))))

/-! depot/depotref01.Token ((.int .u8)) -/
def depotref01_Token.t0 (K : Nat) (rec : (((Int) × ((List UInt8) × ((Int) × (Unit)))) × (Unit)) → Option (((Unit) × (Unit)) ⊕ (((Bool) × (Unit)) × (Unit)))) (x : (((Int) × ((List UInt8) × ((Int) × (Unit)))) × (Unit))) : Option (((Unit) × (Unit)) ⊕ (((Bool) × (Unit)) × (Unit))) :=
  (bif (decide (x.1.2.2.1 < (List.length x.1.2.1 : Int))) then (bif (decide (0 ≤ x.1.2.2.1) && decide (x.1.2.2.1 < (List.length x.1.2.1 : Int))) then (bif (decide (((List.getD x.1.2.1 (Int.toNat x.1.2.2.1) 0).toNat : Int) = x.1.1)) then (some (.inr ((true, ()), ()))) else (rec ((x.1.1, (x.1.2.1, ((IntKind.wrap .i64 (x.1.2.2.1 + 1)), ()))), ()))) else none) else (some (.inl ((), ()))))
def depotref01_Token.l0 (K : Nat) : Nat → (((Int) × ((List UInt8) × ((Int) × (Unit)))) × (Unit)) → Option (((Unit) × (Unit)) ⊕ (((Bool) × (Unit)) × (Unit)))
  | 0, _ => none
  | n + 1, x => depotref01_Token.t0 K (depotref01_Token.l0 K n) x
def depotref01_Token.tr (l0 : Nat → (((Int) × ((List UInt8) × ((Int) × (Unit)))) × (Unit)) → Option (((Unit) × (Unit)) ⊕ (((Bool) × (Unit)) × (Unit)))) (K : Nat) (a0 : Int) : Option (Bool) :=
  (Option.bind ((bif (decide (a0 ≥ 65)) then (bif (!(decide (a0 ≤ 90))) then (bif (decide (a0 ≥ 97)) then (bif (!(decide (a0 ≤ 122))) then (bif (decide (a0 ≥ 48)) then (some ((a0, ((decide (a0 ≤ 57)), ())), ())) else (some ((a0, (false, ())), ()))) else (some ((a0, (true, ())), ()))) else (bif (decide (a0 ≥ 48)) then (some ((a0, ((decide (a0 ≤ 57)), ())), ())) else (some ((a0, (false, ())), ())))) else (some ((a0, (true, ())), ()))) else (bif (decide (a0 ≥ 97)) then (bif (!(decide (a0 ≤ 122))) then (bif (decide (a0 ≥ 48)) then (some ((a0, ((decide (a0 ≤ 57)), ())), ())) else (some ((a0, (false, ())), ()))) else (some ((a0, (true, ())), ()))) else (bif (decide (a0 ≥ 48)) then (some ((a0, ((decide (a0 ≤ 57)), ())), ())) else (some ((a0, (false, ())), ()))))) : Option ((((Int) × ((Bool) × (Unit))) × (Unit)))) fun y1 => (bif y1.1.2.1 then (some true) else (Option.bind (l0 K ((y1.1.1, ([33, 35, 36, 37, 38, 39, 42, 43, 45, 46, 94, 95, 96, 124, 126], (0, ()))), ())) fun y2 => (match y2 with | .inl z3 => (some false) | .inr z4 => (some z4.1.1)))))
def depotref01_Token (K : Nat) (a0 : Int) : Option (Bool) := depotref01_Token.tr (depotref01_Token.l0 K) K a0

/-! depot/octet.is ((.int .u8), (.hl (.scons (.fn 36 (.scons (.ref (.int .u8)) (.scons (.ref (.int .u8)) .snil))) (.scons (.fn 37 (.scons (.ref .str) .snil)) (.scons (.fn 36 (.scons (.ref (.int .u8)) (.scons (.ref (.int .u8)) .snil))) .snil))))) -/
def octet_is__from_c1_oneOf_c1_from_c1 (K : Nat) (a0 : Int) (a1 : ((Int) × ((Int) × (Unit))) × (((List UInt8) × (Unit)) × (((Int) × ((Int) × (Unit))) × (Unit)))) : Option (Bool) :=
  (Option.bind (octet_from_c1 K a0 a1.1.1 a1.1.2.1) fun r3 => (bif r3 then (some true) else (Option.bind (octet_oneOf_c1 K a0 a1.2.1.1) fun r4 => (bif r4 then (some true) else (Option.bind (octet_from_c1 K a0 a1.2.2.1.1 a1.2.2.1.2.1) fun r5 => (bif r5 then (some true) else (some false)))))))

/-! depot/octet.Text ((.int .u8)) -/
def octet_Text (K : Nat) (a0 : Int) : Option (Bool) :=
  (Option.bind (octet_from K 32 126) fun r5 => (Option.bind (octet_oneOf K ([9] : List UInt8)) fun r6 => (Option.bind (octet_from K 128 255) fun r7 => (Option.bind (octet_is__from_c1_oneOf_c1_from_c1 K a0 (((r5.1, (r5.2.1, ())), ((r6.1, ()), ((r7.1, (r7.2.1, ())), ()))))) fun r8 => (some r8)))))

/-! depot/depotref01.Text ((.int .u8)) -/
def depotref01_Text (K : Nat) (a0 : Int) : Option (Bool) :=
  (bif (!(decide (a0 = 9))) then (bif (decide (a0 ≥ 32)) then (some (!decide (a0 = 127))) else (some false)) else (some true))

/-! depot/depotref01.Digit ((.int .u8)) -/
def depotref01_Digit (K : Nat) (a0 : Int) : Option (Bool) :=
  (Option.bind (depotref01_Hex K a0) fun r2 => (bif r2.2.1 then (some (decide (r2.1 < 10))) else (some false)))

/-! depot/octet.Cut (.str, (.int .u8)) -/
def octet_Cut (K : Nat) (a0 : List UInt8) (a1 : Int) : Option ((List UInt8) × ((List UInt8) × ((Bool) × (Unit)))) :=
  (Option.bind (strings_IndexByte K a0 a1) fun r2 => (bif (decide (r2 < 0)) then (some (a0, ([], (false, ())))) else (bif (decide (0 ≤ r2) && decide (r2 ≤ (List.length a0 : Int))) then (bif (decide (0 ≤ (IntKind.wrap .i64 (r2 + 1))) && decide ((IntKind.wrap .i64 (r2 + 1)) ≤ (List.length a0 : Int))) then (some ((cut a0 0 ((Int.toNat r2))), ((cut a0 (Int.toNat (IntKind.wrap .i64 (r2 + 1))) (List.length a0)), (true, ())))) else none) else none)))

/-! strings.trimRightByte (.str, (.int .u8)) -/
def strings_trimRightByte.t0 (K : Nat) (rec : (((List UInt8) × ((Int) × (Unit))) × (Unit)) → Option ((((List UInt8) × (Unit)) × (Unit)))) (x : (((List UInt8) × ((Int) × (Unit))) × (Unit))) : Option ((((List UInt8) × (Unit)) × (Unit))) :=
  (Option.bind ((bif (decide ((List.length x.1.1 : Int) > 0)) then (bif (decide (0 ≤ (IntKind.wrap .i64 ((List.length x.1.1 : Int) - 1))) && decide ((IntKind.wrap .i64 ((List.length x.1.1 : Int) - 1)) < (List.length x.1.1 : Int))) then (some ((x.1.1, (x.1.2.1, ((decide (((List.getD x.1.1 (Int.toNat (IntKind.wrap .i64 ((List.length x.1.1 : Int) - 1))) 0).toNat : Int) = x.1.2.1)), ()))), ())) else none) else (some ((x.1.1, (x.1.2.1, (false, ()))), ()))) : Option ((((List UInt8) × ((Int) × ((Bool) × (Unit)))) × (Unit)))) fun y2 => (bif y2.1.2.2.1 then (bif (decide (0 ≤ (IntKind.wrap .i64 ((List.length y2.1.1 : Int) - 1))) && decide ((IntKind.wrap .i64 ((List.length y2.1.1 : Int) - 1)) ≤ (List.length y2.1.1 : Int))) then (rec (((cut y2.1.1 0 ((Int.toNat (IntKind.wrap .i64 ((List.length y2.1.1 : Int) - 1))))), (y2.1.2.1, ())), ())) else none) else (some ((y2.1.1, ()), ()))))
def strings_trimRightByte.l0 (K : Nat) : Nat → (((List UInt8) × ((Int) × (Unit))) × (Unit)) → Option ((((List UInt8) × (Unit)) × (Unit)))
  | 0, _ => none
  | n + 1, x => strings_trimRightByte.t0 K (strings_trimRightByte.l0 K n) x
def strings_trimRightByte.tr (l0 : Nat → (((List UInt8) × ((Int) × (Unit))) × (Unit)) → Option ((((List UInt8) × (Unit)) × (Unit)))) (K : Nat) (a0 : List UInt8) (a1 : Int) : Option (List UInt8) :=
  (Option.bind (l0 K ((a0, (a1, ())), ())) fun y3 => (some y3.1.1))
def strings_trimRightByte (K : Nat) (a0 : List UInt8) (a1 : Int) : Option (List UInt8) := strings_trimRightByte.tr (strings_trimRightByte.l0 K) K a0 a1

/-! strings.trimLeftByte (.str, (.int .u8)) -/
def strings_trimLeftByte.t0 (K : Nat) (rec : (((List UInt8) × ((Int) × (Unit))) × (Unit)) → Option ((((List UInt8) × (Unit)) × (Unit)))) (x : (((List UInt8) × ((Int) × (Unit))) × (Unit))) : Option ((((List UInt8) × (Unit)) × (Unit))) :=
  (Option.bind ((bif (decide ((List.length x.1.1 : Int) > 0)) then (bif (decide (0 ≤ 0) && decide (0 < (List.length x.1.1 : Int))) then (some ((x.1.1, (x.1.2.1, ((decide (((List.getD x.1.1 (Int.toNat 0) 0).toNat : Int) = x.1.2.1)), ()))), ())) else none) else (some ((x.1.1, (x.1.2.1, (false, ()))), ()))) : Option ((((List UInt8) × ((Int) × ((Bool) × (Unit)))) × (Unit)))) fun y2 => (bif y2.1.2.2.1 then (bif (decide (0 ≤ 1) && decide (1 ≤ (List.length y2.1.1 : Int))) then (rec (((cut y2.1.1 1 (List.length y2.1.1)), (y2.1.2.1, ())), ())) else none) else (some ((y2.1.1, ()), ()))))
def strings_trimLeftByte.l0 (K : Nat) : Nat → (((List UInt8) × ((Int) × (Unit))) × (Unit)) → Option ((((List UInt8) × (Unit)) × (Unit)))
  | 0, _ => none
  | n + 1, x => strings_trimLeftByte.t0 K (strings_trimLeftByte.l0 K n) x
def strings_trimLeftByte.tr (l0 : Nat → (((List UInt8) × ((Int) × (Unit))) × (Unit)) → Option ((((List UInt8) × (Unit)) × (Unit)))) (K : Nat) (a0 : List UInt8) (a1 : Int) : Option (List UInt8) :=
  (Option.bind (l0 K ((a0, (a1, ())), ())) fun y3 => (some y3.1.1))
def strings_trimLeftByte (K : Nat) (a0 : List UInt8) (a1 : Int) : Option (List UInt8) := strings_trimLeftByte.tr (strings_trimLeftByte.l0 K) K a0 a1

/-! (*strings.asciiSet).contains ((.ref (.arr 256 .bool)), (.int .u8)) -/
def strings_asciiSet_contains (K : Nat) (a0 : List (Bool)) (a1 : Int) : Option (Bool) :=
  (bif (decide (0 ≤ a1) && decide (a1 < 256)) then (some (List.getD (a0 : List (Bool)) (Int.toNat a1) false)) else none)

/-! strings.trimRightASCII (.str, (.ref (.arr 256 .bool))) -/
def strings_trimRightASCII.t0 (K : Nat) (rec : (((List UInt8) × ((List (Bool)) × (Unit))) × (Unit)) → Option ((((List UInt8) × (Unit)) × (Unit)))) (x : (((List UInt8) × ((List (Bool)) × (Unit))) × (Unit))) : Option ((((List UInt8) × (Unit)) × (Unit))) :=
  (bif (decide ((List.length x.1.1 : Int) > 0)) then (bif (decide (0 ≤ (IntKind.wrap .i64 ((List.length x.1.1 : Int) - 1))) && decide ((IntKind.wrap .i64 ((List.length x.1.1 : Int) - 1)) < (List.length x.1.1 : Int))) then (Option.bind (strings_asciiSet_contains K x.1.2.1 (((List.getD x.1.1 (Int.toNat (IntKind.wrap .i64 ((List.length x.1.1 : Int) - 1))) 0).toNat : Int))) fun r4 => (bif (!r4) then (some ((x.1.1, ()), ())) else (bif (decide (0 ≤ (IntKind.wrap .i64 ((List.length x.1.1 : Int) - 1))) && decide ((IntKind.wrap .i64 ((List.length x.1.1 : Int) - 1)) ≤ (List.length x.1.1 : Int))) then (rec (((cut x.1.1 0 ((Int.toNat (IntKind.wrap .i64 ((List.length x.1.1 : Int) - 1))))), (x.1.2.1, ())), ())) else none))) else none) else (some ((x.1.1, ()), ())))
def strings_trimRightASCII.l0 (K : Nat) : Nat → (((List UInt8) × ((List (Bool)) × (Unit))) × (Unit)) → Option ((((List UInt8) × (Unit)) × (Unit)))
  | 0, _ => none
  | n + 1, x => strings_trimRightASCII.t0 K (strings_trimRightASCII.l0 K n) x
def strings_trimRightASCII.tr (l0 : Nat → (((List UInt8) × ((List (Bool)) × (Unit))) × (Unit)) → Option ((((List UInt8) × (Unit)) × (Unit)))) (K : Nat) (a0 : List UInt8) (a1 : List (Bool)) : Option (List UInt8) :=
  (Option.bind (l0 K ((a0, (a1, ())), ())) fun y5 => (some y5.1.1))
def strings_trimRightASCII (K : Nat) (a0 : List UInt8) (a1 : List (Bool)) : Option (List UInt8) := strings_trimRightASCII.tr (strings_trimRightASCII.l0 K) K a0 a1

/-! strings.trimLeftASCII (.str, (.ref (.arr 256 .bool))) -/
def strings_trimLeftASCII.t0 (K : Nat) (rec : (((List UInt8) × ((List (Bool)) × (Unit))) × (Unit)) → Option ((((List UInt8) × (Unit)) × (Unit)))) (x : (((List UInt8) × ((List (Bool)) × (Unit))) × (Unit))) : Option ((((List UInt8) × (Unit)) × (Unit))) :=
  (bif (decide ((List.length x.1.1 : Int) > 0)) then (bif (decide (0 ≤ 0) && decide (0 < (List.length x.1.1 : Int))) then (Option.bind (strings_asciiSet_contains K x.1.2.1 (((List.getD x.1.1 (Int.toNat 0) 0).toNat : Int))) fun r4 => (bif (!r4) then (some ((x.1.1, ()), ())) else (bif (decide (0 ≤ 1) && decide (1 ≤ (List.length x.1.1 : Int))) then (rec (((cut x.1.1 1 (List.length x.1.1)), (x.1.2.1, ())), ())) else none))) else none) else (some ((x.1.1, ()), ())))
def strings_trimLeftASCII.l0 (K : Nat) : Nat → (((List UInt8) × ((List (Bool)) × (Unit))) × (Unit)) → Option ((((List UInt8) × (Unit)) × (Unit)))
  | 0, _ => none
  | n + 1, x => strings_trimLeftASCII.t0 K (strings_trimLeftASCII.l0 K n) x
def strings_trimLeftASCII.tr (l0 : Nat → (((List UInt8) × ((List (Bool)) × (Unit))) × (Unit)) → Option ((((List UInt8) × (Unit)) × (Unit)))) (K : Nat) (a0 : List UInt8) (a1 : List (Bool)) : Option (List UInt8) :=
  (Option.bind (l0 K ((a0, (a1, ())), ())) fun y5 => (some y5.1.1))
def strings_trimLeftASCII (K : Nat) (a0 : List UInt8) (a1 : List (Bool)) : Option (List UInt8) := strings_trimLeftASCII.tr (strings_trimLeftASCII.l0 K) K a0 a1

/-! strings.Trim (.str, .str) -/
def strings_Trim (K : Nat) (a0 : List UInt8) (a1 : List UInt8) : Option (List UInt8) :=
  (Option.bind ((bif (!(a0 == (([] : List UInt8)))) then (some ((a0, (a1, ((a1 == (([] : List UInt8))), ()))), ())) else (some ((a0, (a1, (true, ()))), ()))) : Option ((((List UInt8) × ((List UInt8) × ((Bool) × (Unit)))) × (Unit)))) fun y1 => (bif y1.1.2.2.1 then (some y1.1.1) else (Option.bind ((bif (decide ((List.length y1.1.2.1 : Int) = 1)) then (bif (decide (0 ≤ 0) && decide (0 < (List.length y1.1.2.1 : Int))) then (some ((y1.1.1, (y1.1.2.1, ((decide (((List.getD y1.1.2.1 (Int.toNat 0) 0).toNat : Int) < 128)), ()))), ())) else none) else (some ((y1.1.1, (y1.1.2.1, (false, ()))), ()))) : Option ((((List UInt8) × ((List UInt8) × ((Bool) × (Unit)))) × (Unit)))) fun y2 => (bif y2.1.2.2.1 then (bif (decide (0 ≤ 0) && decide (0 < (List.length y2.1.2.1 : Int))) then (Option.bind (strings_trimRightByte K y2.1.1 (((List.getD y2.1.2.1 (Int.toNat 0) 0).toNat : Int))) fun r7 => (bif (decide (0 ≤ 0) && decide (0 < (List.length y2.1.2.1 : Int))) then (Option.bind (strings_trimLeftByte K r7 (((List.getD y2.1.2.1 (Int.toNat 0) 0).toNat : Int))) fun r8 => (some r8)) else none)) else none) else (Option.bind (asciiSet K y2.1.2.1) fun r10 => (bif r10.2.1 then (Option.bind (strings_trimRightASCII K y2.1.1 r10.1) fun r15 => (Option.bind (strings_trimLeftASCII K r15 r10.1) fun r16 => (some r16))) else none))))))

/-! depot/octet.Trim (.str) -/
def octet_Trim (K : Nat) (a0 : List UInt8) : Option (List UInt8) :=
  (Option.bind (strings_Trim K a0 ([32, 9] : List UInt8)) fun r2 => (some r2))

/-! depot/octet.Lower (.str) -/
def octet_Lower.t0 (K : Nat) (rec : ((((Int) × ((Int) × (Unit))) × ((Unit) × ((Unit) × ((Int) × ((Int) × (Unit)))))) × ((List (Int)) × (Unit))) → Option ((((Unit) × (Unit)) × ((List (Int)) × (Unit))))) (x : ((((Int) × ((Int) × (Unit))) × ((Unit) × ((Unit) × ((Int) × ((Int) × (Unit)))))) × ((List (Int)) × (Unit)))) : Option ((((Unit) × (Unit)) × ((List (Int)) × (Unit)))) :=
  (bif (decide (x.1.2.2.2.2.1 < x.1.2.2.2.1)) then (bif (decide (0 ≤ x.1.2.2.2.2.1) && decide (x.1.2.2.2.2.1 < (List.length x.2.1 : Int))) then (Option.bind (octet_from_c1 K ((List.getD x.2.1 (Int.toNat x.1.2.2.2.2.1) 0)) x.1.1.1 x.1.1.2.1) fun r8 => (Option.bind ((bif r8 then (bif (decide (0 ≤ x.1.2.2.2.2.1) && decide (x.1.2.2.2.2.1 < (List.length x.2.1 : Int))) then (some ((x.1.1, ((), ((), (x.1.2.2.2.1, (x.1.2.2.2.2.1, ()))))), ((List.set x.2.1 (Int.toNat x.1.2.2.2.2.1) (IntKind.wrap .u8 ((IntKind.wrap .u8 ((List.getD x.2.1 (Int.toNat x.1.2.2.2.2.1) 0) - 65)) + 97))), ()))) else none) else (some ((x.1.1, ((), ((), (x.1.2.2.2.1, (x.1.2.2.2.2.1, ()))))), (x.2.1, ())))) : Option (((((Int) × ((Int) × (Unit))) × ((Unit) × ((Unit) × ((Int) × ((Int) × (Unit)))))) × ((List (Int)) × (Unit))))) fun y9 => (rec ((y9.1.1, ((), ((), (y9.1.2.2.2.1, ((IntKind.wrap .i64 (y9.1.2.2.2.2.1 + 1)), ()))))), (y9.2.1, ()))))) else none) else (some (((), ()), (x.2.1, ()))))
def octet_Lower.l0 (K : Nat) : Nat → ((((Int) × ((Int) × (Unit))) × ((Unit) × ((Unit) × ((Int) × ((Int) × (Unit)))))) × ((List (Int)) × (Unit))) → Option ((((Unit) × (Unit)) × ((List (Int)) × (Unit))))
  | 0, _ => none
  | n + 1, x => octet_Lower.t0 K (octet_Lower.l0 K n) x
def octet_Lower.tr (l0 : Nat → ((((Int) × ((Int) × (Unit))) × ((Unit) × ((Unit) × ((Int) × ((Int) × (Unit)))))) × ((List (Int)) × (Unit))) → Option ((((Unit) × (Unit)) × ((List (Int)) × (Unit))))) (K : Nat) (a0 : List UInt8) : Option (List UInt8) :=
  (Option.bind (octet_from K 65 90) fun r2 => (Option.bind (l0 K ((r2, ((), ((), ((List.length ((intsOf a0)) : Int), (0, ()))))), ((intsOf a0), ()))) fun y10 => (some (bytesOf (y10.2.1 : List (Int))))))
def octet_Lower (K : Nat) (a0 : List UInt8) : Option (List UInt8) := octet_Lower.tr (octet_Lower.l0 K) K a0

/-! depot/octet.Same (.str, .str) -/
def octet_Same (K : Nat) (a0 : List UInt8) (a1 : List UInt8) : Option (Bool) :=
  (bif (decide ((List.length a0 : Int) = (List.length a1 : Int))) then (Option.bind (octet_Lower K a0) fun r3 => (Option.bind (octet_Lower K a1) fun r4 => (some (r3 == r4)))) else (some false))

/-! depot/octet.all (.str, (.fn 10 .snil)) -/
def octet_all__Token.t0 (K : Nat) (rec : (((Unit) × ((List (Int)) × ((Int) × ((Int) × (Unit))))) × (Unit)) → Option (((Unit) × (Unit)) ⊕ (((Bool) × (Unit)) × (Unit)))) (x : (((Unit) × ((List (Int)) × ((Int) × ((Int) × (Unit))))) × (Unit))) : Option (((Unit) × (Unit)) ⊕ (((Bool) × (Unit)) × (Unit))) :=
  (bif (decide (x.1.2.2.2.1 < x.1.2.2.1)) then (bif (decide (0 ≤ x.1.2.2.2.1) && decide (x.1.2.2.2.1 < (List.length x.1.2.1 : Int))) then (Option.bind (octet_Token K ((List.getD x.1.2.1 (Int.toNat x.1.2.2.2.1) 0))) fun r4 => (bif (!r4) then (some (.inr ((false, ()), ()))) else (rec (((), (x.1.2.1, (x.1.2.2.1, ((IntKind.wrap .i64 (x.1.2.2.2.1 + 1)), ())))), ())))) else none) else (some (.inl ((), ()))))
def octet_all__Token.l0 (K : Nat) : Nat → (((Unit) × ((List (Int)) × ((Int) × ((Int) × (Unit))))) × (Unit)) → Option (((Unit) × (Unit)) ⊕ (((Bool) × (Unit)) × (Unit)))
  | 0, _ => none
  | n + 1, x => octet_all__Token.t0 K (octet_all__Token.l0 K n) x
def octet_all__Token.tr (l0 : Nat → (((Unit) × ((List (Int)) × ((Int) × ((Int) × (Unit))))) × (Unit)) → Option (((Unit) × (Unit)) ⊕ (((Bool) × (Unit)) × (Unit)))) (K : Nat) (a0 : List UInt8) : Option (Bool) :=
  (Option.bind (l0 K (((), ((intsOf a0), ((List.length ((intsOf a0)) : Int), (0, ())))), ())) fun y5 => (match y5 with | .inl z6 => (some true) | .inr z7 => (some z7.1.1)))
def octet_all__Token (K : Nat) (a0 : List UInt8) : Option (Bool) := octet_all__Token.tr (octet_all__Token.l0 K) K a0

/-! depot/octet.IsToken (.str) -/
def octet_IsToken (K : Nat) (a0 : List UInt8) : Option (Bool) :=
  (bif (!(a0 == (([] : List UInt8)))) then (Option.bind (octet_all__Token K a0) fun r2 => (some r2)) else (some false))

/-! depot/octet.all (.str, (.fn 12 .snil)) -/
def octet_all__Text.t0 (K : Nat) (rec : (((Unit) × ((List (Int)) × ((Int) × ((Int) × (Unit))))) × (Unit)) → Option (((Unit) × (Unit)) ⊕ (((Bool) × (Unit)) × (Unit)))) (x : (((Unit) × ((List (Int)) × ((Int) × ((Int) × (Unit))))) × (Unit))) : Option (((Unit) × (Unit)) ⊕ (((Bool) × (Unit)) × (Unit))) :=
  (bif (decide (x.1.2.2.2.1 < x.1.2.2.1)) then (bif (decide (0 ≤ x.1.2.2.2.1) && decide (x.1.2.2.2.1 < (List.length x.1.2.1 : Int))) then (Option.bind (octet_Text K ((List.getD x.1.2.1 (Int.toNat x.1.2.2.2.1) 0))) fun r4 => (bif (!r4) then (some (.inr ((false, ()), ()))) else (rec (((), (x.1.2.1, (x.1.2.2.1, ((IntKind.wrap .i64 (x.1.2.2.2.1 + 1)), ())))), ())))) else none) else (some (.inl ((), ()))))
def octet_all__Text.l0 (K : Nat) : Nat → (((Unit) × ((List (Int)) × ((Int) × ((Int) × (Unit))))) × (Unit)) → Option (((Unit) × (Unit)) ⊕ (((Bool) × (Unit)) × (Unit)))
  | 0, _ => none
  | n + 1, x => octet_all__Text.t0 K (octet_all__Text.l0 K n) x
def octet_all__Text.tr (l0 : Nat → (((Unit) × ((List (Int)) × ((Int) × ((Int) × (Unit))))) × (Unit)) → Option (((Unit) × (Unit)) ⊕ (((Bool) × (Unit)) × (Unit)))) (K : Nat) (a0 : List UInt8) : Option (Bool) :=
  (Option.bind (l0 K (((), ((intsOf a0), ((List.length ((intsOf a0)) : Int), (0, ())))), ())) fun y5 => (match y5 with | .inl z6 => (some true) | .inr z7 => (some z7.1.1)))
def octet_all__Text (K : Nat) (a0 : List UInt8) : Option (Bool) := octet_all__Text.tr (octet_all__Text.l0 K) K a0

/-! depot/octet.IsText (.str) -/
def octet_IsText (K : Nat) (a0 : List UInt8) : Option (Bool) :=
  (Option.bind (octet_all__Text K a0) fun r2 => (some r2))

/-! depot/depotlaw01.bytes () -/
def depotlaw01_bytes (K : Nat) : Option (Bool) :=
  (Option.bind (octet_Hex K 102) fun r2 => (Option.bind (octet_Cut K ([97, 58, 98, 58, 99] : List UInt8) 58) fun r4 => (Option.bind (octet_Token K 33) fun r14 => (bif r14 then (Option.bind (octet_Text K 127) fun r15 => (bif (!r15) then (bif (decide (r2.1 = 15)) then (bif r2.2.1 then (Option.bind (octet_Trim K ([9, 32, 97, 32, 98, 32] : List UInt8)) fun r16 => (bif (r16 == (([97, 32, 98] : List UInt8))) then (bif (r4.1 == (([97] : List UInt8))) then (bif (r4.2.1 == (([98, 58, 99] : List UInt8))) then (bif r4.2.2.1 then (Option.bind (octet_Lower K ([97, 66] : List UInt8)) fun r17 => (bif (r17 == (([97, 98] : List UInt8))) then (Option.bind (octet_Same K ([120, 45, 65] : List UInt8) ([88, 45, 97] : List UInt8)) fun r18 => (bif r18 then (Option.bind (octet_IsToken K ([97, 45, 49] : List UInt8)) fun r19 => (bif r19 then (Option.bind (octet_IsToken K ([] : List UInt8)) fun r20 => (bif (!r20) then (Option.bind (octet_IsText K ([97, 32, 98] : List UInt8)) fun r21 => (bif r21 then (Option.bind (octet_Digit K 55) fun r22 => (some r22)) else (some false))) else (some false))) else (some false))) else (some false))) else (some false))) else (some false)) else (some false)) else (some false)) else (some false))) else (some false)) else (some false)) else (some false))) else (some false)))))

/-! depot/depotlaw01.OctetBytes ((.int .u8)) -/
def depotlaw01_OctetBytes (K : Nat) (a0 : Int) : Option (Bool) :=
  (Option.bind (octet_Hex K a0) fun r2 => (Option.bind (depotref01_Hex K a0) fun r4 => (Option.bind (octet_Token K a0) fun r12 => (Option.bind (depotref01_Token K a0) fun r13 => (bif (r12 == r13) then (Option.bind (octet_Text K a0) fun r14 => (Option.bind (depotref01_Text K a0) fun r15 => (bif (r14 == r15) then (Option.bind (octet_Digit K a0) fun r16 => (Option.bind (depotref01_Digit K a0) fun r17 => (bif (r16 == r17) then (bif (decide (r2.1 = r4.1)) then (bif (r2.2.1 == r4.2.1) then (Option.bind (depotlaw01_bytes K) fun r18 => (some r18)) else (some false)) else (some false)) else (some false)))) else (some false)))) else (some false))))))

/-! depot/depotref01.Cut (.str, (.int .u8)) -/
def depotref01_Cut.t0 (K : Nat) (rec : (((List UInt8) × ((Int) × ((Int) × (Unit)))) × (Unit)) → Option ((((List UInt8) × (Unit)) × (Unit)) ⊕ (((List UInt8) × ((List UInt8) × ((Bool) × (Unit)))) × (Unit)))) (x : (((List UInt8) × ((Int) × ((Int) × (Unit)))) × (Unit))) : Option ((((List UInt8) × (Unit)) × (Unit)) ⊕ (((List UInt8) × ((List UInt8) × ((Bool) × (Unit)))) × (Unit))) :=
  (bif (decide (x.1.2.2.1 < (List.length x.1.1 : Int))) then (bif (decide (0 ≤ x.1.2.2.1) && decide (x.1.2.2.1 < (List.length x.1.1 : Int))) then (bif (decide (((List.getD x.1.1 (Int.toNat x.1.2.2.1) 0).toNat : Int) = x.1.2.1)) then (bif (decide (0 ≤ x.1.2.2.1) && decide (x.1.2.2.1 ≤ (List.length x.1.1 : Int))) then (bif (decide (0 ≤ (IntKind.wrap .i64 (x.1.2.2.1 + 1))) && decide ((IntKind.wrap .i64 (x.1.2.2.1 + 1)) ≤ (List.length x.1.1 : Int))) then (some (.inr (((cut x.1.1 0 ((Int.toNat x.1.2.2.1))), ((cut x.1.1 (Int.toNat (IntKind.wrap .i64 (x.1.2.2.1 + 1))) (List.length x.1.1)), (true, ()))), ()))) else none) else none) else (rec ((x.1.1, (x.1.2.1, ((IntKind.wrap .i64 (x.1.2.2.1 + 1)), ()))), ()))) else none) else (some (.inl ((x.1.1, ()), ()))))
def depotref01_Cut.l0 (K : Nat) : Nat → (((List UInt8) × ((Int) × ((Int) × (Unit)))) × (Unit)) → Option ((((List UInt8) × (Unit)) × (Unit)) ⊕ (((List UInt8) × ((List UInt8) × ((Bool) × (Unit)))) × (Unit)))
  | 0, _ => none
  | n + 1, x => depotref01_Cut.t0 K (depotref01_Cut.l0 K n) x
def depotref01_Cut.tr (l0 : Nat → (((List UInt8) × ((Int) × ((Int) × (Unit)))) × (Unit)) → Option ((((List UInt8) × (Unit)) × (Unit)) ⊕ (((List UInt8) × ((List UInt8) × ((Bool) × (Unit)))) × (Unit)))) (K : Nat) (a0 : List UInt8) (a1 : Int) : Option ((List UInt8) × ((List UInt8) × ((Bool) × (Unit)))) :=
  (Option.bind (l0 K ((a0, (a1, (0, ()))), ())) fun y1 => (match y1 with | .inl z2 => (some (z2.1.1, ([], (false, ())))) | .inr z3 => (some (z3.1.1, (z3.1.2.1, (z3.1.2.2.1, ()))))))
def depotref01_Cut (K : Nat) (a0 : List UInt8) (a1 : Int) : Option ((List UInt8) × ((List UInt8) × ((Bool) × (Unit)))) := depotref01_Cut.tr (depotref01_Cut.l0 K) K a0 a1

/-! depot/depotref01.Lower (.str) -/
def depotref01_Lower.t0 (K : Nat) (rec : (((Unit) × ((Int) × (Unit))) × ((List (Int)) × (Unit))) → Option ((((Unit) × (Unit)) × ((List (Int)) × (Unit))))) (x : (((Unit) × ((Int) × (Unit))) × ((List (Int)) × (Unit)))) : Option ((((Unit) × (Unit)) × ((List (Int)) × (Unit)))) :=
  (bif (decide (x.1.2.1 < (List.length x.2.1 : Int))) then (Option.bind ((bif (decide (0 ≤ x.1.2.1) && decide (x.1.2.1 < (List.length x.2.1 : Int))) then (bif (decide ((List.getD x.2.1 (Int.toNat x.1.2.1) 0) ≥ 65)) then (bif (decide (0 ≤ x.1.2.1) && decide (x.1.2.1 < (List.length x.2.1 : Int))) then (some (((), (x.1.2.1, ((decide ((List.getD x.2.1 (Int.toNat x.1.2.1) 0) ≤ 90)), ()))), (x.2.1, ()))) else none) else (some (((), (x.1.2.1, (false, ()))), (x.2.1, ())))) else none) : Option ((((Unit) × ((Int) × ((Bool) × (Unit)))) × ((List (Int)) × (Unit))))) fun y5 => (Option.bind ((bif y5.1.2.2.1 then (bif (decide (0 ≤ y5.1.2.1) && decide (y5.1.2.1 < (List.length y5.2.1 : Int))) then (bif (decide (0 ≤ y5.1.2.1) && decide (y5.1.2.1 < (List.length y5.2.1 : Int))) then (some (((), (y5.1.2.1, ())), ((List.set y5.2.1 (Int.toNat y5.1.2.1) (IntKind.wrap .u8 ((List.getD y5.2.1 (Int.toNat y5.1.2.1) 0) + 32))), ()))) else none) else none) else (some (((), (y5.1.2.1, ())), (y5.2.1, ())))) : Option ((((Unit) × ((Int) × (Unit))) × ((List (Int)) × (Unit))))) fun y6 => (rec (((), ((IntKind.wrap .i64 (y6.1.2.1 + 1)), ())), (y6.2.1, ()))))) else (some (((), ()), (x.2.1, ()))))
def depotref01_Lower.l0 (K : Nat) : Nat → (((Unit) × ((Int) × (Unit))) × ((List (Int)) × (Unit))) → Option ((((Unit) × (Unit)) × ((List (Int)) × (Unit))))
  | 0, _ => none
  | n + 1, x => depotref01_Lower.t0 K (depotref01_Lower.l0 K n) x
def depotref01_Lower.tr (l0 : Nat → (((Unit) × ((Int) × (Unit))) × ((List (Int)) × (Unit))) → Option ((((Unit) × (Unit)) × ((List (Int)) × (Unit))))) (K : Nat) (a0 : List UInt8) : Option (List UInt8) :=
  (Option.bind (l0 K (((), (0, ())), ((intsOf a0), ()))) fun y7 => (some (bytesOf (y7.2.1 : List (Int)))))
def depotref01_Lower (K : Nat) (a0 : List UInt8) : Option (List UInt8) := depotref01_Lower.tr (depotref01_Lower.l0 K) K a0

/-! depot/depotref01.Same (.str, .str) -/
def depotref01_Same (K : Nat) (a0 : List UInt8) (a1 : List UInt8) : Option (Bool) :=
  (Option.bind (depotref01_Lower K a0) fun r3 => (Option.bind (depotref01_Lower K a1) fun r4 => (some (r3 == r4))))

/-! depot/depotref01.blank ((.int .u8)) -/
def depotref01_blank (K : Nat) (a0 : Int) : Option (Bool) :=
  (bif (!(decide (a0 = 32))) then (some (decide (a0 = 9))) else (some true))

/-! depot/depotref01.Trim (.str) -/
def depotref01_Trim.t1 (K : Nat) (rec : (((List UInt8) × (Unit)) × (Unit)) → Option ((((List UInt8) × (Unit)) × (Unit)))) (x : (((List UInt8) × (Unit)) × (Unit))) : Option ((((List UInt8) × (Unit)) × (Unit))) :=
  (Option.bind ((bif (decide ((List.length x.1.1 : Int) > 0)) then (bif (decide (0 ≤ (IntKind.wrap .i64 ((List.length x.1.1 : Int) - 1))) && decide ((IntKind.wrap .i64 ((List.length x.1.1 : Int) - 1)) < (List.length x.1.1 : Int))) then (Option.bind (depotref01_blank K (((List.getD x.1.1 (Int.toNat (IntKind.wrap .i64 ((List.length x.1.1 : Int) - 1))) 0).toNat : Int))) fun r10 => (some ((x.1.1, (r10, ())), ()))) else none) else (some ((x.1.1, (false, ())), ()))) : Option ((((List UInt8) × ((Bool) × (Unit))) × (Unit)))) fun y11 => (bif y11.1.2.1 then (bif (decide (0 ≤ (IntKind.wrap .i64 ((List.length y11.1.1 : Int) - 1))) && decide ((IntKind.wrap .i64 ((List.length y11.1.1 : Int) - 1)) ≤ (List.length y11.1.1 : Int))) then (rec (((cut y11.1.1 0 ((Int.toNat (IntKind.wrap .i64 ((List.length y11.1.1 : Int) - 1))))), ()), ())) else none) else (some ((y11.1.1, ()), ()))))
def depotref01_Trim.l1 (K : Nat) : Nat → (((List UInt8) × (Unit)) × (Unit)) → Option ((((List UInt8) × (Unit)) × (Unit)))
  | 0, _ => none
  | n + 1, x => depotref01_Trim.t1 K (depotref01_Trim.l1 K n) x
def depotref01_Trim.t0 (K : Nat) (rec : (((List UInt8) × (Unit)) × (Unit)) → Option ((((List UInt8) × (Unit)) × (Unit)))) (x : (((List UInt8) × (Unit)) × (Unit))) : Option ((((List UInt8) × (Unit)) × (Unit))) :=
  (Option.bind ((bif (decide ((List.length x.1.1 : Int) > 0)) then (bif (decide (0 ≤ 0) && decide (0 < (List.length x.1.1 : Int))) then (Option.bind (depotref01_blank K (((List.getD x.1.1 (Int.toNat 0) 0).toNat : Int))) fun r4 => (some ((x.1.1, (r4, ())), ()))) else none) else (some ((x.1.1, (false, ())), ()))) : Option ((((List UInt8) × ((Bool) × (Unit))) × (Unit)))) fun y5 => (bif y5.1.2.1 then (bif (decide (0 ≤ 1) && decide (1 ≤ (List.length y5.1.1 : Int))) then (rec (((cut y5.1.1 1 (List.length y5.1.1)), ()), ())) else none) else (some ((y5.1.1, ()), ()))))
def depotref01_Trim.l0 (K : Nat) : Nat → (((List UInt8) × (Unit)) × (Unit)) → Option ((((List UInt8) × (Unit)) × (Unit)))
  | 0, _ => none
  | n + 1, x => depotref01_Trim.t0 K (depotref01_Trim.l0 K n) x
def depotref01_Trim.tr (l0 : Nat → (((List UInt8) × (Unit)) × (Unit)) → Option ((((List UInt8) × (Unit)) × (Unit)))) (l1 : Nat → (((List UInt8) × (Unit)) × (Unit)) → Option ((((List UInt8) × (Unit)) × (Unit)))) (K : Nat) (a0 : List UInt8) : Option (List UInt8) :=
  (Option.bind (l0 K ((a0, ()), ())) fun y6 => (Option.bind (l1 K ((y6.1.1, ()), ())) fun y12 => (some y12.1.1)))
def depotref01_Trim (K : Nat) (a0 : List UInt8) : Option (List UInt8) := depotref01_Trim.tr (depotref01_Trim.l0 K) (depotref01_Trim.l1 K) K a0

/-! depot/depotref01.IsToken (.str) -/
def depotref01_IsToken.t0 (K : Nat) (rec : (((List UInt8) × ((Int) × (Unit))) × (Unit)) → Option ((((List UInt8) × (Unit)) × (Unit)) ⊕ (((Bool) × (Unit)) × (Unit)))) (x : (((List UInt8) × ((Int) × (Unit))) × (Unit))) : Option ((((List UInt8) × (Unit)) × (Unit)) ⊕ (((Bool) × (Unit)) × (Unit))) :=
  (bif (decide (x.1.2.1 < (List.length x.1.1 : Int))) then (bif (decide (0 ≤ x.1.2.1) && decide (x.1.2.1 < (List.length x.1.1 : Int))) then (Option.bind (depotref01_Token K (((List.getD x.1.1 (Int.toNat x.1.2.1) 0).toNat : Int))) fun r4 => (bif (!r4) then (some (.inr ((false, ()), ()))) else (rec ((x.1.1, ((IntKind.wrap .i64 (x.1.2.1 + 1)), ())), ())))) else none) else (some (.inl ((x.1.1, ()), ()))))
def depotref01_IsToken.l0 (K : Nat) : Nat → (((List UInt8) × ((Int) × (Unit))) × (Unit)) → Option ((((List UInt8) × (Unit)) × (Unit)) ⊕ (((Bool) × (Unit)) × (Unit)))
  | 0, _ => none
  | n + 1, x => depotref01_IsToken.t0 K (depotref01_IsToken.l0 K n) x
def depotref01_IsToken.tr (l0 : Nat → (((List UInt8) × ((Int) × (Unit))) × (Unit)) → Option ((((List UInt8) × (Unit)) × (Unit)) ⊕ (((Bool) × (Unit)) × (Unit)))) (K : Nat) (a0 : List UInt8) : Option (Bool) :=
  (Option.bind (l0 K ((a0, (0, ())), ())) fun y5 => (match y5 with | .inl z6 => (some (decide ((List.length z6.1.1 : Int) > 0))) | .inr z7 => (some z7.1.1)))
def depotref01_IsToken (K : Nat) (a0 : List UInt8) : Option (Bool) := depotref01_IsToken.tr (depotref01_IsToken.l0 K) K a0

/-! depot/depotref01.IsText (.str) -/
def depotref01_IsText.t0 (K : Nat) (rec : (((List UInt8) × ((Int) × (Unit))) × (Unit)) → Option (((Unit) × (Unit)) ⊕ (((Bool) × (Unit)) × (Unit)))) (x : (((List UInt8) × ((Int) × (Unit))) × (Unit))) : Option (((Unit) × (Unit)) ⊕ (((Bool) × (Unit)) × (Unit))) :=
  (bif (decide (x.1.2.1 < (List.length x.1.1 : Int))) then (bif (decide (0 ≤ x.1.2.1) && decide (x.1.2.1 < (List.length x.1.1 : Int))) then (Option.bind (depotref01_Text K (((List.getD x.1.1 (Int.toNat x.1.2.1) 0).toNat : Int))) fun r4 => (bif (!r4) then (some (.inr ((false, ()), ()))) else (rec ((x.1.1, ((IntKind.wrap .i64 (x.1.2.1 + 1)), ())), ())))) else none) else (some (.inl ((), ()))))
def depotref01_IsText.l0 (K : Nat) : Nat → (((List UInt8) × ((Int) × (Unit))) × (Unit)) → Option (((Unit) × (Unit)) ⊕ (((Bool) × (Unit)) × (Unit)))
  | 0, _ => none
  | n + 1, x => depotref01_IsText.t0 K (depotref01_IsText.l0 K n) x
def depotref01_IsText.tr (l0 : Nat → (((List UInt8) × ((Int) × (Unit))) × (Unit)) → Option (((Unit) × (Unit)) ⊕ (((Bool) × (Unit)) × (Unit)))) (K : Nat) (a0 : List UInt8) : Option (Bool) :=
  (Option.bind (l0 K ((a0, (0, ())), ())) fun y5 => (match y5 with | .inl z6 => (some true) | .inr z7 => (some z7.1.1)))
def depotref01_IsText (K : Nat) (a0 : List UInt8) : Option (Bool) := depotref01_IsText.tr (depotref01_IsText.l0 K) K a0

/-! depot/depotlaw01.OctetTexts (.str, .str, (.int .u8)) -/
def depotlaw01_OctetTexts (K : Nat) (a0 : List UInt8) (a1 : List UInt8) (a2 : Int) : Option (Bool) :=
  (Option.bind ((bif (!(decide ((List.length a0 : Int) > 3000))) then (some ((a0, (a1, (a2, ((decide ((List.length a1 : Int) > 3000)), ())))), ())) else (some ((a0, (a1, (a2, (true, ())))), ()))) : Option ((((List UInt8) × ((List UInt8) × ((Int) × ((Bool) × (Unit))))) × (Unit)))) fun y1 => (bif y1.1.2.2.2.1 then (Option.bind (depotlaw01_bytes K) fun r4 => (some r4)) else (Option.bind (octet_Cut K y1.1.1 y1.1.2.2.1) fun r6 => (Option.bind (depotref01_Cut K y1.1.1 y1.1.2.2.1) fun r8 => (Option.bind (octet_Lower K y1.1.1) fun r20 => (Option.bind (depotref01_Lower K y1.1.1) fun r21 => (bif (r20 == r21) then (Option.bind (octet_Same K y1.1.1 y1.1.2.1) fun r22 => (Option.bind (depotref01_Same K y1.1.1 y1.1.2.1) fun r23 => (bif (r22 == r23) then (Option.bind (octet_Trim K y1.1.1) fun r24 => (Option.bind (depotref01_Trim K y1.1.1) fun r25 => (bif (r24 == r25) then (Option.bind (octet_IsToken K y1.1.1) fun r26 => (Option.bind (depotref01_IsToken K y1.1.1) fun r27 => (bif (r26 == r27) then (Option.bind (octet_IsText K y1.1.1) fun r28 => (Option.bind (depotref01_IsText K y1.1.1) fun r29 => (bif (r28 == r29) then (bif (r6.1 == r8.1) then (bif (r6.2.1 == r8.2.1) then (bif (r6.2.2.1 == r8.2.2.1) then (Option.bind (depotlaw01_bytes K) fun r30 => (some r30)) else (some false)) else (some false)) else (some false)) else (some false)))) else (some false)))) else (some false)))) else (some false)))) else (some false))))))))

/-! depot/depotlaw01.OctetCase (.str, .str) -/
def depotlaw01_OctetCase (K : Nat) (a0 : List UInt8) (a1 : List UInt8) : Option (Bool) :=
  (Option.bind ((bif (!(decide ((List.length a0 : Int) > 3000))) then (some ((a0, (a1, ((decide ((List.length a1 : Int) > 3000)), ()))), ())) else (some ((a0, (a1, (true, ()))), ()))) : Option ((((List UInt8) × ((List UInt8) × ((Bool) × (Unit)))) × (Unit)))) fun y1 => (bif y1.1.2.2.1 then (Option.bind (depotlaw01_bytes K) fun r4 => (some r4)) else (Option.bind (octet_Lower K y1.1.1) fun r6 => (Option.bind (octet_Lower K r6) fun r16 => (bif (r16 == r6) then (bif (decide ((List.length r6 : Int) = (List.length y1.1.1 : Int))) then (Option.bind (octet_Same K y1.1.1 r6) fun r17 => (bif r17 then (Option.bind (octet_Same K y1.1.1 y1.1.2.1) fun r18 => (Option.bind (octet_Same K y1.1.2.1 y1.1.1) fun r19 => (bif (r18 == r19) then (Option.bind (octet_Lower K y1.1.2.1) fun r20 => (Option.bind (octet_Same K y1.1.1 y1.1.2.1) fun r21 => (bif ((r20 == r6) == r21) then (Option.bind (octet_IsToken K r6) fun r22 => (Option.bind (octet_IsToken K y1.1.1) fun r23 => (bif (r22 == r23) then (Option.bind (depotlaw01_bytes K) fun r24 => (some r24)) else (some false)))) else (some false)))) else (some false)))) else (some false))) else (some false)) else (some false))))))

/-! depot/depotlaw01.OctetTrims (.str, (.int .i64), (.int .i64)) -/
def depotlaw01_OctetTrims.t1 (K : Nat) (rec : (((Int) × ((List UInt8) × ((List UInt8) × ((Int) × (Unit))))) × (Unit)) → Option ((((List UInt8) × ((List UInt8) × (Unit))) × (Unit)))) (x : (((Int) × ((List UInt8) × ((List UInt8) × ((Int) × (Unit))))) × (Unit))) : Option ((((List UInt8) × ((List UInt8) × (Unit))) × (Unit))) :=
  (bif (decide (x.1.2.2.2.1 < (Int.tmod (IntKind.wrap .i64 ((Int.tmod x.1.1 9) + 9)) 9))) then (bif (decide (List.length x.1.2.2.1 + 1 ≤ maxRoom)) then (rec ((x.1.1, (x.1.2.1, ((x.1.2.2.1 ++ ([9] : List UInt8)), ((IntKind.wrap .i64 (x.1.2.2.2.1 + 1)), ())))), ())) else none) else (some ((x.1.2.1, (x.1.2.2.1, ())), ())))
def depotlaw01_OctetTrims.l1 (K : Nat) : Nat → (((Int) × ((List UInt8) × ((List UInt8) × ((Int) × (Unit))))) × (Unit)) → Option ((((List UInt8) × ((List UInt8) × (Unit))) × (Unit)))
  | 0, _ => none
  | n + 1, x => depotlaw01_OctetTrims.t1 K (depotlaw01_OctetTrims.l1 K n) x
def depotlaw01_OctetTrims.t0 (K : Nat) (rec : (((Int) × ((Int) × ((List UInt8) × ((List UInt8) × ((Int) × (Unit)))))) × (Unit)) → Option ((((Int) × ((List UInt8) × ((List UInt8) × (Unit)))) × (Unit)))) (x : (((Int) × ((Int) × ((List UInt8) × ((List UInt8) × ((Int) × (Unit)))))) × (Unit))) : Option ((((Int) × ((List UInt8) × ((List UInt8) × (Unit)))) × (Unit))) :=
  (bif (decide (x.1.2.2.2.2.1 < (Int.tmod (IntKind.wrap .i64 ((Int.tmod x.1.1 9) + 9)) 9))) then (bif (decide (1 + List.length x.1.2.2.2.1 ≤ maxRoom)) then (rec ((x.1.1, (x.1.2.1, (x.1.2.2.1, ((([32] : List UInt8) ++ x.1.2.2.2.1), ((IntKind.wrap .i64 (x.1.2.2.2.2.1 + 1)), ()))))), ())) else none) else (some ((x.1.2.1, (x.1.2.2.1, (x.1.2.2.2.1, ()))), ())))
def depotlaw01_OctetTrims.l0 (K : Nat) : Nat → (((Int) × ((Int) × ((List UInt8) × ((List UInt8) × ((Int) × (Unit)))))) × (Unit)) → Option ((((Int) × ((List UInt8) × ((List UInt8) × (Unit)))) × (Unit)))
  | 0, _ => none
  | n + 1, x => depotlaw01_OctetTrims.t0 K (depotlaw01_OctetTrims.l0 K n) x
def depotlaw01_OctetTrims.tr (l0 : Nat → (((Int) × ((Int) × ((List UInt8) × ((List UInt8) × ((Int) × (Unit)))))) × (Unit)) → Option ((((Int) × ((List UInt8) × ((List UInt8) × (Unit)))) × (Unit)))) (l1 : Nat → (((Int) × ((List UInt8) × ((List UInt8) × ((Int) × (Unit))))) × (Unit)) → Option ((((List UInt8) × ((List UInt8) × (Unit))) × (Unit)))) (K : Nat) (a0 : List UInt8) (a1 : Int) (a2 : Int) : Option (Bool) :=
  (bif (decide ((List.length a0 : Int) > 1000)) then (Option.bind (depotlaw01_bytes K) fun r3 => (some r3)) else (Option.bind (octet_Trim K a0) fun r5 => (Option.bind ((Option.bind (octet_Trim K r5) fun r7 => (bif (!(!(r7 == r5))) then (bif (decide ((List.length r5 : Int) > 0)) then (bif (decide (0 ≤ 0) && decide (0 < (List.length r5 : Int))) then (bif (!(decide (((List.getD r5 (Int.toNat 0) 0).toNat : Int) = 32))) then (bif (decide (0 ≤ 0) && decide (0 < (List.length r5 : Int))) then (bif (!(decide (((List.getD r5 (Int.toNat 0) 0).toNat : Int) = 9))) then (bif (decide (0 ≤ (IntKind.wrap .i64 ((List.length r5 : Int) - 1))) && decide ((IntKind.wrap .i64 ((List.length r5 : Int) - 1)) < (List.length r5 : Int))) then (bif (!(decide (((List.getD r5 (Int.toNat (IntKind.wrap .i64 ((List.length r5 : Int) - 1))) 0).toNat : Int) = 32))) then (bif (decide (0 ≤ (IntKind.wrap .i64 ((List.length r5 : Int) - 1))) && decide ((IntKind.wrap .i64 ((List.length r5 : Int) - 1)) < (List.length r5 : Int))) then (some ((a1, (a2, (r5, ((decide (((List.getD r5 (Int.toNat (IntKind.wrap .i64 ((List.length r5 : Int) - 1))) 0).toNat : Int) = 9)), ())))), ())) else none) else (some ((a1, (a2, (r5, (true, ())))), ()))) else none) else (some ((a1, (a2, (r5, (true, ())))), ()))) else none) else (some ((a1, (a2, (r5, (true, ())))), ()))) else none) else (some ((a1, (a2, (r5, (false, ())))), ()))) else (some ((a1, (a2, (r5, (true, ())))), ())))) : Option ((((Int) × ((Int) × ((List UInt8) × ((Bool) × (Unit))))) × (Unit)))) fun y8 => (bif y8.1.2.2.2.1 then (some false) else (Option.bind (l0 K ((y8.1.1, (y8.1.2.1, (y8.1.2.2.1, (y8.1.2.2.1, (0, ()))))), ())) fun y9 => (Option.bind (l1 K ((y9.1.1, (y9.1.2.1, (y9.1.2.2.1, (0, ())))), ())) fun y10 => (Option.bind (octet_Trim K y10.1.2.1) fun r13 => (bif (r13 == y10.1.1) then (Option.bind (depotlaw01_bytes K) fun r14 => (some r14)) else (some false)))))))))
def depotlaw01_OctetTrims (K : Nat) (a0 : List UInt8) (a1 : Int) (a2 : Int) : Option (Bool) := depotlaw01_OctetTrims.tr (depotlaw01_OctetTrims.l0 K) (depotlaw01_OctetTrims.l1 K) K a0 a1 a2

/-! depot/depotlaw01.OctetParts (.str, (.int .u8)) -/
def depotlaw01_OctetParts.t0 (K : Nat) (rec : (((List UInt8) × ((Int) × ((List UInt8) × ((List UInt8) × ((Bool) × ((Int) × (Unit))))))) × (Unit)) → Option ((((List UInt8) × ((Int) × ((List UInt8) × ((List UInt8) × ((Bool) × (Unit)))))) × (Unit)) ⊕ (((Bool) × (Unit)) × (Unit)))) (x : (((List UInt8) × ((Int) × ((List UInt8) × ((List UInt8) × ((Bool) × ((Int) × (Unit))))))) × (Unit))) : Option ((((List UInt8) × ((Int) × ((List UInt8) × ((List UInt8) × ((Bool) × (Unit)))))) × (Unit)) ⊕ (((Bool) × (Unit)) × (Unit))) :=
  (bif (decide (x.1.2.2.2.2.2.1 < (List.length x.1.2.2.1 : Int))) then (bif (decide (0 ≤ x.1.2.2.2.2.2.1) && decide (x.1.2.2.2.2.2.1 < (List.length x.1.2.2.1 : Int))) then (bif (decide (((List.getD x.1.2.2.1 (Int.toNat x.1.2.2.2.2.2.1) 0).toNat : Int) = x.1.2.1)) then (some (.inr ((false, ()), ()))) else (rec ((x.1.1, (x.1.2.1, (x.1.2.2.1, (x.1.2.2.2.1, (x.1.2.2.2.2.1, ((IntKind.wrap .i64 (x.1.2.2.2.2.2.1 + 1)), ())))))), ()))) else none) else (some (.inl ((x.1.1, (x.1.2.1, (x.1.2.2.1, (x.1.2.2.2.1, (x.1.2.2.2.2.1, ()))))), ()))))
def depotlaw01_OctetParts.l0 (K : Nat) : Nat → (((List UInt8) × ((Int) × ((List UInt8) × ((List UInt8) × ((Bool) × ((Int) × (Unit))))))) × (Unit)) → Option ((((List UInt8) × ((Int) × ((List UInt8) × ((List UInt8) × ((Bool) × (Unit)))))) × (Unit)) ⊕ (((Bool) × (Unit)) × (Unit)))
  | 0, _ => none
  | n + 1, x => depotlaw01_OctetParts.t0 K (depotlaw01_OctetParts.l0 K n) x
def depotlaw01_OctetParts.tr (l0 : Nat → (((List UInt8) × ((Int) × ((List UInt8) × ((List UInt8) × ((Bool) × ((Int) × (Unit))))))) × (Unit)) → Option ((((List UInt8) × ((Int) × ((List UInt8) × ((List UInt8) × ((Bool) × (Unit)))))) × (Unit)) ⊕ (((Bool) × (Unit)) × (Unit)))) (K : Nat) (a0 : List UInt8) (a1 : Int) : Option (Bool) :=
  (bif (decide ((List.length a0 : Int) > 1000)) then (Option.bind (depotlaw01_bytes K) fun r3 => (some r3)) else (Option.bind (octet_Cut K a0 a1) fun r5 => (Option.bind (l0 K ((a0, (a1, (r5.1, (r5.2.1, (r5.2.2.1, (0, ())))))), ())) fun y6 => (match y6 with | .inl z7 => (bif (!z7.1.2.2.2.2.1) then (Option.bind ((bif (z7.1.2.2.1 == z7.1.1) then (bif (z7.1.2.2.2.1 == (([] : List UInt8))) then (Option.bind (depotlaw01_bytes K) fun r12 => (some ((r12, ()), ()))) else (some ((false, ()), ()))) else (some ((false, ()), ()))) : Option ((((Bool) × (Unit)) × (Unit)))) fun y13 => (some y13.1.1)) else (bif (decide (List.length z7.1.2.2.1 + List.length ((bytesOf ([z7.1.2.1] : List (Int)))) ≤ maxRoom)) then (bif (decide (List.length ((z7.1.2.2.1 ++ (bytesOf ([z7.1.2.1] : List (Int))))) + List.length z7.1.2.2.2.1 ≤ maxRoom)) then (bif ((((z7.1.2.2.1 ++ (bytesOf ([z7.1.2.1] : List (Int)))) ++ z7.1.2.2.2.1)) == z7.1.1) then (Option.bind (depotlaw01_bytes K) fun r15 => (some r15)) else (some false)) else none) else none)) | .inr z8 => (some z8.1.1)))))
def depotlaw01_OctetParts (K : Nat) (a0 : List UInt8) (a1 : Int) : Option (Bool) := depotlaw01_OctetParts.tr (depotlaw01_OctetParts.l0 K) K a0 a1

end Go.Proofs.X