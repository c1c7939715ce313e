/-
  A part of the proof. No condition.
-/
import Derived.Test.YtkfffmpnmoiikaaGreatDoorUP4
import Derived.Test.YtkfffmpnmoiikaaGreatDoorUL1
/- Chapter 15 (vary): blanks side by side, counts in a map, each name once, in order. No program in sight. -/
set_option linter.unusedSimpArgs false
set_option linter.unusedVariables false
namespace Go.Proofs.X
open Go Go.Dp
/-! What ReplaceAll does, byte by byte. -/
/-! Blanks side by side. -/
/-! Counts in a map. -/
def cntP (m : List (List UInt8 × Int)) (k : List UInt8) : Int := Option.getD (mfind (eqv .str) m k) 0
def mstep (m : List (List UInt8 × Int)) (s : List UInt8) : List (List UInt8 × Int) := mput (eqv .str) m s (IntKind.wrap .i64 (cntP m s + 1))
def mp (P : List (List UInt8)) : List (List UInt8 × Int) := P.foldl mstep []
def addT (out : List (List UInt8)) (s : List UInt8) : List (List UInt8) := if s ∈ out then out else out ++ [s]
def dd (P : List (List UInt8)) : List (List UInt8) := P.foldl addT []
/-! In order. -/
end Go.Proofs.X
