/-
  Proved: for every byte, the law OctetBytes (Token, Text, Digit and Hex answer as the reference does) returns true and leaves its argument alone.
  Conditions: those of the given card, and no other.
-/
import Derived.Test.YtidmfdgokeijlaaDoorR1
import Derived.Test.YtidmfdgokeijlaaDoorP1
namespace Go.Proofs.YtidmfdgokeijlaaDoor
open Go

theorem octetBytes_proved : Rows.OctetBytesCardSaid := octetBytes_card (B1.said X.octetBytes_pure)

#print axioms octetBytes_proved
end Go.Proofs.YtidmfdgokeijlaaDoor
