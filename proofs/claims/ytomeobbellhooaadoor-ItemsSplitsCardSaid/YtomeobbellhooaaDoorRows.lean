/-
  NARROWER THAN 'FOR EVERY INPUT', by the rows' own cells (each row's printed sentence says how): HopsStrips: laid · HopsAgain: laid · HopsMore: laid · ItemsSplits: laid · ItemsQuotes: laid · ItemsBack: laid · ItemsJoined: laid · FieldsParses: laid · FieldsAsks: laid · FieldsTurns: laid · FieldsBack: laid · FieldsSets: laid.
  DERIVED. THE GIVEN ROWS OF THIS SEAT. 12 by the template 'for every input the law returns true; each argument reads behind the call as it read before'; 0 by the template 'total and deterministic' (their statements: YtomeobbellhooaaDoorTotals.lean).
  GIVEN WITH THE SEED: the statements are not yours to turn. If you find one false, say at which input.
  Laid BY PROGRAM, IN A SANDBOX (cutbox-rows.mjs): the forced cells as the released guide's own fill.sh prints them over the translation 94e224174ae321b6… (all of the seat's roots in one cut). By AI agents, Wed Nov 11 2026. No macro, syntax, notation, axiom, sorry.
-/
import Derived.Test.YtomeobbellhooaaDoorChecked
import GoSem.PinnedTables
import GoSem.Claim
import GoSem.ClaimJoined
import GoSem.ClaimMapViews
import Derived.JoinedTies
import Derived.KernelRfl
namespace Go.Proofs.YtomeobbellhooaaDoor
/- THE CELL 'sum', in the pinned program and in every row, IS THE sha256 OF THE DUMP (.gsa) THAT YtomeobbellhooaaDoorProg.lean LOADS. Nothing in Lean hashes anything: it is a label: what it is worth is what the hold of that sum in a sandbox is worth. -/
noncomputable def Tryd.pinned : Pinned := { name := "ytomeobbellhooaadoor", sum := "94e224174ae321b67c24a7b52ef73d16bdad9c404106e48ca9be8d2adfe44228", checked := Tryd.checked }
namespace Rows
def none {H : Type} : Left H := { results := [], args := [] }

/- WHAT THE LISTED PACKAGE-LEVEL VARIABLES READ AS WHEN THE CALL BEGINS. Each datum BY PROGRAM (the guide's laid-datum.mjs) off the statement by which the dump's own 'gosem.cut.vars' lays the variable. In a bare row this is a premise. The card (YtomeobbellhooaaDoorCards.lean) ties it to the program's text. -/
def laid_unicode_utf8_acceptRanges {H : Type} : DataW H := .agg [.agg [.lit (.int .u8 128), .lit (.int .u8 191)], .agg [.lit (.int .u8 160), .lit (.int .u8 191)], .agg [.lit (.int .u8 128), .lit (.int .u8 159)], .agg [.lit (.int .u8 144), .lit (.int .u8 191)], .agg [.lit (.int .u8 128), .lit (.int .u8 143)], .agg [.lit (.int .u8 0), .lit (.int .u8 0)], .agg [.lit (.int .u8 0), .lit (.int .u8 0)], .agg [.lit (.int .u8 0), .lit (.int .u8 0)], .agg [.lit (.int .u8 0), .lit (.int .u8 0)], .agg [.lit (.int .u8 0), .lit (.int .u8 0)], .agg [.lit (.int .u8 0), .lit (.int .u8 0)], .agg [.lit (.int .u8 0), .lit (.int .u8 0)], .agg [.lit (.int .u8 0), .lit (.int .u8 0)], .agg [.lit (.int .u8 0), .lit (.int .u8 0)], .agg [.lit (.int .u8 0), .lit (.int .u8 0)], .agg [.lit (.int .u8 0), .lit (.int .u8 0)]]
def laid_depot_hops_names {H : Type} : DataW H := .agg [.lit (.string [67, 111, 110, 110, 101, 99, 116, 105, 111, 110]), .lit (.string [75, 101, 101, 112, 45, 65, 108, 105, 118, 101]), .lit (.string [80, 114, 111, 120, 121, 45, 67, 111, 110, 110, 101, 99, 116, 105, 111, 110]), .lit (.string [80, 114, 111, 120, 121, 45, 65, 117, 116, 104, 101, 110, 116, 105, 99, 97, 116, 101]), .lit (.string [80, 114, 111, 120, 121, 45, 65, 117, 116, 104, 111, 114, 105, 122, 97, 116, 105, 111, 110]), .lit (.string [84, 69]), .lit (.string [84, 114, 97, 105, 108, 101, 114]), .lit (.string [84, 114, 97, 110, 115, 102, 101, 114, 45, 69, 110, 99, 111, 100, 105, 110, 103]), .lit (.string [85, 112, 103, 114, 97, 100, 101]), .lit (.string [67, 111, 110, 116, 101, 110, 116, 45, 76, 101, 110, 103, 116, 104])]
/-- One of Go's own tables, pinned by name: the form's constant. -/
def laid_unicode_utf8_first : DataW Unit := Go.Pinned.utf8First

/-- 'depotlaw16.HopsStrips': WHATEVER THE INPUT: true; the input reads as it did. -/
def hopsStripsSpec : ChangeSpec := { name := "hopsStrips", fn := fun _ => fun
  | [d1, d2] => { results := [.lit (.bool true)], args := [d1, d2] }
  | _ => none }
def hopsStripsRow : OpenClaim := { program := "ytomeobbellhooaadoor", sum := "94e224174ae321b67c24a7b52ef73d16bdad9c404106e48ca9be8d2adfe44228", func := "depot/depotlaw16.HopsStrips", spec := "hopsStrips", inPlace := ["internal/bytealg.IndexByteString", "internal/bytealg.IndexString"], unfollowed := true, recurses := true, named := ["depot/hops.names", "unicode/utf8.first", "unicode/utf8.acceptRanges", "internal/bytealg.MaxLen"], apart := false, laid := [("unicode/utf8.acceptRanges", laid_unicode_utf8_acceptRanges), ("depot/hops.names", laid_depot_hops_names), ("unicode/utf8.first", laid_unicode_utf8_first)] }
def HopsStripsSaid : Prop := hopsStripsRow.holds Tryd.pinned (OpenSpec.ofChange hopsStripsSpec)

/-- ITS FALSE NEIGHBOUR: 'it returns false'. Refute it at one input. -/
def hopsStripsWrong : ChangeSpec := { name := "hopsStrips", fn := fun _ => fun
  | [d1, d2] => { results := [.lit (.bool false)], args := [d1, d2] }
  | _ => none }
def HopsStripsWrongFalsely : Prop := hopsStripsRow.holds Tryd.pinned (OpenSpec.ofChange hopsStripsWrong)

/-- 'depotlaw16.HopsAgain': WHATEVER THE INPUT: true; the input reads as it did. -/
def hopsAgainSpec : ChangeSpec := { name := "hopsAgain", fn := fun _ => fun
  | [d] => { results := [.lit (.bool true)], args := [d] }
  | _ => none }
def hopsAgainRow : OpenClaim := { program := "ytomeobbellhooaadoor", sum := "94e224174ae321b67c24a7b52ef73d16bdad9c404106e48ca9be8d2adfe44228", func := "depot/depotlaw16.HopsAgain", spec := "hopsAgain", inPlace := ["internal/bytealg.IndexByteString", "internal/bytealg.IndexString"], unfollowed := true, recurses := true, named := ["depot/hops.names", "unicode/utf8.first", "unicode/utf8.acceptRanges", "internal/bytealg.MaxLen"], apart := false, laid := [("unicode/utf8.acceptRanges", laid_unicode_utf8_acceptRanges), ("depot/hops.names", laid_depot_hops_names), ("unicode/utf8.first", laid_unicode_utf8_first)] }
def HopsAgainSaid : Prop := hopsAgainRow.holds Tryd.pinned (OpenSpec.ofChange hopsAgainSpec)

/-- ITS FALSE NEIGHBOUR: 'it returns false'. Refute it at one input. -/
def hopsAgainWrong : ChangeSpec := { name := "hopsAgain", fn := fun _ => fun
  | [d] => { results := [.lit (.bool false)], args := [d] }
  | _ => none }
def HopsAgainWrongFalsely : Prop := hopsAgainRow.holds Tryd.pinned (OpenSpec.ofChange hopsAgainWrong)

/-- 'depotlaw16.HopsMore': WHATEVER THE INPUT: true; the input reads as it did. -/
def hopsMoreSpec : ChangeSpec := { name := "hopsMore", fn := fun _ => fun
  | [d1, d2] => { results := [.lit (.bool true)], args := [d1, d2] }
  | _ => none }
def hopsMoreRow : OpenClaim := { program := "ytomeobbellhooaadoor", sum := "94e224174ae321b67c24a7b52ef73d16bdad9c404106e48ca9be8d2adfe44228", func := "depot/depotlaw16.HopsMore", spec := "hopsMore", inPlace := ["internal/bytealg.IndexByteString", "internal/bytealg.IndexString"], unfollowed := true, recurses := true, named := ["depot/hops.names", "unicode/utf8.first", "unicode/utf8.acceptRanges", "internal/bytealg.MaxLen"], apart := false, laid := [("unicode/utf8.acceptRanges", laid_unicode_utf8_acceptRanges), ("depot/hops.names", laid_depot_hops_names), ("unicode/utf8.first", laid_unicode_utf8_first)] }
def HopsMoreSaid : Prop := hopsMoreRow.holds Tryd.pinned (OpenSpec.ofChange hopsMoreSpec)

/-- ITS FALSE NEIGHBOUR: 'it returns false'. Refute it at one input. -/
def hopsMoreWrong : ChangeSpec := { name := "hopsMore", fn := fun _ => fun
  | [d1, d2] => { results := [.lit (.bool false)], args := [d1, d2] }
  | _ => none }
def HopsMoreWrongFalsely : Prop := hopsMoreRow.holds Tryd.pinned (OpenSpec.ofChange hopsMoreWrong)

/-- 'depotlaw06.ItemsSplits': WHATEVER THE INPUT: true; the input reads as it did. -/
def itemsSplitsSpec : ChangeSpec := { name := "itemsSplits", fn := fun _ => fun
  | [d1, d2] => { results := [.lit (.bool true)], args := [d1, d2] }
  | _ => none }
def itemsSplitsRow : OpenClaim := { program := "ytomeobbellhooaadoor", sum := "94e224174ae321b67c24a7b52ef73d16bdad9c404106e48ca9be8d2adfe44228", func := "depot/depotlaw06.ItemsSplits", spec := "itemsSplits", inPlace := ["internal/bytealg.IndexByteString", "internal/bytealg.IndexString", "internal/abi.NoEscape", "internal/bytealg.MakeNoZero"], unfollowed := true, recurses := true, named := ["unicode/utf8.first", "unicode/utf8.acceptRanges", "internal/bytealg.MaxLen"], apart := false, laid := [("unicode/utf8.acceptRanges", laid_unicode_utf8_acceptRanges), ("unicode/utf8.first", laid_unicode_utf8_first)] }
def ItemsSplitsSaid : Prop := itemsSplitsRow.holds Tryd.pinned (OpenSpec.ofChange itemsSplitsSpec)

/-- ITS FALSE NEIGHBOUR: 'it returns false'. Refute it at one input. -/
def itemsSplitsWrong : ChangeSpec := { name := "itemsSplits", fn := fun _ => fun
  | [d1, d2] => { results := [.lit (.bool false)], args := [d1, d2] }
  | _ => none }
def ItemsSplitsWrongFalsely : Prop := itemsSplitsRow.holds Tryd.pinned (OpenSpec.ofChange itemsSplitsWrong)

/-- 'depotlaw06.ItemsQuotes': WHATEVER THE INPUT: true; the input reads as it did. -/
def itemsQuotesSpec : ChangeSpec := { name := "itemsQuotes", fn := fun _ => fun
  | [d] => { results := [.lit (.bool true)], args := [d] }
  | _ => none }
def itemsQuotesRow : OpenClaim := { program := "ytomeobbellhooaadoor", sum := "94e224174ae321b67c24a7b52ef73d16bdad9c404106e48ca9be8d2adfe44228", func := "depot/depotlaw06.ItemsQuotes", spec := "itemsQuotes", inPlace := ["internal/bytealg.IndexByteString", "internal/bytealg.IndexString", "internal/abi.NoEscape", "internal/bytealg.MakeNoZero"], unfollowed := true, recurses := true, named := ["unicode/utf8.first", "unicode/utf8.acceptRanges", "internal/bytealg.MaxLen"], apart := false, laid := [("unicode/utf8.acceptRanges", laid_unicode_utf8_acceptRanges), ("unicode/utf8.first", laid_unicode_utf8_first)] }
def ItemsQuotesSaid : Prop := itemsQuotesRow.holds Tryd.pinned (OpenSpec.ofChange itemsQuotesSpec)

/-- ITS FALSE NEIGHBOUR: 'it returns false'. Refute it at one input. -/
def itemsQuotesWrong : ChangeSpec := { name := "itemsQuotes", fn := fun _ => fun
  | [d] => { results := [.lit (.bool false)], args := [d] }
  | _ => none }
def ItemsQuotesWrongFalsely : Prop := itemsQuotesRow.holds Tryd.pinned (OpenSpec.ofChange itemsQuotesWrong)

/-- 'depotlaw06.ItemsBack': WHATEVER THE INPUT: true; the input reads as it did. -/
def itemsBackSpec : ChangeSpec := { name := "itemsBack", fn := fun _ => fun
  | [d1, d2] => { results := [.lit (.bool true)], args := [d1, d2] }
  | _ => none }
def itemsBackRow : OpenClaim := { program := "ytomeobbellhooaadoor", sum := "94e224174ae321b67c24a7b52ef73d16bdad9c404106e48ca9be8d2adfe44228", func := "depot/depotlaw06.ItemsBack", spec := "itemsBack", inPlace := ["internal/bytealg.IndexByteString", "internal/bytealg.IndexString", "internal/abi.NoEscape", "internal/bytealg.MakeNoZero"], unfollowed := true, recurses := true, named := ["unicode/utf8.first", "unicode/utf8.acceptRanges", "internal/bytealg.MaxLen"], apart := false, laid := [("unicode/utf8.acceptRanges", laid_unicode_utf8_acceptRanges), ("unicode/utf8.first", laid_unicode_utf8_first)] }
def ItemsBackSaid : Prop := itemsBackRow.holds Tryd.pinned (OpenSpec.ofChange itemsBackSpec)

/-- ITS FALSE NEIGHBOUR: 'it returns false'. Refute it at one input. -/
def itemsBackWrong : ChangeSpec := { name := "itemsBack", fn := fun _ => fun
  | [d1, d2] => { results := [.lit (.bool false)], args := [d1, d2] }
  | _ => none }
def ItemsBackWrongFalsely : Prop := itemsBackRow.holds Tryd.pinned (OpenSpec.ofChange itemsBackWrong)

/-- 'depotlaw06.ItemsJoined': WHATEVER THE INPUT: true; the input reads as it did. -/
def itemsJoinedSpec : ChangeSpec := { name := "itemsJoined", fn := fun _ => fun
  | [d1, d2] => { results := [.lit (.bool true)], args := [d1, d2] }
  | _ => none }
def itemsJoinedRow : OpenClaim := { program := "ytomeobbellhooaadoor", sum := "94e224174ae321b67c24a7b52ef73d16bdad9c404106e48ca9be8d2adfe44228", func := "depot/depotlaw06.ItemsJoined", spec := "itemsJoined", inPlace := ["internal/bytealg.IndexByteString", "internal/bytealg.IndexString", "internal/abi.NoEscape", "internal/bytealg.MakeNoZero"], unfollowed := true, recurses := true, named := ["unicode/utf8.first", "unicode/utf8.acceptRanges", "internal/bytealg.MaxLen"], apart := false, laid := [("unicode/utf8.acceptRanges", laid_unicode_utf8_acceptRanges), ("unicode/utf8.first", laid_unicode_utf8_first)] }
def ItemsJoinedSaid : Prop := itemsJoinedRow.holds Tryd.pinned (OpenSpec.ofChange itemsJoinedSpec)

/-- ITS FALSE NEIGHBOUR: 'it returns false'. Refute it at one input. -/
def itemsJoinedWrong : ChangeSpec := { name := "itemsJoined", fn := fun _ => fun
  | [d1, d2] => { results := [.lit (.bool false)], args := [d1, d2] }
  | _ => none }
def ItemsJoinedWrongFalsely : Prop := itemsJoinedRow.holds Tryd.pinned (OpenSpec.ofChange itemsJoinedWrong)

/-- 'depotlaw09.FieldsParses': WHATEVER THE INPUT: true; the input reads as it did. -/
def fieldsParsesSpec : ChangeSpec := { name := "fieldsParses", fn := fun _ => fun
  | [d1, d2] => { results := [.lit (.bool true)], args := [d1, d2] }
  | _ => none }
def fieldsParsesRow : OpenClaim := { program := "ytomeobbellhooaadoor", sum := "94e224174ae321b67c24a7b52ef73d16bdad9c404106e48ca9be8d2adfe44228", func := "depot/depotlaw09.FieldsParses", spec := "fieldsParses", inPlace := ["internal/bytealg.IndexByteString", "internal/bytealg.IndexString", "internal/abi.NoEscape", "internal/bytealg.MakeNoZero"], unfollowed := true, recurses := true, named := ["unicode/utf8.first", "unicode/utf8.acceptRanges", "internal/bytealg.MaxLen"], apart := false, laid := [("unicode/utf8.acceptRanges", laid_unicode_utf8_acceptRanges), ("unicode/utf8.first", laid_unicode_utf8_first)] }
def FieldsParsesSaid : Prop := fieldsParsesRow.holds Tryd.pinned (OpenSpec.ofChange fieldsParsesSpec)

/-- ITS FALSE NEIGHBOUR: 'it returns false'. Refute it at one input. -/
def fieldsParsesWrong : ChangeSpec := { name := "fieldsParses", fn := fun _ => fun
  | [d1, d2] => { results := [.lit (.bool false)], args := [d1, d2] }
  | _ => none }
def FieldsParsesWrongFalsely : Prop := fieldsParsesRow.holds Tryd.pinned (OpenSpec.ofChange fieldsParsesWrong)

/-- 'depotlaw09.FieldsAsks': WHATEVER THE INPUT: true; the input reads as it did. -/
def fieldsAsksSpec : ChangeSpec := { name := "fieldsAsks", fn := fun _ => fun
  | [d1, d2, d3] => { results := [.lit (.bool true)], args := [d1, d2, d3] }
  | _ => none }
def fieldsAsksRow : OpenClaim := { program := "ytomeobbellhooaadoor", sum := "94e224174ae321b67c24a7b52ef73d16bdad9c404106e48ca9be8d2adfe44228", func := "depot/depotlaw09.FieldsAsks", spec := "fieldsAsks", inPlace := ["internal/bytealg.IndexByteString", "internal/bytealg.IndexString", "internal/abi.NoEscape", "internal/bytealg.MakeNoZero"], unfollowed := true, recurses := true, named := ["unicode/utf8.first", "unicode/utf8.acceptRanges", "internal/bytealg.MaxLen"], apart := false, laid := [("unicode/utf8.acceptRanges", laid_unicode_utf8_acceptRanges), ("unicode/utf8.first", laid_unicode_utf8_first)] }
def FieldsAsksSaid : Prop := fieldsAsksRow.holds Tryd.pinned (OpenSpec.ofChange fieldsAsksSpec)

/-- ITS FALSE NEIGHBOUR: 'it returns false'. Refute it at one input. -/
def fieldsAsksWrong : ChangeSpec := { name := "fieldsAsks", fn := fun _ => fun
  | [d1, d2, d3] => { results := [.lit (.bool false)], args := [d1, d2, d3] }
  | _ => none }
def FieldsAsksWrongFalsely : Prop := fieldsAsksRow.holds Tryd.pinned (OpenSpec.ofChange fieldsAsksWrong)

/-- 'depotlaw09.FieldsTurns': WHATEVER THE INPUT: true; the input reads as it did. -/
def fieldsTurnsSpec : ChangeSpec := { name := "fieldsTurns", fn := fun _ => fun
  | [d1, d2, d3, d4] => { results := [.lit (.bool true)], args := [d1, d2, d3, d4] }
  | _ => none }
def fieldsTurnsRow : OpenClaim := { program := "ytomeobbellhooaadoor", sum := "94e224174ae321b67c24a7b52ef73d16bdad9c404106e48ca9be8d2adfe44228", func := "depot/depotlaw09.FieldsTurns", spec := "fieldsTurns", inPlace := ["internal/bytealg.IndexByteString", "internal/bytealg.IndexString", "internal/abi.NoEscape", "internal/bytealg.MakeNoZero"], unfollowed := true, recurses := true, named := ["unicode/utf8.first", "unicode/utf8.acceptRanges", "internal/bytealg.MaxLen"], apart := false, laid := [("unicode/utf8.acceptRanges", laid_unicode_utf8_acceptRanges), ("unicode/utf8.first", laid_unicode_utf8_first)] }
def FieldsTurnsSaid : Prop := fieldsTurnsRow.holds Tryd.pinned (OpenSpec.ofChange fieldsTurnsSpec)

/-- ITS FALSE NEIGHBOUR: 'it returns false'. Refute it at one input. -/
def fieldsTurnsWrong : ChangeSpec := { name := "fieldsTurns", fn := fun _ => fun
  | [d1, d2, d3, d4] => { results := [.lit (.bool false)], args := [d1, d2, d3, d4] }
  | _ => none }
def FieldsTurnsWrongFalsely : Prop := fieldsTurnsRow.holds Tryd.pinned (OpenSpec.ofChange fieldsTurnsWrong)

/-- 'depotlaw09.FieldsBack': WHATEVER THE INPUT: true; the input reads as it did. -/
def fieldsBackSpec : ChangeSpec := { name := "fieldsBack", fn := fun _ => fun
  | [d1, d2] => { results := [.lit (.bool true)], args := [d1, d2] }
  | _ => none }
def fieldsBackRow : OpenClaim := { program := "ytomeobbellhooaadoor", sum := "94e224174ae321b67c24a7b52ef73d16bdad9c404106e48ca9be8d2adfe44228", func := "depot/depotlaw09.FieldsBack", spec := "fieldsBack", inPlace := ["internal/bytealg.IndexByteString", "internal/bytealg.IndexString", "internal/abi.NoEscape", "internal/bytealg.MakeNoZero"], unfollowed := true, recurses := true, named := ["unicode/utf8.first", "unicode/utf8.acceptRanges", "internal/bytealg.MaxLen"], apart := false, laid := [("unicode/utf8.acceptRanges", laid_unicode_utf8_acceptRanges), ("unicode/utf8.first", laid_unicode_utf8_first)] }
def FieldsBackSaid : Prop := fieldsBackRow.holds Tryd.pinned (OpenSpec.ofChange fieldsBackSpec)

/-- ITS FALSE NEIGHBOUR: 'it returns false'. Refute it at one input. -/
def fieldsBackWrong : ChangeSpec := { name := "fieldsBack", fn := fun _ => fun
  | [d1, d2] => { results := [.lit (.bool false)], args := [d1, d2] }
  | _ => none }
def FieldsBackWrongFalsely : Prop := fieldsBackRow.holds Tryd.pinned (OpenSpec.ofChange fieldsBackWrong)

/-- 'depotlaw09.FieldsSets': WHATEVER THE INPUT: true; the input reads as it did. -/
def fieldsSetsSpec : ChangeSpec := { name := "fieldsSets", fn := fun _ => fun
  | [d1, d2, d3] => { results := [.lit (.bool true)], args := [d1, d2, d3] }
  | _ => none }
def fieldsSetsRow : OpenClaim := { program := "ytomeobbellhooaadoor", sum := "94e224174ae321b67c24a7b52ef73d16bdad9c404106e48ca9be8d2adfe44228", func := "depot/depotlaw09.FieldsSets", spec := "fieldsSets", inPlace := ["internal/bytealg.IndexByteString", "internal/bytealg.IndexString", "internal/abi.NoEscape", "internal/bytealg.MakeNoZero"], unfollowed := true, recurses := true, named := ["unicode/utf8.first", "unicode/utf8.acceptRanges", "internal/bytealg.MaxLen"], apart := false, laid := [("unicode/utf8.acceptRanges", laid_unicode_utf8_acceptRanges), ("unicode/utf8.first", laid_unicode_utf8_first)] }
def FieldsSetsSaid : Prop := fieldsSetsRow.holds Tryd.pinned (OpenSpec.ofChange fieldsSetsSpec)

/-- ITS FALSE NEIGHBOUR: 'it returns false'. Refute it at one input. -/
def fieldsSetsWrong : ChangeSpec := { name := "fieldsSets", fn := fun _ => fun
  | [d1, d2, d3] => { results := [.lit (.bool false)], args := [d1, d2, d3] }
  | _ => none }
def FieldsSetsWrongFalsely : Prop := fieldsSetsRow.holds Tryd.pinned (OpenSpec.ofChange fieldsSetsWrong)

/- THE SECOND FORM. 'bulk': how many values and letters a reading holds, each counted each time it is reached (what is shared counts as often as it is met; a slice's spare places count too). A statement '..UptoSaid' is the law's where the arguments, and the package variables that the reading takes, are together of bulk at most 1048576: NARROWER than '..Said'. Prove '..Said' where nothing that the law and all that it calls make is longer than what came in: it says more and counts as full. Else prove '..UptoSaid'. A law counts once. -/
mutual
def uptoBulk {H : Type} : DataW H → Nat
  | .lit (.string bytes) => bytes.length + 1
  | .lit _ => 1
  | .nil => 1
  | .ptr d => uptoBulk d + 1
  | .slice elems spare => uptoBulkAll elems + uptoBulkAll spare + 1
  | .agg parts => uptoBulkAll parts + 1
  | .iface _ d => uptoBulk d + 1
  | .map entries => uptoBulkEntries entries + 1
  | .held _ => 1
def uptoBulkAll {H : Type} : List (DataW H) → Nat
  | [] => 0
  | d :: r => uptoBulk d + uptoBulkAll r
def uptoBulkEntries {H : Type} : List (Lit × DataW H) → Nat
  | [] => 0
  | x :: r => uptoBulkEntry x + uptoBulkEntries r
def uptoBulkEntry {H : Type} : Lit × DataW H → Nat
  | (.string bytes, d) => bytes.length + uptoBulk d + 1
  | (_, d) => uptoBulk d + 1
 end
def uptoSmall : (H : Type) → List (DataW H) → Bool := fun _ ds => decide (uptoBulkAll ds ≤ 1048576)
def OpenSpec.upto (s : _root_.Go.ChangeSpec) : _root_.Go.OpenSpec := { _root_.Go.OpenSpec.ofChange s with cond := some uptoSmall }

/-- 'depotlaw16.HopsStrips', WHERE WHAT IT READS IS OF BULK AT MOST 1048576: true; the input reads as it did. -/
def hopsStripsUptoRow : OpenClaim := { program := "ytomeobbellhooaadoor", sum := "94e224174ae321b67c24a7b52ef73d16bdad9c404106e48ca9be8d2adfe44228", func := "depot/depotlaw16.HopsStrips", spec := "hopsStrips", inPlace := ["internal/bytealg.IndexByteString", "internal/bytealg.IndexString"], unfollowed := true, recurses := true, named := ["depot/hops.names", "unicode/utf8.first", "unicode/utf8.acceptRanges", "internal/bytealg.MaxLen"], apart := false, laid := [("unicode/utf8.acceptRanges", laid_unicode_utf8_acceptRanges), ("depot/hops.names", laid_depot_hops_names), ("unicode/utf8.first", laid_unicode_utf8_first)], narrowed := true }
def HopsStripsUptoSaid : Prop := hopsStripsUptoRow.holds Tryd.pinned (OpenSpec.upto hopsStripsSpec)

/-- 'depotlaw16.HopsAgain', WHERE WHAT IT READS IS OF BULK AT MOST 1048576: true; the input reads as it did. -/
def hopsAgainUptoRow : OpenClaim := { program := "ytomeobbellhooaadoor", sum := "94e224174ae321b67c24a7b52ef73d16bdad9c404106e48ca9be8d2adfe44228", func := "depot/depotlaw16.HopsAgain", spec := "hopsAgain", inPlace := ["internal/bytealg.IndexByteString", "internal/bytealg.IndexString"], unfollowed := true, recurses := true, named := ["depot/hops.names", "unicode/utf8.first", "unicode/utf8.acceptRanges", "internal/bytealg.MaxLen"], apart := false, laid := [("unicode/utf8.acceptRanges", laid_unicode_utf8_acceptRanges), ("depot/hops.names", laid_depot_hops_names), ("unicode/utf8.first", laid_unicode_utf8_first)], narrowed := true }
def HopsAgainUptoSaid : Prop := hopsAgainUptoRow.holds Tryd.pinned (OpenSpec.upto hopsAgainSpec)

/-- 'depotlaw16.HopsMore', WHERE WHAT IT READS IS OF BULK AT MOST 1048576: true; the input reads as it did. -/
def hopsMoreUptoRow : OpenClaim := { program := "ytomeobbellhooaadoor", sum := "94e224174ae321b67c24a7b52ef73d16bdad9c404106e48ca9be8d2adfe44228", func := "depot/depotlaw16.HopsMore", spec := "hopsMore", inPlace := ["internal/bytealg.IndexByteString", "internal/bytealg.IndexString"], unfollowed := true, recurses := true, named := ["depot/hops.names", "unicode/utf8.first", "unicode/utf8.acceptRanges", "internal/bytealg.MaxLen"], apart := false, laid := [("unicode/utf8.acceptRanges", laid_unicode_utf8_acceptRanges), ("depot/hops.names", laid_depot_hops_names), ("unicode/utf8.first", laid_unicode_utf8_first)], narrowed := true }
def HopsMoreUptoSaid : Prop := hopsMoreUptoRow.holds Tryd.pinned (OpenSpec.upto hopsMoreSpec)

/-- 'depotlaw06.ItemsSplits', WHERE WHAT IT READS IS OF BULK AT MOST 1048576: true; the input reads as it did. -/
def itemsSplitsUptoRow : OpenClaim := { program := "ytomeobbellhooaadoor", sum := "94e224174ae321b67c24a7b52ef73d16bdad9c404106e48ca9be8d2adfe44228", func := "depot/depotlaw06.ItemsSplits", spec := "itemsSplits", inPlace := ["internal/bytealg.IndexByteString", "internal/bytealg.IndexString", "internal/abi.NoEscape", "internal/bytealg.MakeNoZero"], unfollowed := true, recurses := true, named := ["unicode/utf8.first", "unicode/utf8.acceptRanges", "internal/bytealg.MaxLen"], apart := false, laid := [("unicode/utf8.acceptRanges", laid_unicode_utf8_acceptRanges), ("unicode/utf8.first", laid_unicode_utf8_first)], narrowed := true }
def ItemsSplitsUptoSaid : Prop := itemsSplitsUptoRow.holds Tryd.pinned (OpenSpec.upto itemsSplitsSpec)

/-- 'depotlaw06.ItemsQuotes', WHERE WHAT IT READS IS OF BULK AT MOST 1048576: true; the input reads as it did. -/
def itemsQuotesUptoRow : OpenClaim := { program := "ytomeobbellhooaadoor", sum := "94e224174ae321b67c24a7b52ef73d16bdad9c404106e48ca9be8d2adfe44228", func := "depot/depotlaw06.ItemsQuotes", spec := "itemsQuotes", inPlace := ["internal/bytealg.IndexByteString", "internal/bytealg.IndexString", "internal/abi.NoEscape", "internal/bytealg.MakeNoZero"], unfollowed := true, recurses := true, named := ["unicode/utf8.first", "unicode/utf8.acceptRanges", "internal/bytealg.MaxLen"], apart := false, laid := [("unicode/utf8.acceptRanges", laid_unicode_utf8_acceptRanges), ("unicode/utf8.first", laid_unicode_utf8_first)], narrowed := true }
def ItemsQuotesUptoSaid : Prop := itemsQuotesUptoRow.holds Tryd.pinned (OpenSpec.upto itemsQuotesSpec)

/-- 'depotlaw06.ItemsBack', WHERE WHAT IT READS IS OF BULK AT MOST 1048576: true; the input reads as it did. -/
def itemsBackUptoRow : OpenClaim := { program := "ytomeobbellhooaadoor", sum := "94e224174ae321b67c24a7b52ef73d16bdad9c404106e48ca9be8d2adfe44228", func := "depot/depotlaw06.ItemsBack", spec := "itemsBack", inPlace := ["internal/bytealg.IndexByteString", "internal/bytealg.IndexString", "internal/abi.NoEscape", "internal/bytealg.MakeNoZero"], unfollowed := true, recurses := true, named := ["unicode/utf8.first", "unicode/utf8.acceptRanges", "internal/bytealg.MaxLen"], apart := false, laid := [("unicode/utf8.acceptRanges", laid_unicode_utf8_acceptRanges), ("unicode/utf8.first", laid_unicode_utf8_first)], narrowed := true }
def ItemsBackUptoSaid : Prop := itemsBackUptoRow.holds Tryd.pinned (OpenSpec.upto itemsBackSpec)

/-- 'depotlaw06.ItemsJoined', WHERE WHAT IT READS IS OF BULK AT MOST 1048576: true; the input reads as it did. -/
def itemsJoinedUptoRow : OpenClaim := { program := "ytomeobbellhooaadoor", sum := "94e224174ae321b67c24a7b52ef73d16bdad9c404106e48ca9be8d2adfe44228", func := "depot/depotlaw06.ItemsJoined", spec := "itemsJoined", inPlace := ["internal/bytealg.IndexByteString", "internal/bytealg.IndexString", "internal/abi.NoEscape", "internal/bytealg.MakeNoZero"], unfollowed := true, recurses := true, named := ["unicode/utf8.first", "unicode/utf8.acceptRanges", "internal/bytealg.MaxLen"], apart := false, laid := [("unicode/utf8.acceptRanges", laid_unicode_utf8_acceptRanges), ("unicode/utf8.first", laid_unicode_utf8_first)], narrowed := true }
def ItemsJoinedUptoSaid : Prop := itemsJoinedUptoRow.holds Tryd.pinned (OpenSpec.upto itemsJoinedSpec)

/-- 'depotlaw09.FieldsParses', WHERE WHAT IT READS IS OF BULK AT MOST 1048576: true; the input reads as it did. -/
def fieldsParsesUptoRow : OpenClaim := { program := "ytomeobbellhooaadoor", sum := "94e224174ae321b67c24a7b52ef73d16bdad9c404106e48ca9be8d2adfe44228", func := "depot/depotlaw09.FieldsParses", spec := "fieldsParses", inPlace := ["internal/bytealg.IndexByteString", "internal/bytealg.IndexString", "internal/abi.NoEscape", "internal/bytealg.MakeNoZero"], unfollowed := true, recurses := true, named := ["unicode/utf8.first", "unicode/utf8.acceptRanges", "internal/bytealg.MaxLen"], apart := false, laid := [("unicode/utf8.acceptRanges", laid_unicode_utf8_acceptRanges), ("unicode/utf8.first", laid_unicode_utf8_first)], narrowed := true }
def FieldsParsesUptoSaid : Prop := fieldsParsesUptoRow.holds Tryd.pinned (OpenSpec.upto fieldsParsesSpec)

/-- 'depotlaw09.FieldsAsks', WHERE WHAT IT READS IS OF BULK AT MOST 1048576: true; the input reads as it did. -/
def fieldsAsksUptoRow : OpenClaim := { program := "ytomeobbellhooaadoor", sum := "94e224174ae321b67c24a7b52ef73d16bdad9c404106e48ca9be8d2adfe44228", func := "depot/depotlaw09.FieldsAsks", spec := "fieldsAsks", inPlace := ["internal/bytealg.IndexByteString", "internal/bytealg.IndexString", "internal/abi.NoEscape", "internal/bytealg.MakeNoZero"], unfollowed := true, recurses := true, named := ["unicode/utf8.first", "unicode/utf8.acceptRanges", "internal/bytealg.MaxLen"], apart := false, laid := [("unicode/utf8.acceptRanges", laid_unicode_utf8_acceptRanges), ("unicode/utf8.first", laid_unicode_utf8_first)], narrowed := true }
def FieldsAsksUptoSaid : Prop := fieldsAsksUptoRow.holds Tryd.pinned (OpenSpec.upto fieldsAsksSpec)

/-- 'depotlaw09.FieldsTurns', WHERE WHAT IT READS IS OF BULK AT MOST 1048576: true; the input reads as it did. -/
def fieldsTurnsUptoRow : OpenClaim := { program := "ytomeobbellhooaadoor", sum := "94e224174ae321b67c24a7b52ef73d16bdad9c404106e48ca9be8d2adfe44228", func := "depot/depotlaw09.FieldsTurns", spec := "fieldsTurns", inPlace := ["internal/bytealg.IndexByteString", "internal/bytealg.IndexString", "internal/abi.NoEscape", "internal/bytealg.MakeNoZero"], unfollowed := true, recurses := true, named := ["unicode/utf8.first", "unicode/utf8.acceptRanges", "internal/bytealg.MaxLen"], apart := false, laid := [("unicode/utf8.acceptRanges", laid_unicode_utf8_acceptRanges), ("unicode/utf8.first", laid_unicode_utf8_first)], narrowed := true }
def FieldsTurnsUptoSaid : Prop := fieldsTurnsUptoRow.holds Tryd.pinned (OpenSpec.upto fieldsTurnsSpec)

/-- 'depotlaw09.FieldsBack', WHERE WHAT IT READS IS OF BULK AT MOST 1048576: true; the input reads as it did. -/
def fieldsBackUptoRow : OpenClaim := { program := "ytomeobbellhooaadoor", sum := "94e224174ae321b67c24a7b52ef73d16bdad9c404106e48ca9be8d2adfe44228", func := "depot/depotlaw09.FieldsBack", spec := "fieldsBack", inPlace := ["internal/bytealg.IndexByteString", "internal/bytealg.IndexString", "internal/abi.NoEscape", "internal/bytealg.MakeNoZero"], unfollowed := true, recurses := true, named := ["unicode/utf8.first", "unicode/utf8.acceptRanges", "internal/bytealg.MaxLen"], apart := false, laid := [("unicode/utf8.acceptRanges", laid_unicode_utf8_acceptRanges), ("unicode/utf8.first", laid_unicode_utf8_first)], narrowed := true }
def FieldsBackUptoSaid : Prop := fieldsBackUptoRow.holds Tryd.pinned (OpenSpec.upto fieldsBackSpec)

/-- 'depotlaw09.FieldsSets', WHERE WHAT IT READS IS OF BULK AT MOST 1048576: true; the input reads as it did. -/
def fieldsSetsUptoRow : OpenClaim := { program := "ytomeobbellhooaadoor", sum := "94e224174ae321b67c24a7b52ef73d16bdad9c404106e48ca9be8d2adfe44228", func := "depot/depotlaw09.FieldsSets", spec := "fieldsSets", inPlace := ["internal/bytealg.IndexByteString", "internal/bytealg.IndexString", "internal/abi.NoEscape", "internal/bytealg.MakeNoZero"], unfollowed := true, recurses := true, named := ["unicode/utf8.first", "unicode/utf8.acceptRanges", "internal/bytealg.MaxLen"], apart := false, laid := [("unicode/utf8.acceptRanges", laid_unicode_utf8_acceptRanges), ("unicode/utf8.first", laid_unicode_utf8_first)], narrowed := true }
def FieldsSetsUptoSaid : Prop := fieldsSetsUptoRow.holds Tryd.pinned (OpenSpec.upto fieldsSetsSpec)

end Rows
end Go.Proofs.YtomeobbellhooaaDoor
