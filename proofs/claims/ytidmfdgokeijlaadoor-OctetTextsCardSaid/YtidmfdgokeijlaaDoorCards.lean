/-
  DERIVED. GIVEN WITH THE SEED: THE CARDS: each row of YtidmfdgokeijlaaDoorRows.lean that lists a variable, with what it lists TIED to the program's text (the seventh form; the later family's looks); each row that meets fmt, with fmt's text TOLD by the authors' own Lean function (tested against real Go, not proved from fmt's source: count such statements apart). THE CARD IS WHAT COUNTS. Prove the row's statement (the work); the ties are given (YtidmfdgokeijlaaDoorTie.lean); close each card by the builder's one call (the guide's Derived/Test/ToyasCard.lean, 'card_holds'). Laid BY PROGRAM, IN A SANDBOX (cutbox-door.mjs). By AI agents, Wed Nov 11 2026. No macro, syntax, notation, axiom, sorry.
-/
import Derived.Test.YtidmfdgokeijlaaDoorRows
import GoSem.ClaimSeven
namespace Go.Proofs.YtidmfdgokeijlaaDoor
namespace Rows

/-- THE TIED CARD OF 'depotlaw01.OctetBytes'. -/
def octetBytesCard : Claim7 := { stood := { row := octetBytesRow, standIns := [], harness := (true, "1d767b2299d1422a5f07ac420b2c2b520b29e8cda26162f3ec3e3098afadef83"), looks := false }, kinds := [], alts := [], laidByText := true, laidKinds := [.data, .pinned], laidTests := true, laidLooks := .later }
def OctetBytesCardSaid : Prop := Claim7.holds Tryd.pinned (.plain (OpenSpec.ofChange octetBytesSpec)) octetBytesCard

/-- THE TIED CARD OF 'depotlaw01.OctetTexts'. -/
def octetTextsCard : Claim7 := { stood := { row := octetTextsRow, standIns := [], harness := (true, "1d767b2299d1422a5f07ac420b2c2b520b29e8cda26162f3ec3e3098afadef83"), looks := false }, kinds := [], alts := [], laidByText := true, laidKinds := [.data, .pinned], laidTests := true, laidLooks := .later }
def OctetTextsCardSaid : Prop := Claim7.holds Tryd.pinned (.plain (OpenSpec.ofChange octetTextsSpec)) octetTextsCard

/-- THE TIED CARD OF 'depotlaw01.OctetCase'. -/
def octetCaseCard : Claim7 := { stood := { row := octetCaseRow, standIns := [], harness := (true, "1d767b2299d1422a5f07ac420b2c2b520b29e8cda26162f3ec3e3098afadef83"), looks := false }, kinds := [], alts := [], laidByText := true, laidKinds := [.data, .pinned], laidTests := true, laidLooks := .later }
def OctetCaseCardSaid : Prop := Claim7.holds Tryd.pinned (.plain (OpenSpec.ofChange octetCaseSpec)) octetCaseCard

/-- THE TIED CARD OF 'depotlaw01.OctetTrims'. -/
def octetTrimsCard : Claim7 := { stood := { row := octetTrimsRow, standIns := [], harness := (true, "1d767b2299d1422a5f07ac420b2c2b520b29e8cda26162f3ec3e3098afadef83"), looks := false }, kinds := [], alts := [], laidByText := true, laidKinds := [.data, .pinned], laidTests := true, laidLooks := .later }
def OctetTrimsCardSaid : Prop := Claim7.holds Tryd.pinned (.plain (OpenSpec.ofChange octetTrimsSpec)) octetTrimsCard

/-- THE TIED CARD OF 'depotlaw01.OctetParts'. -/
def octetPartsCard : Claim7 := { stood := { row := octetPartsRow, standIns := [], harness := (true, "1d767b2299d1422a5f07ac420b2c2b520b29e8cda26162f3ec3e3098afadef83"), looks := false }, kinds := [], alts := [], laidByText := true, laidKinds := [.data, .pinned], laidTests := true, laidLooks := .later }
def OctetPartsCardSaid : Prop := Claim7.holds Tryd.pinned (.plain (OpenSpec.ofChange octetPartsSpec)) octetPartsCard

/-- THE SECOND FORM's CARD OF 'depotlaw01.OctetBytes'. -/
def octetBytesUptoCard : Claim7 := { stood := { row := octetBytesUptoRow, standIns := [], harness := (true, "1d767b2299d1422a5f07ac420b2c2b520b29e8cda26162f3ec3e3098afadef83"), looks := false }, kinds := [], alts := [], laidByText := true, laidKinds := [.data, .pinned], laidTests := true, laidLooks := .later }
def OctetBytesUptoCardSaid : Prop := Claim7.holds Tryd.pinned (.plain (OpenSpec.upto octetBytesSpec)) octetBytesUptoCard

/-- THE SECOND FORM's CARD OF 'depotlaw01.OctetTexts'. -/
def octetTextsUptoCard : Claim7 := { stood := { row := octetTextsUptoRow, standIns := [], harness := (true, "1d767b2299d1422a5f07ac420b2c2b520b29e8cda26162f3ec3e3098afadef83"), looks := false }, kinds := [], alts := [], laidByText := true, laidKinds := [.data, .pinned], laidTests := true, laidLooks := .later }
def OctetTextsUptoCardSaid : Prop := Claim7.holds Tryd.pinned (.plain (OpenSpec.upto octetTextsSpec)) octetTextsUptoCard

/-- THE SECOND FORM's CARD OF 'depotlaw01.OctetCase'. -/
def octetCaseUptoCard : Claim7 := { stood := { row := octetCaseUptoRow, standIns := [], harness := (true, "1d767b2299d1422a5f07ac420b2c2b520b29e8cda26162f3ec3e3098afadef83"), looks := false }, kinds := [], alts := [], laidByText := true, laidKinds := [.data, .pinned], laidTests := true, laidLooks := .later }
def OctetCaseUptoCardSaid : Prop := Claim7.holds Tryd.pinned (.plain (OpenSpec.upto octetCaseSpec)) octetCaseUptoCard

/-- THE SECOND FORM's CARD OF 'depotlaw01.OctetTrims'. -/
def octetTrimsUptoCard : Claim7 := { stood := { row := octetTrimsUptoRow, standIns := [], harness := (true, "1d767b2299d1422a5f07ac420b2c2b520b29e8cda26162f3ec3e3098afadef83"), looks := false }, kinds := [], alts := [], laidByText := true, laidKinds := [.data, .pinned], laidTests := true, laidLooks := .later }
def OctetTrimsUptoCardSaid : Prop := Claim7.holds Tryd.pinned (.plain (OpenSpec.upto octetTrimsSpec)) octetTrimsUptoCard

/-- THE SECOND FORM's CARD OF 'depotlaw01.OctetParts'. -/
def octetPartsUptoCard : Claim7 := { stood := { row := octetPartsUptoRow, standIns := [], harness := (true, "1d767b2299d1422a5f07ac420b2c2b520b29e8cda26162f3ec3e3098afadef83"), looks := false }, kinds := [], alts := [], laidByText := true, laidKinds := [.data, .pinned], laidTests := true, laidLooks := .later }
def OctetPartsUptoCardSaid : Prop := Claim7.holds Tryd.pinned (.plain (OpenSpec.upto octetPartsSpec)) octetPartsUptoCard
end Rows
end Go.Proofs.YtidmfdgokeijlaaDoor
