/-
  DERIVED. GIVEN WITH THE SEED: THE CARDS: each row of YtomeobbellhooaaDoorRows.lean that lists a variable, with what it lists TIED to the program's text (the seventh form; the later family's looks); each row that meets fmt, with fmt's text TOLD by the authors' own Lean function (tested against real Go, not proved from fmt's source: count such statements apart). THE CARD IS WHAT COUNTS. Prove the row's statement (the work); the ties are given (YtomeobbellhooaaDoorTie.lean); close each card by the builder's one call (the guide's Derived/Test/ToyasCard.lean, 'card_holds'). Laid BY PROGRAM, IN A SANDBOX (cutbox-door.mjs). By AI agents, Wed Nov 11 2026. No macro, syntax, notation, axiom, sorry.
-/
import Derived.Test.YtomeobbellhooaaDoorRows
import GoSem.ClaimSeven
namespace Go.Proofs.YtomeobbellhooaaDoor
namespace Rows

/-- THE TIED CARD OF 'depotlaw16.HopsStrips'. -/
def hopsStripsCard : Claim7 := { stood := { row := hopsStripsRow, standIns := [], harness := (true, "9f5768ec5cacdbe4db8d2d17893f121b3761b738dee2ff57d98fb7d8987a87a1"), looks := false }, kinds := [], alts := [], laidByText := true, laidKinds := [.data, .data, .pinned], laidTests := true, laidLooks := .later }
def HopsStripsCardSaid : Prop := Claim7.holds Tryd.pinned (.plain (OpenSpec.ofChange hopsStripsSpec)) hopsStripsCard

/-- THE TIED CARD OF 'depotlaw16.HopsAgain'. -/
def hopsAgainCard : Claim7 := { stood := { row := hopsAgainRow, standIns := [], harness := (true, "9f5768ec5cacdbe4db8d2d17893f121b3761b738dee2ff57d98fb7d8987a87a1"), looks := false }, kinds := [], alts := [], laidByText := true, laidKinds := [.data, .data, .pinned], laidTests := true, laidLooks := .later }
def HopsAgainCardSaid : Prop := Claim7.holds Tryd.pinned (.plain (OpenSpec.ofChange hopsAgainSpec)) hopsAgainCard

/-- THE TIED CARD OF 'depotlaw16.HopsMore'. -/
def hopsMoreCard : Claim7 := { stood := { row := hopsMoreRow, standIns := [], harness := (true, "9f5768ec5cacdbe4db8d2d17893f121b3761b738dee2ff57d98fb7d8987a87a1"), looks := false }, kinds := [], alts := [], laidByText := true, laidKinds := [.data, .data, .pinned], laidTests := true, laidLooks := .later }
def HopsMoreCardSaid : Prop := Claim7.holds Tryd.pinned (.plain (OpenSpec.ofChange hopsMoreSpec)) hopsMoreCard

/-- THE TIED CARD OF 'depotlaw06.ItemsSplits'. -/
def itemsSplitsCard : Claim7 := { stood := { row := itemsSplitsRow, standIns := [], harness := (true, "9f5768ec5cacdbe4db8d2d17893f121b3761b738dee2ff57d98fb7d8987a87a1"), looks := false }, kinds := [], alts := [], laidByText := true, laidKinds := [.data, .pinned], laidTests := true, laidLooks := .later }
def ItemsSplitsCardSaid : Prop := Claim7.holds Tryd.pinned (.plain (OpenSpec.ofChange itemsSplitsSpec)) itemsSplitsCard

/-- THE TIED CARD OF 'depotlaw06.ItemsQuotes'. -/
def itemsQuotesCard : Claim7 := { stood := { row := itemsQuotesRow, standIns := [], harness := (true, "9f5768ec5cacdbe4db8d2d17893f121b3761b738dee2ff57d98fb7d8987a87a1"), looks := false }, kinds := [], alts := [], laidByText := true, laidKinds := [.data, .pinned], laidTests := true, laidLooks := .later }
def ItemsQuotesCardSaid : Prop := Claim7.holds Tryd.pinned (.plain (OpenSpec.ofChange itemsQuotesSpec)) itemsQuotesCard

/-- THE TIED CARD OF 'depotlaw06.ItemsBack'. -/
def itemsBackCard : Claim7 := { stood := { row := itemsBackRow, standIns := [], harness := (true, "9f5768ec5cacdbe4db8d2d17893f121b3761b738dee2ff57d98fb7d8987a87a1"), looks := false }, kinds := [], alts := [], laidByText := true, laidKinds := [.data, .pinned], laidTests := true, laidLooks := .later }
def ItemsBackCardSaid : Prop := Claim7.holds Tryd.pinned (.plain (OpenSpec.ofChange itemsBackSpec)) itemsBackCard

/-- THE TIED CARD OF 'depotlaw06.ItemsJoined'. -/
def itemsJoinedCard : Claim7 := { stood := { row := itemsJoinedRow, standIns := [], harness := (true, "9f5768ec5cacdbe4db8d2d17893f121b3761b738dee2ff57d98fb7d8987a87a1"), looks := false }, kinds := [], alts := [], laidByText := true, laidKinds := [.data, .pinned], laidTests := true, laidLooks := .later }
def ItemsJoinedCardSaid : Prop := Claim7.holds Tryd.pinned (.plain (OpenSpec.ofChange itemsJoinedSpec)) itemsJoinedCard

/-- THE TIED CARD OF 'depotlaw09.FieldsParses'. -/
def fieldsParsesCard : Claim7 := { stood := { row := fieldsParsesRow, standIns := [], harness := (true, "9f5768ec5cacdbe4db8d2d17893f121b3761b738dee2ff57d98fb7d8987a87a1"), looks := false }, kinds := [], alts := [], laidByText := true, laidKinds := [.data, .pinned], laidTests := true, laidLooks := .later }
def FieldsParsesCardSaid : Prop := Claim7.holds Tryd.pinned (.plain (OpenSpec.ofChange fieldsParsesSpec)) fieldsParsesCard

/-- THE TIED CARD OF 'depotlaw09.FieldsAsks'. -/
def fieldsAsksCard : Claim7 := { stood := { row := fieldsAsksRow, standIns := [], harness := (true, "9f5768ec5cacdbe4db8d2d17893f121b3761b738dee2ff57d98fb7d8987a87a1"), looks := false }, kinds := [], alts := [], laidByText := true, laidKinds := [.data, .pinned], laidTests := true, laidLooks := .later }
def FieldsAsksCardSaid : Prop := Claim7.holds Tryd.pinned (.plain (OpenSpec.ofChange fieldsAsksSpec)) fieldsAsksCard

/-- THE TIED CARD OF 'depotlaw09.FieldsTurns'. -/
def fieldsTurnsCard : Claim7 := { stood := { row := fieldsTurnsRow, standIns := [], harness := (true, "9f5768ec5cacdbe4db8d2d17893f121b3761b738dee2ff57d98fb7d8987a87a1"), looks := false }, kinds := [], alts := [], laidByText := true, laidKinds := [.data, .pinned], laidTests := true, laidLooks := .later }
def FieldsTurnsCardSaid : Prop := Claim7.holds Tryd.pinned (.plain (OpenSpec.ofChange fieldsTurnsSpec)) fieldsTurnsCard

/-- THE TIED CARD OF 'depotlaw09.FieldsBack'. -/
def fieldsBackCard : Claim7 := { stood := { row := fieldsBackRow, standIns := [], harness := (true, "9f5768ec5cacdbe4db8d2d17893f121b3761b738dee2ff57d98fb7d8987a87a1"), looks := false }, kinds := [], alts := [], laidByText := true, laidKinds := [.data, .pinned], laidTests := true, laidLooks := .later }
def FieldsBackCardSaid : Prop := Claim7.holds Tryd.pinned (.plain (OpenSpec.ofChange fieldsBackSpec)) fieldsBackCard

/-- THE TIED CARD OF 'depotlaw09.FieldsSets'. -/
def fieldsSetsCard : Claim7 := { stood := { row := fieldsSetsRow, standIns := [], harness := (true, "9f5768ec5cacdbe4db8d2d17893f121b3761b738dee2ff57d98fb7d8987a87a1"), looks := false }, kinds := [], alts := [], laidByText := true, laidKinds := [.data, .pinned], laidTests := true, laidLooks := .later }
def FieldsSetsCardSaid : Prop := Claim7.holds Tryd.pinned (.plain (OpenSpec.ofChange fieldsSetsSpec)) fieldsSetsCard

/-- THE SECOND FORM's CARD OF 'depotlaw16.HopsStrips'. -/
def hopsStripsUptoCard : Claim7 := { stood := { row := hopsStripsUptoRow, standIns := [], harness := (true, "9f5768ec5cacdbe4db8d2d17893f121b3761b738dee2ff57d98fb7d8987a87a1"), looks := false }, kinds := [], alts := [], laidByText := true, laidKinds := [.data, .data, .pinned], laidTests := true, laidLooks := .later }
def HopsStripsUptoCardSaid : Prop := Claim7.holds Tryd.pinned (.plain (OpenSpec.upto hopsStripsSpec)) hopsStripsUptoCard

/-- THE SECOND FORM's CARD OF 'depotlaw16.HopsAgain'. -/
def hopsAgainUptoCard : Claim7 := { stood := { row := hopsAgainUptoRow, standIns := [], harness := (true, "9f5768ec5cacdbe4db8d2d17893f121b3761b738dee2ff57d98fb7d8987a87a1"), looks := false }, kinds := [], alts := [], laidByText := true, laidKinds := [.data, .data, .pinned], laidTests := true, laidLooks := .later }
def HopsAgainUptoCardSaid : Prop := Claim7.holds Tryd.pinned (.plain (OpenSpec.upto hopsAgainSpec)) hopsAgainUptoCard

/-- THE SECOND FORM's CARD OF 'depotlaw16.HopsMore'. -/
def hopsMoreUptoCard : Claim7 := { stood := { row := hopsMoreUptoRow, standIns := [], harness := (true, "9f5768ec5cacdbe4db8d2d17893f121b3761b738dee2ff57d98fb7d8987a87a1"), looks := false }, kinds := [], alts := [], laidByText := true, laidKinds := [.data, .data, .pinned], laidTests := true, laidLooks := .later }
def HopsMoreUptoCardSaid : Prop := Claim7.holds Tryd.pinned (.plain (OpenSpec.upto hopsMoreSpec)) hopsMoreUptoCard

/-- THE SECOND FORM's CARD OF 'depotlaw06.ItemsSplits'. -/
def itemsSplitsUptoCard : Claim7 := { stood := { row := itemsSplitsUptoRow, standIns := [], harness := (true, "9f5768ec5cacdbe4db8d2d17893f121b3761b738dee2ff57d98fb7d8987a87a1"), looks := false }, kinds := [], alts := [], laidByText := true, laidKinds := [.data, .pinned], laidTests := true, laidLooks := .later }
def ItemsSplitsUptoCardSaid : Prop := Claim7.holds Tryd.pinned (.plain (OpenSpec.upto itemsSplitsSpec)) itemsSplitsUptoCard

/-- THE SECOND FORM's CARD OF 'depotlaw06.ItemsQuotes'. -/
def itemsQuotesUptoCard : Claim7 := { stood := { row := itemsQuotesUptoRow, standIns := [], harness := (true, "9f5768ec5cacdbe4db8d2d17893f121b3761b738dee2ff57d98fb7d8987a87a1"), looks := false }, kinds := [], alts := [], laidByText := true, laidKinds := [.data, .pinned], laidTests := true, laidLooks := .later }
def ItemsQuotesUptoCardSaid : Prop := Claim7.holds Tryd.pinned (.plain (OpenSpec.upto itemsQuotesSpec)) itemsQuotesUptoCard

/-- THE SECOND FORM's CARD OF 'depotlaw06.ItemsBack'. -/
def itemsBackUptoCard : Claim7 := { stood := { row := itemsBackUptoRow, standIns := [], harness := (true, "9f5768ec5cacdbe4db8d2d17893f121b3761b738dee2ff57d98fb7d8987a87a1"), looks := false }, kinds := [], alts := [], laidByText := true, laidKinds := [.data, .pinned], laidTests := true, laidLooks := .later }
def ItemsBackUptoCardSaid : Prop := Claim7.holds Tryd.pinned (.plain (OpenSpec.upto itemsBackSpec)) itemsBackUptoCard

/-- THE SECOND FORM's CARD OF 'depotlaw06.ItemsJoined'. -/
def itemsJoinedUptoCard : Claim7 := { stood := { row := itemsJoinedUptoRow, standIns := [], harness := (true, "9f5768ec5cacdbe4db8d2d17893f121b3761b738dee2ff57d98fb7d8987a87a1"), looks := false }, kinds := [], alts := [], laidByText := true, laidKinds := [.data, .pinned], laidTests := true, laidLooks := .later }
def ItemsJoinedUptoCardSaid : Prop := Claim7.holds Tryd.pinned (.plain (OpenSpec.upto itemsJoinedSpec)) itemsJoinedUptoCard

/-- THE SECOND FORM's CARD OF 'depotlaw09.FieldsParses'. -/
def fieldsParsesUptoCard : Claim7 := { stood := { row := fieldsParsesUptoRow, standIns := [], harness := (true, "9f5768ec5cacdbe4db8d2d17893f121b3761b738dee2ff57d98fb7d8987a87a1"), looks := false }, kinds := [], alts := [], laidByText := true, laidKinds := [.data, .pinned], laidTests := true, laidLooks := .later }
def FieldsParsesUptoCardSaid : Prop := Claim7.holds Tryd.pinned (.plain (OpenSpec.upto fieldsParsesSpec)) fieldsParsesUptoCard

/-- THE SECOND FORM's CARD OF 'depotlaw09.FieldsAsks'. -/
def fieldsAsksUptoCard : Claim7 := { stood := { row := fieldsAsksUptoRow, standIns := [], harness := (true, "9f5768ec5cacdbe4db8d2d17893f121b3761b738dee2ff57d98fb7d8987a87a1"), looks := false }, kinds := [], alts := [], laidByText := true, laidKinds := [.data, .pinned], laidTests := true, laidLooks := .later }
def FieldsAsksUptoCardSaid : Prop := Claim7.holds Tryd.pinned (.plain (OpenSpec.upto fieldsAsksSpec)) fieldsAsksUptoCard

/-- THE SECOND FORM's CARD OF 'depotlaw09.FieldsTurns'. -/
def fieldsTurnsUptoCard : Claim7 := { stood := { row := fieldsTurnsUptoRow, standIns := [], harness := (true, "9f5768ec5cacdbe4db8d2d17893f121b3761b738dee2ff57d98fb7d8987a87a1"), looks := false }, kinds := [], alts := [], laidByText := true, laidKinds := [.data, .pinned], laidTests := true, laidLooks := .later }
def FieldsTurnsUptoCardSaid : Prop := Claim7.holds Tryd.pinned (.plain (OpenSpec.upto fieldsTurnsSpec)) fieldsTurnsUptoCard

/-- THE SECOND FORM's CARD OF 'depotlaw09.FieldsBack'. -/
def fieldsBackUptoCard : Claim7 := { stood := { row := fieldsBackUptoRow, standIns := [], harness := (true, "9f5768ec5cacdbe4db8d2d17893f121b3761b738dee2ff57d98fb7d8987a87a1"), looks := false }, kinds := [], alts := [], laidByText := true, laidKinds := [.data, .pinned], laidTests := true, laidLooks := .later }
def FieldsBackUptoCardSaid : Prop := Claim7.holds Tryd.pinned (.plain (OpenSpec.upto fieldsBackSpec)) fieldsBackUptoCard

/-- THE SECOND FORM's CARD OF 'depotlaw09.FieldsSets'. -/
def fieldsSetsUptoCard : Claim7 := { stood := { row := fieldsSetsUptoRow, standIns := [], harness := (true, "9f5768ec5cacdbe4db8d2d17893f121b3761b738dee2ff57d98fb7d8987a87a1"), looks := false }, kinds := [], alts := [], laidByText := true, laidKinds := [.data, .pinned], laidTests := true, laidLooks := .later }
def FieldsSetsUptoCardSaid : Prop := Claim7.holds Tryd.pinned (.plain (OpenSpec.upto fieldsSetsSpec)) fieldsSetsUptoCard
end Rows
end Go.Proofs.YtomeobbellhooaaDoor
