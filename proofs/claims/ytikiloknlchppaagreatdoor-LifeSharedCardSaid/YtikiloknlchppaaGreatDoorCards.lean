/-
  DERIVED. GIVEN WITH THE SEED: THE CARDS: each row of YtikiloknlchppaaGreatDoorRows.lean that lists a variable, with what it lists TIED to the program's text (the seventh form; the later family's looks); each row that meets fmt, with fmt's text TOLD by the authors' own Lean function (tested against real Go, not proved from fmt's source: count such statements apart). THE CARD IS WHAT COUNTS. Prove the row's statement (the work); the ties are given (YtikiloknlchppaaGreatDoorTie.lean); close each card by the builder's one call (the guide's Derived/Test/ToyasCard.lean, 'card_holds'). Laid BY PROGRAM, IN A SANDBOX (cutbox-door.mjs). By AI agents, Wed Nov 11 2026. No macro, syntax, notation, axiom, sorry.
-/
import Derived.Test.YtikiloknlchppaaGreatDoorRows
import GoSem.ClaimSeven
namespace Go.Proofs.YtikiloknlchppaaGreatDoor
namespace Rows

/-- THE TIED CARD OF 'depotlaw13.ControlParses'. -/
def controlParsesCard : Claim7 := { stood := { row := controlParsesRow, standIns := [], harness := (true, "aad0db56bbf9a98f9c59e69afd3640e83d3adab032cf4a040cd5ae1f416dce3b"), looks := false }, kinds := [], alts := [], laidByText := true, laidKinds := [.data, .data, .data, .data, .pinned], laidTests := true, laidLooks := .later }
def ControlParsesCardSaid : Prop := Claim7.holds Tryz.pinned (.plain (OpenSpec.ofChange controlParsesSpec)) controlParsesCard

/-- THE TIED CARD OF 'depotlaw13.ControlPrints'. -/
def controlPrintsCard : Claim7 := { stood := { row := controlPrintsRow, standIns := [], harness := (true, "aad0db56bbf9a98f9c59e69afd3640e83d3adab032cf4a040cd5ae1f416dce3b"), looks := false }, kinds := [], alts := [], laidByText := true, laidKinds := [.data, .data, .data, .data, .pinned], laidTests := true, laidLooks := .later }
def ControlPrintsCardSaid : Prop := Claim7.holds Tryz.pinned (.plain (OpenSpec.ofChange controlPrintsSpec)) controlPrintsCard

/-- THE TIED CARD OF 'depotlaw15.VaryNames'. -/
def varyNamesCard : Claim7 := { stood := { row := varyNamesRow, standIns := [], harness := (true, "aad0db56bbf9a98f9c59e69afd3640e83d3adab032cf4a040cd5ae1f416dce3b"), looks := false }, kinds := [], alts := [], laidByText := true, laidKinds := [.data, .pinned], laidTests := true, laidLooks := .later }
def VaryNamesCardSaid : Prop := Claim7.holds Tryz.pinned (.plain (OpenSpec.ofChange varyNamesSpec)) varyNamesCard

/-- THE TIED CARD OF 'depotlaw15.VaryPicks'. -/
def varyPicksCard : Claim7 := { stood := { row := varyPicksRow, standIns := [], harness := (true, "aad0db56bbf9a98f9c59e69afd3640e83d3adab032cf4a040cd5ae1f416dce3b"), looks := false }, kinds := [], alts := [], laidByText := true, laidKinds := [.data, .pinned], laidTests := true, laidLooks := .later }
def VaryPicksCardSaid : Prop := Claim7.holds Tryz.pinned (.plain (OpenSpec.ofChange varyPicksSpec)) varyPicksCard

/-- THE TIED CARD OF 'depotlaw17.LifeTells'. -/
def lifeTellsCard : Claim7 := { stood := { row := lifeTellsRow, standIns := [], harness := (true, "aad0db56bbf9a98f9c59e69afd3640e83d3adab032cf4a040cd5ae1f416dce3b"), looks := false }, kinds := [], alts := [], laidByText := true, laidKinds := [.data, .data, .data, .data, .data, .data, .pinned], laidTests := true, laidLooks := .later }
def LifeTellsCardSaid : Prop := Claim7.holds Tryz.pinned (.plain (OpenSpec.ofChange lifeTellsSpec)) lifeTellsCard

/-- THE TIED CARD OF 'depotlaw17.LifeFields'. -/
def lifeFieldsCard : Claim7 := { stood := { row := lifeFieldsRow, standIns := [], harness := (true, "aad0db56bbf9a98f9c59e69afd3640e83d3adab032cf4a040cd5ae1f416dce3b"), looks := false }, kinds := [], alts := [], laidByText := true, laidKinds := [.data, .data, .data, .data, .data, .data, .pinned], laidTests := true, laidLooks := .later }
def LifeFieldsCardSaid : Prop := Claim7.holds Tryz.pinned (.plain (OpenSpec.ofChange lifeFieldsSpec)) lifeFieldsCard

/-- THE TIED CARD OF 'depotlaw17.LifeLater'. -/
def lifeLaterCard : Claim7 := { stood := { row := lifeLaterRow, standIns := [], harness := (true, "aad0db56bbf9a98f9c59e69afd3640e83d3adab032cf4a040cd5ae1f416dce3b"), looks := false }, kinds := [], alts := [], laidByText := true, laidKinds := [.data, .data, .data, .data, .data, .data, .pinned], laidTests := true, laidLooks := .later }
def LifeLaterCardSaid : Prop := Claim7.holds Tryz.pinned (.plain (OpenSpec.ofChange lifeLaterSpec)) lifeLaterCard

/-- THE TIED CARD OF 'depotlaw17.LifeShared'. -/
def lifeSharedCard : Claim7 := { stood := { row := lifeSharedRow, standIns := [], harness := (true, "aad0db56bbf9a98f9c59e69afd3640e83d3adab032cf4a040cd5ae1f416dce3b"), looks := false }, kinds := [], alts := [], laidByText := true, laidKinds := [.data, .data, .data, .data, .data, .data, .pinned], laidTests := true, laidLooks := .later }
def LifeSharedCardSaid : Prop := Claim7.holds Tryz.pinned (.plain (OpenSpec.ofChange lifeSharedSpec)) lifeSharedCard

/-- THE SECOND FORM's CARD OF 'depotlaw13.ControlParses'. -/
def controlParsesUptoCard : Claim7 := { stood := { row := controlParsesUptoRow, standIns := [], harness := (true, "aad0db56bbf9a98f9c59e69afd3640e83d3adab032cf4a040cd5ae1f416dce3b"), looks := false }, kinds := [], alts := [], laidByText := true, laidKinds := [.data, .data, .data, .data, .pinned], laidTests := true, laidLooks := .later }
def ControlParsesUptoCardSaid : Prop := Claim7.holds Tryz.pinned (.plain (OpenSpec.upto controlParsesSpec)) controlParsesUptoCard

/-- THE SECOND FORM's CARD OF 'depotlaw13.ControlPrints'. -/
def controlPrintsUptoCard : Claim7 := { stood := { row := controlPrintsUptoRow, standIns := [], harness := (true, "aad0db56bbf9a98f9c59e69afd3640e83d3adab032cf4a040cd5ae1f416dce3b"), looks := false }, kinds := [], alts := [], laidByText := true, laidKinds := [.data, .data, .data, .data, .pinned], laidTests := true, laidLooks := .later }
def ControlPrintsUptoCardSaid : Prop := Claim7.holds Tryz.pinned (.plain (OpenSpec.upto controlPrintsSpec)) controlPrintsUptoCard

/-- THE SECOND FORM's CARD OF 'depotlaw15.VaryNames'. -/
def varyNamesUptoCard : Claim7 := { stood := { row := varyNamesUptoRow, standIns := [], harness := (true, "aad0db56bbf9a98f9c59e69afd3640e83d3adab032cf4a040cd5ae1f416dce3b"), looks := false }, kinds := [], alts := [], laidByText := true, laidKinds := [.data, .pinned], laidTests := true, laidLooks := .later }
def VaryNamesUptoCardSaid : Prop := Claim7.holds Tryz.pinned (.plain (OpenSpec.upto varyNamesSpec)) varyNamesUptoCard

/-- THE SECOND FORM's CARD OF 'depotlaw15.VaryPicks'. -/
def varyPicksUptoCard : Claim7 := { stood := { row := varyPicksUptoRow, standIns := [], harness := (true, "aad0db56bbf9a98f9c59e69afd3640e83d3adab032cf4a040cd5ae1f416dce3b"), looks := false }, kinds := [], alts := [], laidByText := true, laidKinds := [.data, .pinned], laidTests := true, laidLooks := .later }
def VaryPicksUptoCardSaid : Prop := Claim7.holds Tryz.pinned (.plain (OpenSpec.upto varyPicksSpec)) varyPicksUptoCard

/-- THE SECOND FORM's CARD OF 'depotlaw17.LifeTells'. -/
def lifeTellsUptoCard : Claim7 := { stood := { row := lifeTellsUptoRow, standIns := [], harness := (true, "aad0db56bbf9a98f9c59e69afd3640e83d3adab032cf4a040cd5ae1f416dce3b"), looks := false }, kinds := [], alts := [], laidByText := true, laidKinds := [.data, .data, .data, .data, .data, .data, .pinned], laidTests := true, laidLooks := .later }
def LifeTellsUptoCardSaid : Prop := Claim7.holds Tryz.pinned (.plain (OpenSpec.upto lifeTellsSpec)) lifeTellsUptoCard

/-- THE SECOND FORM's CARD OF 'depotlaw17.LifeFields'. -/
def lifeFieldsUptoCard : Claim7 := { stood := { row := lifeFieldsUptoRow, standIns := [], harness := (true, "aad0db56bbf9a98f9c59e69afd3640e83d3adab032cf4a040cd5ae1f416dce3b"), looks := false }, kinds := [], alts := [], laidByText := true, laidKinds := [.data, .data, .data, .data, .data, .data, .pinned], laidTests := true, laidLooks := .later }
def LifeFieldsUptoCardSaid : Prop := Claim7.holds Tryz.pinned (.plain (OpenSpec.upto lifeFieldsSpec)) lifeFieldsUptoCard

/-- THE SECOND FORM's CARD OF 'depotlaw17.LifeLater'. -/
def lifeLaterUptoCard : Claim7 := { stood := { row := lifeLaterUptoRow, standIns := [], harness := (true, "aad0db56bbf9a98f9c59e69afd3640e83d3adab032cf4a040cd5ae1f416dce3b"), looks := false }, kinds := [], alts := [], laidByText := true, laidKinds := [.data, .data, .data, .data, .data, .data, .pinned], laidTests := true, laidLooks := .later }
def LifeLaterUptoCardSaid : Prop := Claim7.holds Tryz.pinned (.plain (OpenSpec.upto lifeLaterSpec)) lifeLaterUptoCard

/-- THE SECOND FORM's CARD OF 'depotlaw17.LifeShared'. -/
def lifeSharedUptoCard : Claim7 := { stood := { row := lifeSharedUptoRow, standIns := [], harness := (true, "aad0db56bbf9a98f9c59e69afd3640e83d3adab032cf4a040cd5ae1f416dce3b"), looks := false }, kinds := [], alts := [], laidByText := true, laidKinds := [.data, .data, .data, .data, .data, .data, .pinned], laidTests := true, laidLooks := .later }
def LifeSharedUptoCardSaid : Prop := Claim7.holds Tryz.pinned (.plain (OpenSpec.upto lifeSharedSpec)) lifeSharedUptoCard
end Rows
end Go.Proofs.YtikiloknlchppaaGreatDoor
