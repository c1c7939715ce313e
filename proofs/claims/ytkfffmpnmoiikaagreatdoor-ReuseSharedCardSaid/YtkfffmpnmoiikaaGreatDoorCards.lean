/-
  DERIVED. GIVEN WITH THE SEED: THE CARDS: each row of YtkfffmpnmoiikaaGreatDoorRows.lean that lists a variable, with what it lists TIED to the program's text (the seventh form; the later family's looks); each row that meets fmt, with fmt's text TOLD by the authors' own Lean function (tested against real Go, not proved from fmt's source: count such statements apart). THE CARD IS WHAT COUNTS. Prove the row's statement (the work); the ties are given (YtkfffmpnmoiikaaGreatDoorTie.lean); close each card by the builder's one call (the guide's Derived/Test/ToyasCard.lean, 'card_holds'). Laid BY PROGRAM, IN A SANDBOX (cutbox-door.mjs). By AI agents, Wed Nov 11 2026. No macro, syntax, notation, axiom, sorry.
-/
import Derived.Test.YtkfffmpnmoiikaaGreatDoorRows
import GoSem.ClaimSeven
namespace Go.Proofs.YtkfffmpnmoiikaaGreatDoor
namespace Rows

/-- THE TIED CARD OF 'depotlaw19.CondsTells'. -/
def condsTellsCard : Claim7 := { stood := { row := condsTellsRow, standIns := [], harness := (true, "e28e903c606879e4553150f8ab5358369453ff7b79f2ff9c72f2c46ffb50736d"), looks := false }, kinds := [], alts := [], laidByText := true, laidKinds := [.data, .data, .data, .data, .data, .data, .data, .data, .pinned], laidTests := true, laidLooks := .later }
def CondsTellsCardSaid : Prop := Claim7.holds Tryz.pinned (.plain (OpenSpec.ofChange condsTellsSpec)) condsTellsCard

/-- THE TIED CARD OF 'depotlaw19.CondsMerges'. -/
def condsMergesCard : Claim7 := { stood := { row := condsMergesRow, standIns := [], harness := (true, "e28e903c606879e4553150f8ab5358369453ff7b79f2ff9c72f2c46ffb50736d"), looks := false }, kinds := [], alts := [], laidByText := true, laidKinds := [.data, .data, .data, .data, .data, .data, .data, .data, .pinned], laidTests := true, laidLooks := .later }
def CondsMergesCardSaid : Prop := Claim7.holds Tryz.pinned (.plain (OpenSpec.ofChange condsMergesSpec)) condsMergesCard

/-- THE TIED CARD OF 'depotlaw19.CondsAgain'. -/
def condsAgainCard : Claim7 := { stood := { row := condsAgainRow, standIns := [], harness := (true, "e28e903c606879e4553150f8ab5358369453ff7b79f2ff9c72f2c46ffb50736d"), looks := false }, kinds := [], alts := [], laidByText := true, laidKinds := [.data, .data, .data, .data, .data, .data, .data, .data, .pinned], laidTests := true, laidLooks := .later }
def CondsAgainCardSaid : Prop := Claim7.holds Tryz.pinned (.plain (OpenSpec.ofChange condsAgainSpec)) condsAgainCard

/-- THE TIED CARD OF 'depotlaw19.CondsTold'. -/
def condsToldCard : Claim7 := { stood := { row := condsToldRow, standIns := [], harness := (true, "e28e903c606879e4553150f8ab5358369453ff7b79f2ff9c72f2c46ffb50736d"), looks := false }, kinds := [], alts := [], laidByText := true, laidKinds := [.data, .data, .data, .data, .data, .data, .data, .data, .pinned], laidTests := true, laidLooks := .later }
def CondsToldCardSaid : Prop := Claim7.holds Tryz.pinned (.plain (OpenSpec.ofChange condsToldSpec)) condsToldCard

/-- THE TIED CARD OF 'depotlaw18.ReuseTells'. -/
def reuseTellsCard : Claim7 := { stood := { row := reuseTellsRow, standIns := [], harness := (true, "e28e903c606879e4553150f8ab5358369453ff7b79f2ff9c72f2c46ffb50736d"), looks := false }, kinds := [], alts := [], laidByText := true, laidKinds := [.data, .data, .data, .data, .data, .data, .pinned], laidTests := true, laidLooks := .later }
def ReuseTellsCardSaid : Prop := Claim7.holds Tryz.pinned (.plain (OpenSpec.ofChange reuseTellsSpec)) reuseTellsCard

/-- THE TIED CARD OF 'depotlaw18.ReuseVerdict'. -/
def reuseVerdictCard : Claim7 := { stood := { row := reuseVerdictRow, standIns := [], harness := (true, "e28e903c606879e4553150f8ab5358369453ff7b79f2ff9c72f2c46ffb50736d"), looks := false }, kinds := [], alts := [], laidByText := true, laidKinds := [.data, .data, .data, .data, .data, .data, .pinned], laidTests := true, laidLooks := .later }
def ReuseVerdictCardSaid : Prop := Claim7.holds Tryz.pinned (.plain (OpenSpec.ofChange reuseVerdictSpec)) reuseVerdictCard

/-- THE TIED CARD OF 'depotlaw18.ReuseFresh'. -/
def reuseFreshCard : Claim7 := { stood := { row := reuseFreshRow, standIns := [], harness := (true, "e28e903c606879e4553150f8ab5358369453ff7b79f2ff9c72f2c46ffb50736d"), looks := false }, kinds := [], alts := [], laidByText := true, laidKinds := [.data, .data, .data, .data, .data, .data, .pinned], laidTests := true, laidLooks := .later }
def ReuseFreshCardSaid : Prop := Claim7.holds Tryz.pinned (.plain (OpenSpec.ofChange reuseFreshSpec)) reuseFreshCard

/-- THE TIED CARD OF 'depotlaw18.ReuseShared'. -/
def reuseSharedCard : Claim7 := { stood := { row := reuseSharedRow, standIns := [], harness := (true, "e28e903c606879e4553150f8ab5358369453ff7b79f2ff9c72f2c46ffb50736d"), looks := false }, kinds := [], alts := [], laidByText := true, laidKinds := [.data, .data, .data, .data, .data, .data, .pinned], laidTests := true, laidLooks := .later }
def ReuseSharedCardSaid : Prop := Claim7.holds Tryz.pinned (.plain (OpenSpec.ofChange reuseSharedSpec)) reuseSharedCard

/-- THE SECOND FORM's CARD OF 'depotlaw19.CondsTells'. -/
def condsTellsUptoCard : Claim7 := { stood := { row := condsTellsUptoRow, standIns := [], harness := (true, "e28e903c606879e4553150f8ab5358369453ff7b79f2ff9c72f2c46ffb50736d"), looks := false }, kinds := [], alts := [], laidByText := true, laidKinds := [.data, .data, .data, .data, .data, .data, .data, .data, .pinned], laidTests := true, laidLooks := .later }
def CondsTellsUptoCardSaid : Prop := Claim7.holds Tryz.pinned (.plain (OpenSpec.upto condsTellsSpec)) condsTellsUptoCard

/-- THE SECOND FORM's CARD OF 'depotlaw19.CondsMerges'. -/
def condsMergesUptoCard : Claim7 := { stood := { row := condsMergesUptoRow, standIns := [], harness := (true, "e28e903c606879e4553150f8ab5358369453ff7b79f2ff9c72f2c46ffb50736d"), looks := false }, kinds := [], alts := [], laidByText := true, laidKinds := [.data, .data, .data, .data, .data, .data, .data, .data, .pinned], laidTests := true, laidLooks := .later }
def CondsMergesUptoCardSaid : Prop := Claim7.holds Tryz.pinned (.plain (OpenSpec.upto condsMergesSpec)) condsMergesUptoCard

/-- THE SECOND FORM's CARD OF 'depotlaw19.CondsAgain'. -/
def condsAgainUptoCard : Claim7 := { stood := { row := condsAgainUptoRow, standIns := [], harness := (true, "e28e903c606879e4553150f8ab5358369453ff7b79f2ff9c72f2c46ffb50736d"), looks := false }, kinds := [], alts := [], laidByText := true, laidKinds := [.data, .data, .data, .data, .data, .data, .data, .data, .pinned], laidTests := true, laidLooks := .later }
def CondsAgainUptoCardSaid : Prop := Claim7.holds Tryz.pinned (.plain (OpenSpec.upto condsAgainSpec)) condsAgainUptoCard

/-- THE SECOND FORM's CARD OF 'depotlaw19.CondsTold'. -/
def condsToldUptoCard : Claim7 := { stood := { row := condsToldUptoRow, standIns := [], harness := (true, "e28e903c606879e4553150f8ab5358369453ff7b79f2ff9c72f2c46ffb50736d"), looks := false }, kinds := [], alts := [], laidByText := true, laidKinds := [.data, .data, .data, .data, .data, .data, .data, .data, .pinned], laidTests := true, laidLooks := .later }
def CondsToldUptoCardSaid : Prop := Claim7.holds Tryz.pinned (.plain (OpenSpec.upto condsToldSpec)) condsToldUptoCard

/-- THE SECOND FORM's CARD OF 'depotlaw18.ReuseTells'. -/
def reuseTellsUptoCard : Claim7 := { stood := { row := reuseTellsUptoRow, standIns := [], harness := (true, "e28e903c606879e4553150f8ab5358369453ff7b79f2ff9c72f2c46ffb50736d"), looks := false }, kinds := [], alts := [], laidByText := true, laidKinds := [.data, .data, .data, .data, .data, .data, .pinned], laidTests := true, laidLooks := .later }
def ReuseTellsUptoCardSaid : Prop := Claim7.holds Tryz.pinned (.plain (OpenSpec.upto reuseTellsSpec)) reuseTellsUptoCard

/-- THE SECOND FORM's CARD OF 'depotlaw18.ReuseVerdict'. -/
def reuseVerdictUptoCard : Claim7 := { stood := { row := reuseVerdictUptoRow, standIns := [], harness := (true, "e28e903c606879e4553150f8ab5358369453ff7b79f2ff9c72f2c46ffb50736d"), looks := false }, kinds := [], alts := [], laidByText := true, laidKinds := [.data, .data, .data, .data, .data, .data, .pinned], laidTests := true, laidLooks := .later }
def ReuseVerdictUptoCardSaid : Prop := Claim7.holds Tryz.pinned (.plain (OpenSpec.upto reuseVerdictSpec)) reuseVerdictUptoCard

/-- THE SECOND FORM's CARD OF 'depotlaw18.ReuseFresh'. -/
def reuseFreshUptoCard : Claim7 := { stood := { row := reuseFreshUptoRow, standIns := [], harness := (true, "e28e903c606879e4553150f8ab5358369453ff7b79f2ff9c72f2c46ffb50736d"), looks := false }, kinds := [], alts := [], laidByText := true, laidKinds := [.data, .data, .data, .data, .data, .data, .pinned], laidTests := true, laidLooks := .later }
def ReuseFreshUptoCardSaid : Prop := Claim7.holds Tryz.pinned (.plain (OpenSpec.upto reuseFreshSpec)) reuseFreshUptoCard

/-- THE SECOND FORM's CARD OF 'depotlaw18.ReuseShared'. -/
def reuseSharedUptoCard : Claim7 := { stood := { row := reuseSharedUptoRow, standIns := [], harness := (true, "e28e903c606879e4553150f8ab5358369453ff7b79f2ff9c72f2c46ffb50736d"), looks := false }, kinds := [], alts := [], laidByText := true, laidKinds := [.data, .data, .data, .data, .data, .data, .pinned], laidTests := true, laidLooks := .later }
def ReuseSharedUptoCardSaid : Prop := Claim7.holds Tryz.pinned (.plain (OpenSpec.upto reuseSharedSpec)) reuseSharedUptoCard
end Rows
end Go.Proofs.YtkfffmpnmoiikaaGreatDoor
