/-
  DERIVED. GIVEN WITH THE SEED: THE CARDS: each row of YtilmijbpmkandaaGreatDoorRows.lean that lists a variable, with what it lists TIED to the program's text (the seventh form; the later family's looks); each row that meets fmt, with fmt's text TOLD by the authors' own Lean function (tested against real Go, not proved from fmt's source: count such statements apart). THE CARD IS WHAT COUNTS. Prove the row's statement (the work); the ties are given (YtilmijbpmkandaaGreatDoorTie.lean); close each card by the builder's one call (the guide's Derived/Test/ToyasCard.lean, 'card_holds'). Laid BY PROGRAM, IN A SANDBOX (cutbox-door.mjs). By AI agents, Wed Nov 11 2026. No macro, syntax, notation, axiom, sorry.
-/
import Derived.Test.YtilmijbpmkandaaGreatDoorRows
import GoSem.ClaimSeven
namespace Go.Proofs.YtilmijbpmkandaaGreatDoor
namespace Rows

/-- THE TIED CARD OF 'depotlaw33.ProxyShelf'. -/
def proxyShelfCard : Claim7 := { stood := { row := proxyShelfRow, standIns := [], harness := (true, "480f77e4a8545ac847bf8471159dca97b3805034a549eba70d5646f6e367894b"), looks := false }, kinds := [], alts := [], laidByText := true, laidKinds := [.data, .data, .data, .data, .data, .data, .data, .data, .pinned], laidTests := true, laidLooks := .later }
def ProxyShelfCardSaid : Prop := Claim7.holds Tryz.pinned (.plain (OpenSpec.ofChange proxyShelfSpec)) proxyShelfCard

/-- THE SECOND FORM's CARD OF 'depotlaw33.ProxyShelf'. -/
def proxyShelfUptoCard : Claim7 := { stood := { row := proxyShelfUptoRow, standIns := [], harness := (true, "480f77e4a8545ac847bf8471159dca97b3805034a549eba70d5646f6e367894b"), looks := false }, kinds := [], alts := [], laidByText := true, laidKinds := [.data, .data, .data, .data, .data, .data, .data, .data, .pinned], laidTests := true, laidLooks := .later }
def ProxyShelfUptoCardSaid : Prop := Claim7.holds Tryz.pinned (.plain (OpenSpec.upto proxyShelfSpec)) proxyShelfUptoCard
end Rows
end Go.Proofs.YtilmijbpmkandaaGreatDoor
