/-
  DERIVED. GIVEN WITH THE SEED: THE CARDS: each row of YtikiloknlchppaaDoorRows.lean that lists a variable, with what it lists TIED to the program's text (the seventh form; the later family's looks); each row that meets fmt, with fmt's text TOLD by the authors' own Lean function (tested against real Go, not proved from fmt's source: count such statements apart). THE CARD IS WHAT COUNTS. Prove the row's statement (the work); the ties are given (YtikiloknlchppaaDoorTie.lean); close each card by the builder's one call (the guide's Derived/Test/ToyasCard.lean, 'card_holds'). Laid BY PROGRAM, IN A SANDBOX (cutbox-door.mjs). By AI agents, Wed Nov 11 2026. No macro, syntax, notation, axiom, sorry.
-/
import Derived.Test.YtikiloknlchppaaDoorRows
import GoSem.ClaimSeven
namespace Go.Proofs.YtikiloknlchppaaDoor
namespace Rows

/-- THE TIED CARD OF 'depotlaw13.ControlBack'. -/
def controlBackCard : Claim7 := { stood := { row := controlBackRow, standIns := [], harness := (true, "cba0fda7a90021068a8061107a55c29f5511cd2caf3121e82e068d5a7551d9ba"), looks := false }, kinds := [], alts := [], laidByText := true, laidKinds := [.data, .data, .data, .data, .pinned], laidTests := true, laidLooks := .later }
def ControlBackCardSaid : Prop := Claim7.holds Tryd.pinned (.plain (OpenSpec.ofChange controlBackSpec)) controlBackCard

/-- THE TIED CARD OF 'depotlaw13.ControlOrder'. -/
def controlOrderCard : Claim7 := { stood := { row := controlOrderRow, standIns := [], harness := (true, "cba0fda7a90021068a8061107a55c29f5511cd2caf3121e82e068d5a7551d9ba"), looks := false }, kinds := [], alts := [], laidByText := true, laidKinds := [.data, .data, .data, .data, .pinned], laidTests := true, laidLooks := .later }
def ControlOrderCardSaid : Prop := Claim7.holds Tryd.pinned (.plain (OpenSpec.ofChange controlOrderSpec)) controlOrderCard

/-- THE TIED CARD OF 'depotlaw15.VaryOwn'. -/
def varyOwnCard : Claim7 := { stood := { row := varyOwnRow, standIns := [], harness := (true, "cba0fda7a90021068a8061107a55c29f5511cd2caf3121e82e068d5a7551d9ba"), looks := false }, kinds := [], alts := [], laidByText := true, laidKinds := [.data, .pinned], laidTests := true, laidLooks := .later }
def VaryOwnCardSaid : Prop := Claim7.holds Tryd.pinned (.plain (OpenSpec.ofChange varyOwnSpec)) varyOwnCard

/-- THE TIED CARD OF 'depotlaw15.VaryOrder'. -/
def varyOrderCard : Claim7 := { stood := { row := varyOrderRow, standIns := [], harness := (true, "cba0fda7a90021068a8061107a55c29f5511cd2caf3121e82e068d5a7551d9ba"), looks := false }, kinds := [], alts := [], laidByText := true, laidKinds := [.data, .pinned], laidTests := true, laidLooks := .later }
def VaryOrderCardSaid : Prop := Claim7.holds Tryd.pinned (.plain (OpenSpec.ofChange varyOrderSpec)) varyOrderCard

/-- THE SECOND FORM's CARD OF 'depotlaw13.ControlBack'. -/
def controlBackUptoCard : Claim7 := { stood := { row := controlBackUptoRow, standIns := [], harness := (true, "cba0fda7a90021068a8061107a55c29f5511cd2caf3121e82e068d5a7551d9ba"), looks := false }, kinds := [], alts := [], laidByText := true, laidKinds := [.data, .data, .data, .data, .pinned], laidTests := true, laidLooks := .later }
def ControlBackUptoCardSaid : Prop := Claim7.holds Tryd.pinned (.plain (OpenSpec.upto controlBackSpec)) controlBackUptoCard

/-- THE SECOND FORM's CARD OF 'depotlaw13.ControlOrder'. -/
def controlOrderUptoCard : Claim7 := { stood := { row := controlOrderUptoRow, standIns := [], harness := (true, "cba0fda7a90021068a8061107a55c29f5511cd2caf3121e82e068d5a7551d9ba"), looks := false }, kinds := [], alts := [], laidByText := true, laidKinds := [.data, .data, .data, .data, .pinned], laidTests := true, laidLooks := .later }
def ControlOrderUptoCardSaid : Prop := Claim7.holds Tryd.pinned (.plain (OpenSpec.upto controlOrderSpec)) controlOrderUptoCard

/-- THE SECOND FORM's CARD OF 'depotlaw15.VaryOwn'. -/
def varyOwnUptoCard : Claim7 := { stood := { row := varyOwnUptoRow, standIns := [], harness := (true, "cba0fda7a90021068a8061107a55c29f5511cd2caf3121e82e068d5a7551d9ba"), looks := false }, kinds := [], alts := [], laidByText := true, laidKinds := [.data, .pinned], laidTests := true, laidLooks := .later }
def VaryOwnUptoCardSaid : Prop := Claim7.holds Tryd.pinned (.plain (OpenSpec.upto varyOwnSpec)) varyOwnUptoCard

/-- THE SECOND FORM's CARD OF 'depotlaw15.VaryOrder'. -/
def varyOrderUptoCard : Claim7 := { stood := { row := varyOrderUptoRow, standIns := [], harness := (true, "cba0fda7a90021068a8061107a55c29f5511cd2caf3121e82e068d5a7551d9ba"), looks := false }, kinds := [], alts := [], laidByText := true, laidKinds := [.data, .pinned], laidTests := true, laidLooks := .later }
def VaryOrderUptoCardSaid : Prop := Claim7.holds Tryd.pinned (.plain (OpenSpec.upto varyOrderSpec)) varyOrderUptoCard
end Rows
end Go.Proofs.YtikiloknlchppaaDoor
