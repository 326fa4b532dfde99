/-
  DERIVED. GIVEN WITH THE SEED: THE CARDS: each row of YtffifncopceefaaGreatDoorRows.lean that lists a variable, with what it lists TIED to the program's text (the seventh form; the later family's looks); each row that meets fmt, with fmt's text TOLD by the authors' own Lean function (tested against real Go, not proved from fmt's source: count such statements apart). THE CARD IS WHAT COUNTS. Prove the row's statement (the work); the ties are given (YtffifncopceefaaGreatDoorTie.lean); close each card by the builder's one call (the guide's Derived/Test/ToyasCard.lean, 'card_holds'). Laid BY PROGRAM, IN A SANDBOX (cutbox-door.mjs). By AI agents, Wed Nov 11 2026. No macro, syntax, notation, axiom, sorry.
-/
import Derived.Test.YtffifncopceefaaGreatDoorRows
import GoSem.ClaimSeven
namespace Go.Proofs.YtffifncopceefaaGreatDoor
namespace Rows

/-- THE TIED CARD OF 'bellwetherlaw10.MessagePuts'. -/
def messagePutsCard : Claim7 := { stood := { row := messagePutsRow, standIns := [], harness := (true, "87c33a7d3582da8a5da947ba8d09e4eeceb7658fff2c93924d2f067bac9606cc"), looks := true }, kinds := [], alts := [], laidByText := true, laidKinds := [.mapped, .mapped, .widerDeep], laidTests := true, laidLooks := .later }
def MessagePutsCardSaid : Prop := Claim7.holds Tryz.pinned (.plain (OpenSpec.ofChange messagePutsSpec)) messagePutsCard

/-- THE TIED CARD OF 'bellwetherlaw10.MessageGets'. -/
def messageGetsCard : Claim7 := { stood := { row := messageGetsRow, standIns := [], harness := (true, "87c33a7d3582da8a5da947ba8d09e4eeceb7658fff2c93924d2f067bac9606cc"), looks := true }, kinds := [], alts := [], laidByText := true, laidKinds := [.mapped, .mapped, .widerDeep], laidTests := true, laidLooks := .later }
def MessageGetsCardSaid : Prop := Claim7.holds Tryz.pinned (.plain (OpenSpec.ofChange messageGetsSpec)) messageGetsCard

/-- THE TIED CARD OF 'bellwetherlaw10.MessageBack'. -/
def messageBackCard : Claim7 := { stood := { row := messageBackRow, standIns := [], harness := (true, "87c33a7d3582da8a5da947ba8d09e4eeceb7658fff2c93924d2f067bac9606cc"), looks := true }, kinds := [], alts := [], laidByText := true, laidKinds := [.mapped, .mapped, .widerDeep], laidTests := true, laidLooks := .later }
def MessageBackCardSaid : Prop := Claim7.holds Tryz.pinned (.plain (OpenSpec.ofChange messageBackSpec)) messageBackCard

/-- THE TIED CARD OF 'bellwetherlaw10.MessageCuts'. -/
def messageCutsCard : Claim7 := { stood := { row := messageCutsRow, standIns := [], harness := (true, "87c33a7d3582da8a5da947ba8d09e4eeceb7658fff2c93924d2f067bac9606cc"), looks := true }, kinds := [], alts := [], laidByText := true, laidKinds := [.mapped, .mapped, .widerDeep], laidTests := true, laidLooks := .later }
def MessageCutsCardSaid : Prop := Claim7.holds Tryz.pinned (.plain (OpenSpec.ofChange messageCutsSpec)) messageCutsCard

/-- THE TIED CARD OF 'bellwetherlaw10.MessageOrder'. -/
def messageOrderCard : Claim7 := { stood := { row := messageOrderRow, standIns := [], harness := (true, "87c33a7d3582da8a5da947ba8d09e4eeceb7658fff2c93924d2f067bac9606cc"), looks := true }, kinds := [], alts := [], laidByText := true, laidKinds := [.mapped, .mapped, .widerDeep], laidTests := true, laidLooks := .later }
def MessageOrderCardSaid : Prop := Claim7.holds Tryz.pinned (.plain (OpenSpec.ofChange messageOrderSpec)) messageOrderCard

/-- THE TIED CARD OF 'bellwetherlaw10.MessageHeads'. -/
def messageHeadsCard : Claim7 := { stood := { row := messageHeadsRow, standIns := [], harness := (true, "87c33a7d3582da8a5da947ba8d09e4eeceb7658fff2c93924d2f067bac9606cc"), looks := true }, kinds := [], alts := [], laidByText := true, laidKinds := [.mapped, .mapped, .widerDeep], laidTests := true, laidLooks := .later }
def MessageHeadsCardSaid : Prop := Claim7.holds Tryz.pinned (.plain (OpenSpec.ofChange messageHeadsSpec)) messageHeadsCard

/-- THE TIED CARD OF 'bellwetherlaw10.MessageWhole'. -/
def messageWholeCard : Claim7 := { stood := { row := messageWholeRow, standIns := [], harness := (true, "87c33a7d3582da8a5da947ba8d09e4eeceb7658fff2c93924d2f067bac9606cc"), looks := true }, kinds := [], alts := [], laidByText := true, laidKinds := [.mapped, .mapped, .widerDeep], laidTests := true, laidLooks := .later }
def MessageWholeCardSaid : Prop := Claim7.holds Tryz.pinned (.plain (OpenSpec.ofChange messageWholeSpec)) messageWholeCard

/-- THE SECOND FORM's CARD OF 'bellwetherlaw10.MessagePuts'. -/
def messagePutsUptoCard : Claim7 := { stood := { row := messagePutsUptoRow, standIns := [], harness := (true, "87c33a7d3582da8a5da947ba8d09e4eeceb7658fff2c93924d2f067bac9606cc"), looks := true }, kinds := [], alts := [], laidByText := true, laidKinds := [.mapped, .mapped, .widerDeep], laidTests := true, laidLooks := .later }
def MessagePutsUptoCardSaid : Prop := Claim7.holds Tryz.pinned (.plain (OpenSpec.upto messagePutsSpec)) messagePutsUptoCard

/-- THE SECOND FORM's CARD OF 'bellwetherlaw10.MessageGets'. -/
def messageGetsUptoCard : Claim7 := { stood := { row := messageGetsUptoRow, standIns := [], harness := (true, "87c33a7d3582da8a5da947ba8d09e4eeceb7658fff2c93924d2f067bac9606cc"), looks := true }, kinds := [], alts := [], laidByText := true, laidKinds := [.mapped, .mapped, .widerDeep], laidTests := true, laidLooks := .later }
def MessageGetsUptoCardSaid : Prop := Claim7.holds Tryz.pinned (.plain (OpenSpec.upto messageGetsSpec)) messageGetsUptoCard

/-- THE SECOND FORM's CARD OF 'bellwetherlaw10.MessageBack'. -/
def messageBackUptoCard : Claim7 := { stood := { row := messageBackUptoRow, standIns := [], harness := (true, "87c33a7d3582da8a5da947ba8d09e4eeceb7658fff2c93924d2f067bac9606cc"), looks := true }, kinds := [], alts := [], laidByText := true, laidKinds := [.mapped, .mapped, .widerDeep], laidTests := true, laidLooks := .later }
def MessageBackUptoCardSaid : Prop := Claim7.holds Tryz.pinned (.plain (OpenSpec.upto messageBackSpec)) messageBackUptoCard

/-- THE SECOND FORM's CARD OF 'bellwetherlaw10.MessageCuts'. -/
def messageCutsUptoCard : Claim7 := { stood := { row := messageCutsUptoRow, standIns := [], harness := (true, "87c33a7d3582da8a5da947ba8d09e4eeceb7658fff2c93924d2f067bac9606cc"), looks := true }, kinds := [], alts := [], laidByText := true, laidKinds := [.mapped, .mapped, .widerDeep], laidTests := true, laidLooks := .later }
def MessageCutsUptoCardSaid : Prop := Claim7.holds Tryz.pinned (.plain (OpenSpec.upto messageCutsSpec)) messageCutsUptoCard

/-- THE SECOND FORM's CARD OF 'bellwetherlaw10.MessageOrder'. -/
def messageOrderUptoCard : Claim7 := { stood := { row := messageOrderUptoRow, standIns := [], harness := (true, "87c33a7d3582da8a5da947ba8d09e4eeceb7658fff2c93924d2f067bac9606cc"), looks := true }, kinds := [], alts := [], laidByText := true, laidKinds := [.mapped, .mapped, .widerDeep], laidTests := true, laidLooks := .later }
def MessageOrderUptoCardSaid : Prop := Claim7.holds Tryz.pinned (.plain (OpenSpec.upto messageOrderSpec)) messageOrderUptoCard

/-- THE SECOND FORM's CARD OF 'bellwetherlaw10.MessageHeads'. -/
def messageHeadsUptoCard : Claim7 := { stood := { row := messageHeadsUptoRow, standIns := [], harness := (true, "87c33a7d3582da8a5da947ba8d09e4eeceb7658fff2c93924d2f067bac9606cc"), looks := true }, kinds := [], alts := [], laidByText := true, laidKinds := [.mapped, .mapped, .widerDeep], laidTests := true, laidLooks := .later }
def MessageHeadsUptoCardSaid : Prop := Claim7.holds Tryz.pinned (.plain (OpenSpec.upto messageHeadsSpec)) messageHeadsUptoCard

/-- THE SECOND FORM's CARD OF 'bellwetherlaw10.MessageWhole'. -/
def messageWholeUptoCard : Claim7 := { stood := { row := messageWholeUptoRow, standIns := [], harness := (true, "87c33a7d3582da8a5da947ba8d09e4eeceb7658fff2c93924d2f067bac9606cc"), looks := true }, kinds := [], alts := [], laidByText := true, laidKinds := [.mapped, .mapped, .widerDeep], laidTests := true, laidLooks := .later }
def MessageWholeUptoCardSaid : Prop := Claim7.holds Tryz.pinned (.plain (OpenSpec.upto messageWholeSpec)) messageWholeUptoCard
end Rows
end Go.Proofs.YtffifncopceefaaGreatDoor
