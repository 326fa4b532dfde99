/-
  DERIVED. GIVEN WITH THE SEED: THE CARDS: each row of YtmhpipnapobbiaaGreatDoorRRRRRows.lean that lists a variable, with what it lists TIED to the program's text (the seventh form; the later family's looks); each row that meets fmt, with fmt's text TOLD by the authors' own Lean function (tested against real Go, not proved from fmt's source: count such statements apart). THE CARD IS WHAT COUNTS. Prove the row's statement (the work); the ties are given (YtmhpipnapobbiaaGreatDoorRRRRTie.lean); close each card by the builder's one call (the guide's Derived/Test/ToyasCard.lean, 'card_holds'). Laid BY PROGRAM, IN A SANDBOX (cutbox-door.mjs). By AI agents, Wed Nov 11 2026. No macro, syntax, notation, axiom, sorry.
-/
import Derived.Test.YtmhpipnapobbiaaGreatDoorRRRRRows
import GoSem.ClaimSeven
namespace Go.Proofs.YtmhpipnapobbiaaGreatDoorRRRR
namespace Rows

/-- THE TIED CARD OF 'bellwetherlaw17.SplitRefuses'. -/
def splitRefusesCard : Claim7 := { stood := { row := splitRefusesRow, standIns := [], harness := (true, "ee318fdac828d104d7510797f20e20f76202274b82d4deff6b65a1325fc7e829"), looks := false }, kinds := [], alts := [], laidByText := true, laidKinds := [.mapped], laidTests := true, laidLooks := .later }
def SplitRefusesCardSaid : Prop := Claim7.holds Tryz.pinned (.plain (OpenSpec.ofChange splitRefusesSpec)) splitRefusesCard

/-- THE TIED CARD OF 'bellwetherlaw17.SplitAborts'. -/
def splitAbortsCard : Claim7 := { stood := { row := splitAbortsRow, standIns := [], harness := (true, "ee318fdac828d104d7510797f20e20f76202274b82d4deff6b65a1325fc7e829"), looks := false }, kinds := [], alts := [], laidByText := true, laidKinds := [.mapped], laidTests := true, laidLooks := .later }
def SplitAbortsCardSaid : Prop := Claim7.holds Tryz.pinned (.plain (OpenSpec.ofChange splitAbortsSpec)) splitAbortsCard

/-- THE TIED CARD OF 'bellwetherlaw17.SplitNil'. -/
def splitNilCard : Claim7 := { stood := { row := splitNilRow, standIns := [], harness := (true, "ee318fdac828d104d7510797f20e20f76202274b82d4deff6b65a1325fc7e829"), looks := false }, kinds := [], alts := [], laidByText := true, laidKinds := [.mapped], laidTests := true, laidLooks := .later }
def SplitNilCardSaid : Prop := Claim7.holds Tryz.pinned (.plain (OpenSpec.ofChange splitNilSpec)) splitNilCard

/-- THE SECOND FORM's CARD OF 'bellwetherlaw17.SplitRefuses'. -/
def splitRefusesUptoCard : Claim7 := { stood := { row := splitRefusesUptoRow, standIns := [], harness := (true, "ee318fdac828d104d7510797f20e20f76202274b82d4deff6b65a1325fc7e829"), looks := false }, kinds := [], alts := [], laidByText := true, laidKinds := [.mapped], laidTests := true, laidLooks := .later }
def SplitRefusesUptoCardSaid : Prop := Claim7.holds Tryz.pinned (.plain (OpenSpec.upto splitRefusesSpec)) splitRefusesUptoCard

/-- THE SECOND FORM's CARD OF 'bellwetherlaw17.SplitAborts'. -/
def splitAbortsUptoCard : Claim7 := { stood := { row := splitAbortsUptoRow, standIns := [], harness := (true, "ee318fdac828d104d7510797f20e20f76202274b82d4deff6b65a1325fc7e829"), looks := false }, kinds := [], alts := [], laidByText := true, laidKinds := [.mapped], laidTests := true, laidLooks := .later }
def SplitAbortsUptoCardSaid : Prop := Claim7.holds Tryz.pinned (.plain (OpenSpec.upto splitAbortsSpec)) splitAbortsUptoCard

/-- THE SECOND FORM's CARD OF 'bellwetherlaw17.SplitNil'. -/
def splitNilUptoCard : Claim7 := { stood := { row := splitNilUptoRow, standIns := [], harness := (true, "ee318fdac828d104d7510797f20e20f76202274b82d4deff6b65a1325fc7e829"), looks := false }, kinds := [], alts := [], laidByText := true, laidKinds := [.mapped], laidTests := true, laidLooks := .later }
def SplitNilUptoCardSaid : Prop := Claim7.holds Tryz.pinned (.plain (OpenSpec.upto splitNilSpec)) splitNilUptoCard
end Rows
end Go.Proofs.YtmhpipnapobbiaaGreatDoorRRRR
