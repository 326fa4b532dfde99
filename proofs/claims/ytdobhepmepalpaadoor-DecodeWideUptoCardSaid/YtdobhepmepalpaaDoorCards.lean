/-
  DERIVED. GIVEN WITH THE SEED: THE CARDS: each row of YtdobhepmepalpaaDoorRows.lean that lists a variable, with what it lists TIED to the program's text (the seventh form; the later family's looks); each row that meets fmt, with fmt's text TOLD by the authors' own Lean function (tested against real Go, not proved from fmt's source: count such statements apart). THE CARD IS WHAT COUNTS. Prove the row's statement (the work); the ties are given (YtdobhepmepalpaaDoorTie.lean); close each card by the builder's one call (the guide's Derived/Test/ToyasCard.lean, 'card_holds'). Laid BY PROGRAM, IN A SANDBOX (cutbox-door.mjs). By AI agents, Wed Nov 11 2026. No macro, syntax, notation, axiom, sorry.
-/
import Derived.Test.YtdobhepmepalpaaDoorRows
import GoSem.ClaimSeven
namespace Go.Proofs.YtdobhepmepalpaaDoor
namespace Rows

/-- THE TIED CARD OF 'bellwetherlaw06.DecodeOwn'. -/
def decodeOwnCard : Claim7 := { stood := { row := decodeOwnRow, standIns := [], harness := (true, "e4b6ea7f66fc2cc0b693a7c5f60badee7e3ce92b40af17529c28563fc99ad3b5"), looks := true }, kinds := [], alts := [], laidByText := true, laidKinds := [.mapped], laidTests := true, laidLooks := .later }
def DecodeOwnCardSaid : Prop := Claim7.holds Tryd.pinned (.plain (OpenSpec.ofChange decodeOwnSpec)) decodeOwnCard

/-- THE TIED CARD OF 'bellwetherlaw06.DecodeCodes'. -/
def decodeCodesCard : Claim7 := { stood := { row := decodeCodesRow, standIns := [], harness := (true, "e4b6ea7f66fc2cc0b693a7c5f60badee7e3ce92b40af17529c28563fc99ad3b5"), looks := true }, kinds := [], alts := [], laidByText := true, laidKinds := [.mapped], laidTests := true, laidLooks := .later }
def DecodeCodesCardSaid : Prop := Claim7.holds Tryd.pinned (.plain (OpenSpec.ofChange decodeCodesSpec)) decodeCodesCard

/-- THE TIED CARD OF 'bellwetherlaw05.EncodeWrites'. -/
def encodeWritesCard : Claim7 := { stood := { row := encodeWritesRow, standIns := [], harness := (true, "e4b6ea7f66fc2cc0b693a7c5f60badee7e3ce92b40af17529c28563fc99ad3b5"), looks := true }, kinds := [], alts := [], laidByText := true, laidKinds := [.mapped], laidTests := true, laidLooks := .later }
def EncodeWritesCardSaid : Prop := Claim7.holds Tryd.pinned (.plain (OpenSpec.ofChange encodeWritesSpec)) encodeWritesCard

/-- THE TIED CARD OF 'bellwetherlaw05.EncodeApart'. -/
def encodeApartCard : Claim7 := { stood := { row := encodeApartRow, standIns := [], harness := (true, "e4b6ea7f66fc2cc0b693a7c5f60badee7e3ce92b40af17529c28563fc99ad3b5"), looks := true }, kinds := [], alts := [], laidByText := true, laidKinds := [.mapped], laidTests := true, laidLooks := .later }
def EncodeApartCardSaid : Prop := Claim7.holds Tryd.pinned (.plain (OpenSpec.ofChange encodeApartSpec)) encodeApartCard

/-- THE TIED CARD OF 'bellwetherlaw05.EncodeNumbers'. -/
def encodeNumbersCard : Claim7 := { stood := { row := encodeNumbersRow, standIns := [], harness := (true, "e4b6ea7f66fc2cc0b693a7c5f60badee7e3ce92b40af17529c28563fc99ad3b5"), looks := true }, kinds := [], alts := [], laidByText := true, laidKinds := [.mapped], laidTests := true, laidLooks := .later }
def EncodeNumbersCardSaid : Prop := Claim7.holds Tryd.pinned (.plain (OpenSpec.ofChange encodeNumbersSpec)) encodeNumbersCard

/-- THE TIED CARD OF 'bellwetherlaw05.EncodeTexts'. -/
def encodeTextsCard : Claim7 := { stood := { row := encodeTextsRow, standIns := [], harness := (true, "e4b6ea7f66fc2cc0b693a7c5f60badee7e3ce92b40af17529c28563fc99ad3b5"), looks := true }, kinds := [], alts := [], laidByText := true, laidKinds := [.mapped], laidTests := true, laidLooks := .later }
def EncodeTextsCardSaid : Prop := Claim7.holds Tryd.pinned (.plain (OpenSpec.ofChange encodeTextsSpec)) encodeTextsCard

/-- THE TIED CARD OF 'bellwetherlaw05.EncodeArrays'. -/
def encodeArraysCard : Claim7 := { stood := { row := encodeArraysRow, standIns := [], harness := (true, "e4b6ea7f66fc2cc0b693a7c5f60badee7e3ce92b40af17529c28563fc99ad3b5"), looks := true }, kinds := [], alts := [], laidByText := true, laidKinds := [.mapped], laidTests := true, laidLooks := .later }
def EncodeArraysCardSaid : Prop := Claim7.holds Tryd.pinned (.plain (OpenSpec.ofChange encodeArraysSpec)) encodeArraysCard

/-- THE TIED CARD OF 'bellwetherlaw05.EncodeDescs'. -/
def encodeDescsCard : Claim7 := { stood := { row := encodeDescsRow, standIns := [], harness := (true, "e4b6ea7f66fc2cc0b693a7c5f60badee7e3ce92b40af17529c28563fc99ad3b5"), looks := true }, kinds := [], alts := [], laidByText := true, laidKinds := [.mapped], laidTests := true, laidLooks := .later }
def EncodeDescsCardSaid : Prop := Claim7.holds Tryd.pinned (.plain (OpenSpec.ofChange encodeDescsSpec)) encodeDescsCard

/-- THE TIED CARD OF 'bellwetherlaw06.DecodeBack'. -/
def decodeBackCard : Claim7 := { stood := { row := decodeBackRow, standIns := [], harness := (true, "e4b6ea7f66fc2cc0b693a7c5f60badee7e3ce92b40af17529c28563fc99ad3b5"), looks := true }, kinds := [], alts := [], laidByText := true, laidKinds := [.mapped, .mapped], laidTests := true, laidLooks := .later }
def DecodeBackCardSaid : Prop := Claim7.holds Tryd.pinned (.plain (OpenSpec.ofChange decodeBackSpec)) decodeBackCard

/-- THE TIED CARD OF 'bellwetherlaw06.DecodeShorter'. -/
def decodeShorterCard : Claim7 := { stood := { row := decodeShorterRow, standIns := [], harness := (true, "e4b6ea7f66fc2cc0b693a7c5f60badee7e3ce92b40af17529c28563fc99ad3b5"), looks := true }, kinds := [], alts := [], laidByText := true, laidKinds := [.mapped, .mapped], laidTests := true, laidLooks := .later }
def DecodeShorterCardSaid : Prop := Claim7.holds Tryd.pinned (.plain (OpenSpec.ofChange decodeShorterSpec)) decodeShorterCard

/-- THE TIED CARD OF 'bellwetherlaw06.DecodeWide'. -/
def decodeWideCard : Claim7 := { stood := { row := decodeWideRow, standIns := [], harness := (true, "e4b6ea7f66fc2cc0b693a7c5f60badee7e3ce92b40af17529c28563fc99ad3b5"), looks := true }, kinds := [], alts := [], laidByText := true, laidKinds := [.mapped, .mapped], laidTests := true, laidLooks := .later }
def DecodeWideCardSaid : Prop := Claim7.holds Tryd.pinned (.plain (OpenSpec.ofChange decodeWideSpec)) decodeWideCard

/-- THE SECOND FORM's CARD OF 'bellwetherlaw06.DecodeOwn'. -/
def decodeOwnUptoCard : Claim7 := { stood := { row := decodeOwnUptoRow, standIns := [], harness := (true, "e4b6ea7f66fc2cc0b693a7c5f60badee7e3ce92b40af17529c28563fc99ad3b5"), looks := true }, kinds := [], alts := [], laidByText := true, laidKinds := [.mapped], laidTests := true, laidLooks := .later }
def DecodeOwnUptoCardSaid : Prop := Claim7.holds Tryd.pinned (.plain (OpenSpec.upto decodeOwnSpec)) decodeOwnUptoCard

/-- THE SECOND FORM's CARD OF 'bellwetherlaw06.DecodeCodes'. -/
def decodeCodesUptoCard : Claim7 := { stood := { row := decodeCodesUptoRow, standIns := [], harness := (true, "e4b6ea7f66fc2cc0b693a7c5f60badee7e3ce92b40af17529c28563fc99ad3b5"), looks := true }, kinds := [], alts := [], laidByText := true, laidKinds := [.mapped], laidTests := true, laidLooks := .later }
def DecodeCodesUptoCardSaid : Prop := Claim7.holds Tryd.pinned (.plain (OpenSpec.upto decodeCodesSpec)) decodeCodesUptoCard

/-- THE SECOND FORM's CARD OF 'bellwetherlaw05.EncodeWrites'. -/
def encodeWritesUptoCard : Claim7 := { stood := { row := encodeWritesUptoRow, standIns := [], harness := (true, "e4b6ea7f66fc2cc0b693a7c5f60badee7e3ce92b40af17529c28563fc99ad3b5"), looks := true }, kinds := [], alts := [], laidByText := true, laidKinds := [.mapped], laidTests := true, laidLooks := .later }
def EncodeWritesUptoCardSaid : Prop := Claim7.holds Tryd.pinned (.plain (OpenSpec.upto encodeWritesSpec)) encodeWritesUptoCard

/-- THE SECOND FORM's CARD OF 'bellwetherlaw05.EncodeApart'. -/
def encodeApartUptoCard : Claim7 := { stood := { row := encodeApartUptoRow, standIns := [], harness := (true, "e4b6ea7f66fc2cc0b693a7c5f60badee7e3ce92b40af17529c28563fc99ad3b5"), looks := true }, kinds := [], alts := [], laidByText := true, laidKinds := [.mapped], laidTests := true, laidLooks := .later }
def EncodeApartUptoCardSaid : Prop := Claim7.holds Tryd.pinned (.plain (OpenSpec.upto encodeApartSpec)) encodeApartUptoCard

/-- THE SECOND FORM's CARD OF 'bellwetherlaw05.EncodeNumbers'. -/
def encodeNumbersUptoCard : Claim7 := { stood := { row := encodeNumbersUptoRow, standIns := [], harness := (true, "e4b6ea7f66fc2cc0b693a7c5f60badee7e3ce92b40af17529c28563fc99ad3b5"), looks := true }, kinds := [], alts := [], laidByText := true, laidKinds := [.mapped], laidTests := true, laidLooks := .later }
def EncodeNumbersUptoCardSaid : Prop := Claim7.holds Tryd.pinned (.plain (OpenSpec.upto encodeNumbersSpec)) encodeNumbersUptoCard

/-- THE SECOND FORM's CARD OF 'bellwetherlaw05.EncodeTexts'. -/
def encodeTextsUptoCard : Claim7 := { stood := { row := encodeTextsUptoRow, standIns := [], harness := (true, "e4b6ea7f66fc2cc0b693a7c5f60badee7e3ce92b40af17529c28563fc99ad3b5"), looks := true }, kinds := [], alts := [], laidByText := true, laidKinds := [.mapped], laidTests := true, laidLooks := .later }
def EncodeTextsUptoCardSaid : Prop := Claim7.holds Tryd.pinned (.plain (OpenSpec.upto encodeTextsSpec)) encodeTextsUptoCard

/-- THE SECOND FORM's CARD OF 'bellwetherlaw05.EncodeArrays'. -/
def encodeArraysUptoCard : Claim7 := { stood := { row := encodeArraysUptoRow, standIns := [], harness := (true, "e4b6ea7f66fc2cc0b693a7c5f60badee7e3ce92b40af17529c28563fc99ad3b5"), looks := true }, kinds := [], alts := [], laidByText := true, laidKinds := [.mapped], laidTests := true, laidLooks := .later }
def EncodeArraysUptoCardSaid : Prop := Claim7.holds Tryd.pinned (.plain (OpenSpec.upto encodeArraysSpec)) encodeArraysUptoCard

/-- THE SECOND FORM's CARD OF 'bellwetherlaw05.EncodeDescs'. -/
def encodeDescsUptoCard : Claim7 := { stood := { row := encodeDescsUptoRow, standIns := [], harness := (true, "e4b6ea7f66fc2cc0b693a7c5f60badee7e3ce92b40af17529c28563fc99ad3b5"), looks := true }, kinds := [], alts := [], laidByText := true, laidKinds := [.mapped], laidTests := true, laidLooks := .later }
def EncodeDescsUptoCardSaid : Prop := Claim7.holds Tryd.pinned (.plain (OpenSpec.upto encodeDescsSpec)) encodeDescsUptoCard

/-- THE SECOND FORM's CARD OF 'bellwetherlaw06.DecodeBack'. -/
def decodeBackUptoCard : Claim7 := { stood := { row := decodeBackUptoRow, standIns := [], harness := (true, "e4b6ea7f66fc2cc0b693a7c5f60badee7e3ce92b40af17529c28563fc99ad3b5"), looks := true }, kinds := [], alts := [], laidByText := true, laidKinds := [.mapped, .mapped], laidTests := true, laidLooks := .later }
def DecodeBackUptoCardSaid : Prop := Claim7.holds Tryd.pinned (.plain (OpenSpec.upto decodeBackSpec)) decodeBackUptoCard

/-- THE SECOND FORM's CARD OF 'bellwetherlaw06.DecodeShorter'. -/
def decodeShorterUptoCard : Claim7 := { stood := { row := decodeShorterUptoRow, standIns := [], harness := (true, "e4b6ea7f66fc2cc0b693a7c5f60badee7e3ce92b40af17529c28563fc99ad3b5"), looks := true }, kinds := [], alts := [], laidByText := true, laidKinds := [.mapped, .mapped], laidTests := true, laidLooks := .later }
def DecodeShorterUptoCardSaid : Prop := Claim7.holds Tryd.pinned (.plain (OpenSpec.upto decodeShorterSpec)) decodeShorterUptoCard

/-- THE SECOND FORM's CARD OF 'bellwetherlaw06.DecodeWide'. -/
def decodeWideUptoCard : Claim7 := { stood := { row := decodeWideUptoRow, standIns := [], harness := (true, "e4b6ea7f66fc2cc0b693a7c5f60badee7e3ce92b40af17529c28563fc99ad3b5"), looks := true }, kinds := [], alts := [], laidByText := true, laidKinds := [.mapped, .mapped], laidTests := true, laidLooks := .later }
def DecodeWideUptoCardSaid : Prop := Claim7.holds Tryd.pinned (.plain (OpenSpec.upto decodeWideSpec)) decodeWideUptoCard
end Rows
end Go.Proofs.YtdobhepmepalpaaDoor
