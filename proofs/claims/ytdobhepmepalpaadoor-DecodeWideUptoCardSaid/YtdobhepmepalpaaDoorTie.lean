/-
  DERIVED. GIVEN WITH THE SEED: THE PROGRAM's TIES (one call each: nine closed facts by the kernel) AND EACH ROW's TIE, after the 31st guide's Derived/Test/Toyas{Tie, Card}.lean. No idea stands in it: it is a product of the set-up. Laid BY PROGRAM, IN A SANDBOX (cutbox-door.mjs). By AI agents, Wed Nov 11 2026. No macro, syntax, notation, axiom, sorry.
-/
import Derived.Test.YtdobhepmepalpaaDoorRows
import Derived.LaidByTextLater
import Derived.SevenTiedAt
import Derived.LaidSub
import Derived.LaidOnce
namespace Go.Proofs.YtdobhepmepalpaaDoor
open Go
set_option maxRecDepth 100000
theorem seatTie1 : Tryd.prog.laidByTextLater [("bellwether/decode.kinds", Rows.laid_bellwether_decode_kinds), ("bellwether/encode.codes", Rows.laid_bellwether_encode_codes)] [.mapped, .mapped] true :=
  Program.laidByTextLater_by_one 279 8 2 (by kernel_rfl) (by kernel_rfl) (by kernel_rfl) (by kernel_rfl) (by kernel_rfl) (by kernel_rfl) (fun _ _ => by kernel_rfl)
theorem noOwnUnsafe : Tryd.pinned.checked.prog.headLifts.contains "ownunsafe" = false := by kernel_rfl
theorem tie : Tryd.prog.laidByTextLater [("bellwether/decode.kinds", Rows.laid_bellwether_decode_kinds)] [.mapped] true :=
  Program.laidByTextLater.sub seatTie1 ["bellwether/decode.kinds"] (by kernel_rfl) (by kernel_rfl)
theorem decodeOwn_row_tie : Rows.decodeOwnRow.laidByTextAt .later Tryd.pinned [.mapped] true :=
  OpenClaim.laidByTextAt_later rfl rfl tie noOwnUnsafe
theorem decodeCodes_row_tie : Rows.decodeCodesRow.laidByTextAt .later Tryd.pinned [.mapped] true :=
  OpenClaim.laidByTextAt_later rfl rfl tie noOwnUnsafe
theorem tie2 : Tryd.prog.laidByTextLater [("bellwether/encode.codes", Rows.laid_bellwether_encode_codes)] [.mapped] true :=
  Program.laidByTextLater.sub seatTie1 ["bellwether/encode.codes"] (by kernel_rfl) (by kernel_rfl)
theorem encodeWrites_row_tie : Rows.encodeWritesRow.laidByTextAt .later Tryd.pinned [.mapped] true :=
  OpenClaim.laidByTextAt_later rfl rfl tie2 noOwnUnsafe
theorem encodeApart_row_tie : Rows.encodeApartRow.laidByTextAt .later Tryd.pinned [.mapped] true :=
  OpenClaim.laidByTextAt_later rfl rfl tie2 noOwnUnsafe
theorem encodeNumbers_row_tie : Rows.encodeNumbersRow.laidByTextAt .later Tryd.pinned [.mapped] true :=
  OpenClaim.laidByTextAt_later rfl rfl tie2 noOwnUnsafe
theorem encodeTexts_row_tie : Rows.encodeTextsRow.laidByTextAt .later Tryd.pinned [.mapped] true :=
  OpenClaim.laidByTextAt_later rfl rfl tie2 noOwnUnsafe
theorem encodeArrays_row_tie : Rows.encodeArraysRow.laidByTextAt .later Tryd.pinned [.mapped] true :=
  OpenClaim.laidByTextAt_later rfl rfl tie2 noOwnUnsafe
theorem encodeDescs_row_tie : Rows.encodeDescsRow.laidByTextAt .later Tryd.pinned [.mapped] true :=
  OpenClaim.laidByTextAt_later rfl rfl tie2 noOwnUnsafe
theorem tie3 : Tryd.prog.laidByTextLater [("bellwether/decode.kinds", Rows.laid_bellwether_decode_kinds), ("bellwether/encode.codes", Rows.laid_bellwether_encode_codes)] [.mapped, .mapped] true :=
  Program.laidByTextLater.sub seatTie1 ["bellwether/decode.kinds", "bellwether/encode.codes"] (by kernel_rfl) (by kernel_rfl)
theorem decodeBack_row_tie : Rows.decodeBackRow.laidByTextAt .later Tryd.pinned [.mapped, .mapped] true :=
  OpenClaim.laidByTextAt_later rfl rfl tie3 noOwnUnsafe
theorem decodeShorter_row_tie : Rows.decodeShorterRow.laidByTextAt .later Tryd.pinned [.mapped, .mapped] true :=
  OpenClaim.laidByTextAt_later rfl rfl tie3 noOwnUnsafe
theorem decodeWide_row_tie : Rows.decodeWideRow.laidByTextAt .later Tryd.pinned [.mapped, .mapped] true :=
  OpenClaim.laidByTextAt_later rfl rfl tie3 noOwnUnsafe
theorem decodeOwnUpto_row_tie : Rows.decodeOwnUptoRow.laidByTextAt .later Tryd.pinned [.mapped] true :=
  OpenClaim.laidByTextAt_later rfl rfl tie noOwnUnsafe
theorem decodeCodesUpto_row_tie : Rows.decodeCodesUptoRow.laidByTextAt .later Tryd.pinned [.mapped] true :=
  OpenClaim.laidByTextAt_later rfl rfl tie noOwnUnsafe
theorem encodeWritesUpto_row_tie : Rows.encodeWritesUptoRow.laidByTextAt .later Tryd.pinned [.mapped] true :=
  OpenClaim.laidByTextAt_later rfl rfl tie2 noOwnUnsafe
theorem encodeApartUpto_row_tie : Rows.encodeApartUptoRow.laidByTextAt .later Tryd.pinned [.mapped] true :=
  OpenClaim.laidByTextAt_later rfl rfl tie2 noOwnUnsafe
theorem encodeNumbersUpto_row_tie : Rows.encodeNumbersUptoRow.laidByTextAt .later Tryd.pinned [.mapped] true :=
  OpenClaim.laidByTextAt_later rfl rfl tie2 noOwnUnsafe
theorem encodeTextsUpto_row_tie : Rows.encodeTextsUptoRow.laidByTextAt .later Tryd.pinned [.mapped] true :=
  OpenClaim.laidByTextAt_later rfl rfl tie2 noOwnUnsafe
theorem encodeArraysUpto_row_tie : Rows.encodeArraysUptoRow.laidByTextAt .later Tryd.pinned [.mapped] true :=
  OpenClaim.laidByTextAt_later rfl rfl tie2 noOwnUnsafe
theorem encodeDescsUpto_row_tie : Rows.encodeDescsUptoRow.laidByTextAt .later Tryd.pinned [.mapped] true :=
  OpenClaim.laidByTextAt_later rfl rfl tie2 noOwnUnsafe
theorem decodeBackUpto_row_tie : Rows.decodeBackUptoRow.laidByTextAt .later Tryd.pinned [.mapped, .mapped] true :=
  OpenClaim.laidByTextAt_later rfl rfl tie3 noOwnUnsafe
theorem decodeShorterUpto_row_tie : Rows.decodeShorterUptoRow.laidByTextAt .later Tryd.pinned [.mapped, .mapped] true :=
  OpenClaim.laidByTextAt_later rfl rfl tie3 noOwnUnsafe
theorem decodeWideUpto_row_tie : Rows.decodeWideUptoRow.laidByTextAt .later Tryd.pinned [.mapped, .mapped] true :=
  OpenClaim.laidByTextAt_later rfl rfl tie3 noOwnUnsafe
end Go.Proofs.YtdobhepmepalpaaDoor
