/-
  NARROWER THAN 'FOR EVERY INPUT', by the rows' own cells (each row's printed sentence says how): DecodeOwn: laid · DecodeCodes: laid · EncodeWrites: loops, laid · EncodeApart: loops, laid · EncodeNumbers: laid · EncodeTexts: laid · EncodeArrays: laid · EncodeDescs: loops, laid · DecodeBack: loops, laid · DecodeShorter: laid · DecodeWide: loops, laid.
  DERIVED. THE GIVEN ROWS OF THIS SEAT. 11 by the template 'for every input the law returns true; each argument reads behind the call as it read before'; 0 by the template 'total and deterministic' (their statements: YtdobhepmepalpaaDoorTotals.lean).
  GIVEN WITH THE SEED: the statements are not yours to turn. If you find one false, say at which input.
  Laid BY PROGRAM, IN A SANDBOX (cutbox-rows.mjs): the forced cells as the released guide's own fill.sh prints them over the translation b2d69bc47909b578… (all of the seat's roots in one cut). By AI agents, Wed Nov 11 2026. No macro, syntax, notation, axiom, sorry.
-/
import Derived.Test.YtdobhepmepalpaaDoorChecked
import GoSem.Claim
import GoSem.ClaimJoined
import GoSem.ClaimMapViews
import Derived.JoinedTies
import Derived.KernelRfl
namespace Go.Proofs.YtdobhepmepalpaaDoor
/- THE CELL 'sum', in the pinned program and in every row, IS THE sha256 OF THE DUMP (.gsa) THAT YtdobhepmepalpaaDoorProg.lean LOADS. Nothing in Lean hashes anything: it is a label: what it is worth is what the hold of that sum in a sandbox is worth. -/
noncomputable def Tryd.pinned : Pinned := { name := "ytdobhepmepalpaadoor", sum := "b2d69bc47909b5783d0a7117334b2e38a59196c3a61af34e29897d0feb5200f1", checked := Tryd.checked }
namespace Rows
def none {H : Type} : Left H := { results := [], args := [] }

/- WHAT THE LISTED PACKAGE-LEVEL VARIABLES READ AS WHEN THE CALL BEGINS. Each datum BY PROGRAM (the guide's laid-datum.mjs) off the statement by which the dump's own 'gosem.cut.vars' lays the variable. In a bare row this is a premise. The card (YtdobhepmepalpaaDoorCards.lean) ties it to the program's text. -/
def laid_bellwether_decode_kinds {H : Type} : DataW H := .map [(.int .u8 64, .lit (.int .u8 1)), (.int .u8 65, .lit (.int .u8 2)), (.int .u8 66, .lit (.int .u8 2)), (.int .u8 67, .lit (.int .u8 5)), (.int .u8 68, .lit (.int .u8 6)), (.int .u8 69, .lit (.int .u8 22)), (.int .u8 80, .lit (.int .u8 3)), (.int .u8 81, .lit (.int .u8 7)), (.int .u8 82, .lit (.int .u8 5)), (.int .u8 83, .lit (.int .u8 6)), (.int .u8 84, .lit (.int .u8 9)), (.int .u8 85, .lit (.int .u8 10)), (.int .u8 86, .lit (.int .u8 2)), (.int .u8 96, .lit (.int .u8 4)), (.int .u8 97, .lit (.int .u8 8)), (.int .u8 112, .lit (.int .u8 5)), (.int .u8 113, .lit (.int .u8 9)), (.int .u8 114, .lit (.int .u8 11)), (.int .u8 115, .lit (.int .u8 13)), (.int .u8 116, .lit (.int .u8 16)), (.int .u8 128, .lit (.int .u8 6)), (.int .u8 129, .lit (.int .u8 10)), (.int .u8 130, .lit (.int .u8 12)), (.int .u8 131, .lit (.int .u8 14)), (.int .u8 132, .lit (.int .u8 17)), (.int .u8 148, .lit (.int .u8 18)), (.int .u8 152, .lit (.int .u8 15)), (.int .u8 160, .lit (.int .u8 19)), (.int .u8 161, .lit (.int .u8 20)), (.int .u8 163, .lit (.int .u8 21)), (.int .u8 176, .lit (.int .u8 19)), (.int .u8 177, .lit (.int .u8 20)), (.int .u8 179, .lit (.int .u8 21)), (.int .u8 192, .lit (.int .u8 22)), (.int .u8 193, .lit (.int .u8 23)), (.int .u8 208, .lit (.int .u8 22)), (.int .u8 209, .lit (.int .u8 23)), (.int .u8 224, .lit (.int .u8 24)), (.int .u8 240, .lit (.int .u8 24))]
def laid_bellwether_encode_codes {H : Type} : DataW H := .map [(.int .u8 1, .lit (.int .u8 64)), (.int .u8 3, .lit (.int .u8 80)), (.int .u8 4, .lit (.int .u8 96)), (.int .u8 7, .lit (.int .u8 81)), (.int .u8 8, .lit (.int .u8 97)), (.int .u8 11, .lit (.int .u8 114)), (.int .u8 12, .lit (.int .u8 130)), (.int .u8 13, .lit (.int .u8 115)), (.int .u8 14, .lit (.int .u8 131)), (.int .u8 15, .lit (.int .u8 152)), (.int .u8 16, .lit (.int .u8 116)), (.int .u8 17, .lit (.int .u8 132)), (.int .u8 18, .lit (.int .u8 148))]

/-- 'bellwetherlaw06.DecodeOwn': WHATEVER THE INPUT: true; the input reads as it did. -/
def decodeOwnSpec : ChangeSpec := { name := "decodeOwn", fn := fun _ => fun
  | [d1, d2] => { results := [.lit (.bool true)], args := [d1, d2] }
  | _ => none }
def decodeOwnRow : OpenClaim := { program := "ytdobhepmepalpaadoor", sum := "b2d69bc47909b5783d0a7117334b2e38a59196c3a61af34e29897d0feb5200f1", func := "bellwether/bellwetherlaw06.DecodeOwn", spec := "decodeOwn", unfollowed := true, recurses := true, named := ["bellwether/decode.kinds"], apart := false, laid := [("bellwether/decode.kinds", laid_bellwether_decode_kinds)] }
def DecodeOwnSaid : Prop := decodeOwnRow.holds Tryd.pinned (OpenSpec.ofChange decodeOwnSpec)

/-- ITS FALSE NEIGHBOUR: 'it returns false'. Refute it at one input. -/
def decodeOwnWrong : ChangeSpec := { name := "decodeOwn", fn := fun _ => fun
  | [d1, d2] => { results := [.lit (.bool false)], args := [d1, d2] }
  | _ => none }
def DecodeOwnWrongFalsely : Prop := decodeOwnRow.holds Tryd.pinned (OpenSpec.ofChange decodeOwnWrong)

/-- 'bellwetherlaw06.DecodeCodes': WHATEVER THE INPUT: true; the input reads as it did. -/
def decodeCodesSpec : ChangeSpec := { name := "decodeCodes", fn := fun _ => fun
  | [d1, d2] => { results := [.lit (.bool true)], args := [d1, d2] }
  | _ => none }
def decodeCodesRow : OpenClaim := { program := "ytdobhepmepalpaadoor", sum := "b2d69bc47909b5783d0a7117334b2e38a59196c3a61af34e29897d0feb5200f1", func := "bellwether/bellwetherlaw06.DecodeCodes", spec := "decodeCodes", unfollowed := true, recurses := true, named := ["bellwether/decode.kinds"], apart := false, laid := [("bellwether/decode.kinds", laid_bellwether_decode_kinds)] }
def DecodeCodesSaid : Prop := decodeCodesRow.holds Tryd.pinned (OpenSpec.ofChange decodeCodesSpec)

/-- ITS FALSE NEIGHBOUR: 'it returns false'. Refute it at one input. -/
def decodeCodesWrong : ChangeSpec := { name := "decodeCodes", fn := fun _ => fun
  | [d1, d2] => { results := [.lit (.bool false)], args := [d1, d2] }
  | _ => none }
def DecodeCodesWrongFalsely : Prop := decodeCodesRow.holds Tryd.pinned (OpenSpec.ofChange decodeCodesWrong)

/-- 'bellwetherlaw05.EncodeWrites': WHATEVER THE INPUT: true; the input reads as it did. -/
def encodeWritesSpec : ChangeSpec := { name := "encodeWrites", fn := fun _ => fun
  | [d] => { results := [.lit (.bool true)], args := [d] }
  | _ => none }
def encodeWritesRow : OpenClaim := { program := "ytdobhepmepalpaadoor", sum := "b2d69bc47909b5783d0a7117334b2e38a59196c3a61af34e29897d0feb5200f1", func := "bellwether/bellwetherlaw05.EncodeWrites", spec := "encodeWrites", unfollowed := true, recurses := true, named := ["bellwether/encode.codes"], loops := true, apart := false, laid := [("bellwether/encode.codes", laid_bellwether_encode_codes)] }
def EncodeWritesSaid : Prop := encodeWritesRow.holds Tryd.pinned (OpenSpec.ofChange encodeWritesSpec)

/-- ITS FALSE NEIGHBOUR: 'it returns false'. Refute it at one input. -/
def encodeWritesWrong : ChangeSpec := { name := "encodeWrites", fn := fun _ => fun
  | [d] => { results := [.lit (.bool false)], args := [d] }
  | _ => none }
def EncodeWritesWrongFalsely : Prop := encodeWritesRow.holds Tryd.pinned (OpenSpec.ofChange encodeWritesWrong)

/-- 'bellwetherlaw05.EncodeApart': WHATEVER THE INPUT: true; the input reads as it did. -/
def encodeApartSpec : ChangeSpec := { name := "encodeApart", fn := fun _ => fun
  | [d1, d2] => { results := [.lit (.bool true)], args := [d1, d2] }
  | _ => none }
def encodeApartRow : OpenClaim := { program := "ytdobhepmepalpaadoor", sum := "b2d69bc47909b5783d0a7117334b2e38a59196c3a61af34e29897d0feb5200f1", func := "bellwether/bellwetherlaw05.EncodeApart", spec := "encodeApart", unfollowed := true, recurses := true, named := ["bellwether/encode.codes"], loops := true, apart := false, laid := [("bellwether/encode.codes", laid_bellwether_encode_codes)] }
def EncodeApartSaid : Prop := encodeApartRow.holds Tryd.pinned (OpenSpec.ofChange encodeApartSpec)

/-- ITS FALSE NEIGHBOUR: 'it returns false'. Refute it at one input. -/
def encodeApartWrong : ChangeSpec := { name := "encodeApart", fn := fun _ => fun
  | [d1, d2] => { results := [.lit (.bool false)], args := [d1, d2] }
  | _ => none }
def EncodeApartWrongFalsely : Prop := encodeApartRow.holds Tryd.pinned (OpenSpec.ofChange encodeApartWrong)

/-- 'bellwetherlaw05.EncodeNumbers': WHATEVER THE INPUT: true; the input reads as it did. -/
def encodeNumbersSpec : ChangeSpec := { name := "encodeNumbers", fn := fun _ => fun
  | [d1, d2] => { results := [.lit (.bool true)], args := [d1, d2] }
  | _ => none }
def encodeNumbersRow : OpenClaim := { program := "ytdobhepmepalpaadoor", sum := "b2d69bc47909b5783d0a7117334b2e38a59196c3a61af34e29897d0feb5200f1", func := "bellwether/bellwetherlaw05.EncodeNumbers", spec := "encodeNumbers", unfollowed := true, recurses := true, named := ["bellwether/encode.codes"], apart := false, laid := [("bellwether/encode.codes", laid_bellwether_encode_codes)] }
def EncodeNumbersSaid : Prop := encodeNumbersRow.holds Tryd.pinned (OpenSpec.ofChange encodeNumbersSpec)

/-- ITS FALSE NEIGHBOUR: 'it returns false'. Refute it at one input. -/
def encodeNumbersWrong : ChangeSpec := { name := "encodeNumbers", fn := fun _ => fun
  | [d1, d2] => { results := [.lit (.bool false)], args := [d1, d2] }
  | _ => none }
def EncodeNumbersWrongFalsely : Prop := encodeNumbersRow.holds Tryd.pinned (OpenSpec.ofChange encodeNumbersWrong)

/-- 'bellwetherlaw05.EncodeTexts': WHATEVER THE INPUT: true; the input reads as it did. -/
def encodeTextsSpec : ChangeSpec := { name := "encodeTexts", fn := fun _ => fun
  | [d1, d2] => { results := [.lit (.bool true)], args := [d1, d2] }
  | _ => none }
def encodeTextsRow : OpenClaim := { program := "ytdobhepmepalpaadoor", sum := "b2d69bc47909b5783d0a7117334b2e38a59196c3a61af34e29897d0feb5200f1", func := "bellwether/bellwetherlaw05.EncodeTexts", spec := "encodeTexts", unfollowed := true, recurses := true, named := ["bellwether/encode.codes"], apart := false, laid := [("bellwether/encode.codes", laid_bellwether_encode_codes)] }
def EncodeTextsSaid : Prop := encodeTextsRow.holds Tryd.pinned (OpenSpec.ofChange encodeTextsSpec)

/-- ITS FALSE NEIGHBOUR: 'it returns false'. Refute it at one input. -/
def encodeTextsWrong : ChangeSpec := { name := "encodeTexts", fn := fun _ => fun
  | [d1, d2] => { results := [.lit (.bool false)], args := [d1, d2] }
  | _ => none }
def EncodeTextsWrongFalsely : Prop := encodeTextsRow.holds Tryd.pinned (OpenSpec.ofChange encodeTextsWrong)

/-- 'bellwetherlaw05.EncodeArrays': WHATEVER THE INPUT: true; the input reads as it did. -/
def encodeArraysSpec : ChangeSpec := { name := "encodeArrays", fn := fun _ => fun
  | [d1, d2, d3] => { results := [.lit (.bool true)], args := [d1, d2, d3] }
  | _ => none }
def encodeArraysRow : OpenClaim := { program := "ytdobhepmepalpaadoor", sum := "b2d69bc47909b5783d0a7117334b2e38a59196c3a61af34e29897d0feb5200f1", func := "bellwether/bellwetherlaw05.EncodeArrays", spec := "encodeArrays", unfollowed := true, recurses := true, named := ["bellwether/encode.codes"], apart := false, laid := [("bellwether/encode.codes", laid_bellwether_encode_codes)] }
def EncodeArraysSaid : Prop := encodeArraysRow.holds Tryd.pinned (OpenSpec.ofChange encodeArraysSpec)

/-- ITS FALSE NEIGHBOUR: 'it returns false'. Refute it at one input. -/
def encodeArraysWrong : ChangeSpec := { name := "encodeArrays", fn := fun _ => fun
  | [d1, d2, d3] => { results := [.lit (.bool false)], args := [d1, d2, d3] }
  | _ => none }
def EncodeArraysWrongFalsely : Prop := encodeArraysRow.holds Tryd.pinned (OpenSpec.ofChange encodeArraysWrong)

/-- 'bellwetherlaw05.EncodeDescs': WHATEVER THE INPUT: true; the input reads as it did. -/
def encodeDescsSpec : ChangeSpec := { name := "encodeDescs", fn := fun _ => fun
  | [d1, d2, d3] => { results := [.lit (.bool true)], args := [d1, d2, d3] }
  | _ => none }
def encodeDescsRow : OpenClaim := { program := "ytdobhepmepalpaadoor", sum := "b2d69bc47909b5783d0a7117334b2e38a59196c3a61af34e29897d0feb5200f1", func := "bellwether/bellwetherlaw05.EncodeDescs", spec := "encodeDescs", unfollowed := true, recurses := true, named := ["bellwether/encode.codes"], loops := true, apart := false, laid := [("bellwether/encode.codes", laid_bellwether_encode_codes)] }
def EncodeDescsSaid : Prop := encodeDescsRow.holds Tryd.pinned (OpenSpec.ofChange encodeDescsSpec)

/-- ITS FALSE NEIGHBOUR: 'it returns false'. Refute it at one input. -/
def encodeDescsWrong : ChangeSpec := { name := "encodeDescs", fn := fun _ => fun
  | [d1, d2, d3] => { results := [.lit (.bool false)], args := [d1, d2, d3] }
  | _ => none }
def EncodeDescsWrongFalsely : Prop := encodeDescsRow.holds Tryd.pinned (OpenSpec.ofChange encodeDescsWrong)

/-- 'bellwetherlaw06.DecodeBack': WHATEVER THE INPUT: true; the input reads as it did. -/
def decodeBackSpec : ChangeSpec := { name := "decodeBack", fn := fun _ => fun
  | [d1, d2, d3] => { results := [.lit (.bool true)], args := [d1, d2, d3] }
  | _ => none }
def decodeBackRow : OpenClaim := { program := "ytdobhepmepalpaadoor", sum := "b2d69bc47909b5783d0a7117334b2e38a59196c3a61af34e29897d0feb5200f1", func := "bellwether/bellwetherlaw06.DecodeBack", spec := "decodeBack", unfollowed := true, recurses := true, named := ["bellwether/decode.kinds", "bellwether/encode.codes"], loops := true, apart := false, laid := [("bellwether/decode.kinds", laid_bellwether_decode_kinds), ("bellwether/encode.codes", laid_bellwether_encode_codes)] }
def DecodeBackSaid : Prop := decodeBackRow.holds Tryd.pinned (OpenSpec.ofChange decodeBackSpec)

/-- ITS FALSE NEIGHBOUR: 'it returns false'. Refute it at one input. -/
def decodeBackWrong : ChangeSpec := { name := "decodeBack", fn := fun _ => fun
  | [d1, d2, d3] => { results := [.lit (.bool false)], args := [d1, d2, d3] }
  | _ => none }
def DecodeBackWrongFalsely : Prop := decodeBackRow.holds Tryd.pinned (OpenSpec.ofChange decodeBackWrong)

/-- 'bellwetherlaw06.DecodeShorter': WHATEVER THE INPUT: true; the input reads as it did. -/
def decodeShorterSpec : ChangeSpec := { name := "decodeShorter", fn := fun _ => fun
  | [d] => { results := [.lit (.bool true)], args := [d] }
  | _ => none }
def decodeShorterRow : OpenClaim := { program := "ytdobhepmepalpaadoor", sum := "b2d69bc47909b5783d0a7117334b2e38a59196c3a61af34e29897d0feb5200f1", func := "bellwether/bellwetherlaw06.DecodeShorter", spec := "decodeShorter", unfollowed := true, recurses := true, named := ["bellwether/decode.kinds", "bellwether/encode.codes"], apart := false, laid := [("bellwether/decode.kinds", laid_bellwether_decode_kinds), ("bellwether/encode.codes", laid_bellwether_encode_codes)] }
def DecodeShorterSaid : Prop := decodeShorterRow.holds Tryd.pinned (OpenSpec.ofChange decodeShorterSpec)

/-- ITS FALSE NEIGHBOUR: 'it returns false'. Refute it at one input. -/
def decodeShorterWrong : ChangeSpec := { name := "decodeShorter", fn := fun _ => fun
  | [d] => { results := [.lit (.bool false)], args := [d] }
  | _ => none }
def DecodeShorterWrongFalsely : Prop := decodeShorterRow.holds Tryd.pinned (OpenSpec.ofChange decodeShorterWrong)

/-- 'bellwetherlaw06.DecodeWide': WHATEVER THE INPUT: true; the input reads as it did. -/
def decodeWideSpec : ChangeSpec := { name := "decodeWide", fn := fun _ => fun
  | [d1, d2, d3] => { results := [.lit (.bool true)], args := [d1, d2, d3] }
  | _ => none }
def decodeWideRow : OpenClaim := { program := "ytdobhepmepalpaadoor", sum := "b2d69bc47909b5783d0a7117334b2e38a59196c3a61af34e29897d0feb5200f1", func := "bellwether/bellwetherlaw06.DecodeWide", spec := "decodeWide", unfollowed := true, recurses := true, named := ["bellwether/decode.kinds", "bellwether/encode.codes"], loops := true, apart := false, laid := [("bellwether/decode.kinds", laid_bellwether_decode_kinds), ("bellwether/encode.codes", laid_bellwether_encode_codes)] }
def DecodeWideSaid : Prop := decodeWideRow.holds Tryd.pinned (OpenSpec.ofChange decodeWideSpec)

/-- ITS FALSE NEIGHBOUR: 'it returns false'. Refute it at one input. -/
def decodeWideWrong : ChangeSpec := { name := "decodeWide", fn := fun _ => fun
  | [d1, d2, d3] => { results := [.lit (.bool false)], args := [d1, d2, d3] }
  | _ => none }
def DecodeWideWrongFalsely : Prop := decodeWideRow.holds Tryd.pinned (OpenSpec.ofChange decodeWideWrong)

/- THE SECOND FORM. 'bulk': how many values and letters a reading holds, each counted each time it is reached (what is shared counts as often as it is met; a slice's spare places count too). A statement '..UptoSaid' is the law's where the arguments, and the package variables that the reading takes, are together of bulk at most 1048576: NARROWER than '..Said'. Prove '..Said' where nothing that the law and all that it calls make is longer than what came in: it says more and counts as full. Else prove '..UptoSaid'. A law counts once. -/
mutual
def uptoBulk {H : Type} : DataW H → Nat
  | .lit (.string bytes) => bytes.length + 1
  | .lit _ => 1
  | .nil => 1
  | .ptr d => uptoBulk d + 1
  | .slice elems spare => uptoBulkAll elems + uptoBulkAll spare + 1
  | .agg parts => uptoBulkAll parts + 1
  | .iface _ d => uptoBulk d + 1
  | .map entries => uptoBulkEntries entries + 1
  | .held _ => 1
def uptoBulkAll {H : Type} : List (DataW H) → Nat
  | [] => 0
  | d :: r => uptoBulk d + uptoBulkAll r
def uptoBulkEntries {H : Type} : List (Lit × DataW H) → Nat
  | [] => 0
  | x :: r => uptoBulkEntry x + uptoBulkEntries r
def uptoBulkEntry {H : Type} : Lit × DataW H → Nat
  | (.string bytes, d) => bytes.length + uptoBulk d + 1
  | (_, d) => uptoBulk d + 1
 end
def uptoSmall : (H : Type) → List (DataW H) → Bool := fun _ ds => decide (uptoBulkAll ds ≤ 1048576)
def OpenSpec.upto (s : _root_.Go.ChangeSpec) : _root_.Go.OpenSpec := { _root_.Go.OpenSpec.ofChange s with cond := some uptoSmall }

/-- 'bellwetherlaw06.DecodeOwn', WHERE WHAT IT READS IS OF BULK AT MOST 1048576: true; the input reads as it did. -/
def decodeOwnUptoRow : OpenClaim := { program := "ytdobhepmepalpaadoor", sum := "b2d69bc47909b5783d0a7117334b2e38a59196c3a61af34e29897d0feb5200f1", func := "bellwether/bellwetherlaw06.DecodeOwn", spec := "decodeOwn", unfollowed := true, recurses := true, named := ["bellwether/decode.kinds"], apart := false, laid := [("bellwether/decode.kinds", laid_bellwether_decode_kinds)], narrowed := true }
def DecodeOwnUptoSaid : Prop := decodeOwnUptoRow.holds Tryd.pinned (OpenSpec.upto decodeOwnSpec)

/-- 'bellwetherlaw06.DecodeCodes', WHERE WHAT IT READS IS OF BULK AT MOST 1048576: true; the input reads as it did. -/
def decodeCodesUptoRow : OpenClaim := { program := "ytdobhepmepalpaadoor", sum := "b2d69bc47909b5783d0a7117334b2e38a59196c3a61af34e29897d0feb5200f1", func := "bellwether/bellwetherlaw06.DecodeCodes", spec := "decodeCodes", unfollowed := true, recurses := true, named := ["bellwether/decode.kinds"], apart := false, laid := [("bellwether/decode.kinds", laid_bellwether_decode_kinds)], narrowed := true }
def DecodeCodesUptoSaid : Prop := decodeCodesUptoRow.holds Tryd.pinned (OpenSpec.upto decodeCodesSpec)

/-- 'bellwetherlaw05.EncodeWrites', WHERE WHAT IT READS IS OF BULK AT MOST 1048576: true; the input reads as it did. -/
def encodeWritesUptoRow : OpenClaim := { program := "ytdobhepmepalpaadoor", sum := "b2d69bc47909b5783d0a7117334b2e38a59196c3a61af34e29897d0feb5200f1", func := "bellwether/bellwetherlaw05.EncodeWrites", spec := "encodeWrites", unfollowed := true, recurses := true, named := ["bellwether/encode.codes"], loops := true, apart := false, laid := [("bellwether/encode.codes", laid_bellwether_encode_codes)], narrowed := true }
def EncodeWritesUptoSaid : Prop := encodeWritesUptoRow.holds Tryd.pinned (OpenSpec.upto encodeWritesSpec)

/-- 'bellwetherlaw05.EncodeApart', WHERE WHAT IT READS IS OF BULK AT MOST 1048576: true; the input reads as it did. -/
def encodeApartUptoRow : OpenClaim := { program := "ytdobhepmepalpaadoor", sum := "b2d69bc47909b5783d0a7117334b2e38a59196c3a61af34e29897d0feb5200f1", func := "bellwether/bellwetherlaw05.EncodeApart", spec := "encodeApart", unfollowed := true, recurses := true, named := ["bellwether/encode.codes"], loops := true, apart := false, laid := [("bellwether/encode.codes", laid_bellwether_encode_codes)], narrowed := true }
def EncodeApartUptoSaid : Prop := encodeApartUptoRow.holds Tryd.pinned (OpenSpec.upto encodeApartSpec)

/-- 'bellwetherlaw05.EncodeNumbers', WHERE WHAT IT READS IS OF BULK AT MOST 1048576: true; the input reads as it did. -/
def encodeNumbersUptoRow : OpenClaim := { program := "ytdobhepmepalpaadoor", sum := "b2d69bc47909b5783d0a7117334b2e38a59196c3a61af34e29897d0feb5200f1", func := "bellwether/bellwetherlaw05.EncodeNumbers", spec := "encodeNumbers", unfollowed := true, recurses := true, named := ["bellwether/encode.codes"], apart := false, laid := [("bellwether/encode.codes", laid_bellwether_encode_codes)], narrowed := true }
def EncodeNumbersUptoSaid : Prop := encodeNumbersUptoRow.holds Tryd.pinned (OpenSpec.upto encodeNumbersSpec)

/-- 'bellwetherlaw05.EncodeTexts', WHERE WHAT IT READS IS OF BULK AT MOST 1048576: true; the input reads as it did. -/
def encodeTextsUptoRow : OpenClaim := { program := "ytdobhepmepalpaadoor", sum := "b2d69bc47909b5783d0a7117334b2e38a59196c3a61af34e29897d0feb5200f1", func := "bellwether/bellwetherlaw05.EncodeTexts", spec := "encodeTexts", unfollowed := true, recurses := true, named := ["bellwether/encode.codes"], apart := false, laid := [("bellwether/encode.codes", laid_bellwether_encode_codes)], narrowed := true }
def EncodeTextsUptoSaid : Prop := encodeTextsUptoRow.holds Tryd.pinned (OpenSpec.upto encodeTextsSpec)

/-- 'bellwetherlaw05.EncodeArrays', WHERE WHAT IT READS IS OF BULK AT MOST 1048576: true; the input reads as it did. -/
def encodeArraysUptoRow : OpenClaim := { program := "ytdobhepmepalpaadoor", sum := "b2d69bc47909b5783d0a7117334b2e38a59196c3a61af34e29897d0feb5200f1", func := "bellwether/bellwetherlaw05.EncodeArrays", spec := "encodeArrays", unfollowed := true, recurses := true, named := ["bellwether/encode.codes"], apart := false, laid := [("bellwether/encode.codes", laid_bellwether_encode_codes)], narrowed := true }
def EncodeArraysUptoSaid : Prop := encodeArraysUptoRow.holds Tryd.pinned (OpenSpec.upto encodeArraysSpec)

/-- 'bellwetherlaw05.EncodeDescs', WHERE WHAT IT READS IS OF BULK AT MOST 1048576: true; the input reads as it did. -/
def encodeDescsUptoRow : OpenClaim := { program := "ytdobhepmepalpaadoor", sum := "b2d69bc47909b5783d0a7117334b2e38a59196c3a61af34e29897d0feb5200f1", func := "bellwether/bellwetherlaw05.EncodeDescs", spec := "encodeDescs", unfollowed := true, recurses := true, named := ["bellwether/encode.codes"], loops := true, apart := false, laid := [("bellwether/encode.codes", laid_bellwether_encode_codes)], narrowed := true }
def EncodeDescsUptoSaid : Prop := encodeDescsUptoRow.holds Tryd.pinned (OpenSpec.upto encodeDescsSpec)

/-- 'bellwetherlaw06.DecodeBack', WHERE WHAT IT READS IS OF BULK AT MOST 1048576: true; the input reads as it did. -/
def decodeBackUptoRow : OpenClaim := { program := "ytdobhepmepalpaadoor", sum := "b2d69bc47909b5783d0a7117334b2e38a59196c3a61af34e29897d0feb5200f1", func := "bellwether/bellwetherlaw06.DecodeBack", spec := "decodeBack", unfollowed := true, recurses := true, named := ["bellwether/decode.kinds", "bellwether/encode.codes"], loops := true, apart := false, laid := [("bellwether/decode.kinds", laid_bellwether_decode_kinds), ("bellwether/encode.codes", laid_bellwether_encode_codes)], narrowed := true }
def DecodeBackUptoSaid : Prop := decodeBackUptoRow.holds Tryd.pinned (OpenSpec.upto decodeBackSpec)

/-- 'bellwetherlaw06.DecodeShorter', WHERE WHAT IT READS IS OF BULK AT MOST 1048576: true; the input reads as it did. -/
def decodeShorterUptoRow : OpenClaim := { program := "ytdobhepmepalpaadoor", sum := "b2d69bc47909b5783d0a7117334b2e38a59196c3a61af34e29897d0feb5200f1", func := "bellwether/bellwetherlaw06.DecodeShorter", spec := "decodeShorter", unfollowed := true, recurses := true, named := ["bellwether/decode.kinds", "bellwether/encode.codes"], apart := false, laid := [("bellwether/decode.kinds", laid_bellwether_decode_kinds), ("bellwether/encode.codes", laid_bellwether_encode_codes)], narrowed := true }
def DecodeShorterUptoSaid : Prop := decodeShorterUptoRow.holds Tryd.pinned (OpenSpec.upto decodeShorterSpec)

/-- 'bellwetherlaw06.DecodeWide', WHERE WHAT IT READS IS OF BULK AT MOST 1048576: true; the input reads as it did. -/
def decodeWideUptoRow : OpenClaim := { program := "ytdobhepmepalpaadoor", sum := "b2d69bc47909b5783d0a7117334b2e38a59196c3a61af34e29897d0feb5200f1", func := "bellwether/bellwetherlaw06.DecodeWide", spec := "decodeWide", unfollowed := true, recurses := true, named := ["bellwether/decode.kinds", "bellwether/encode.codes"], loops := true, apart := false, laid := [("bellwether/decode.kinds", laid_bellwether_decode_kinds), ("bellwether/encode.codes", laid_bellwether_encode_codes)], narrowed := true }
def DecodeWideUptoSaid : Prop := decodeWideUptoRow.holds Tryd.pinned (OpenSpec.upto decodeWideSpec)

end Rows
end Go.Proofs.YtdobhepmepalpaaDoor
