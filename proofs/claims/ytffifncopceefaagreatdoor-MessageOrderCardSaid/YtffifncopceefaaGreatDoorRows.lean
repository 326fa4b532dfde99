/-
  NARROWER THAN 'FOR EVERY INPUT', by the rows' own cells (each row's printed sentence says how): MessagePuts: laid · MessageGets: laid · MessageBack: laid · MessageCuts: laid · MessageOrder: laid · MessageHeads: laid · MessageWhole: laid.
  DERIVED. THE GIVEN ROWS OF THIS SEAT. 7 by the template 'for every input the law returns true; each argument reads behind the call as it read before'; 0 by the template 'total and deterministic' (their statements: YtffifncopceefaaGreatDoorTotals.lean).
  GIVEN WITH THE SEED: the statements are not yours to turn. If you find one false, say at which input.
  Laid BY PROGRAM, IN A SANDBOX (cutbox-rows.mjs): the forced cells as the released guide's own fill.sh prints them over the translation 6ed25af0e758d186… (all of the seat's roots in one cut). By AI agents, Wed Nov 11 2026. No macro, syntax, notation, axiom, sorry.
-/
import Derived.Test.YtffifncopceefaaGreatDoorChecked
import GoSem.Claim
import GoSem.ClaimJoined
import GoSem.ClaimMapViews
import Derived.JoinedTies
import Derived.KernelRfl
namespace Go.Proofs.YtffifncopceefaaGreatDoor
/- THE CELL 'sum', in the pinned program and in every row, IS THE sha256 OF THE DUMP (.gsa) THAT YtffifncopceefaaGreatDoorProg.lean LOADS. Nothing in Lean hashes anything: it is a label: what it is worth is what the hold of that sum in a sandbox is worth. -/
noncomputable def Tryz.pinned : Pinned := { name := "ytffifncopceefaagreatdoor", sum := "6ed25af0e758d1865c6e53279b1cbe13b5465d0f666e4a1a4f22ace1c37581a0", checked := Tryz.checked }
namespace Rows
def none {H : Type} : Left H := { results := [], args := [] }

/- WHAT THE LISTED PACKAGE-LEVEL VARIABLES READ AS WHEN THE CALL BEGINS. Each datum BY PROGRAM (the guide's laid-datum.mjs) off the statement by which the dump's own 'gosem.cut.vars' lays the variable. In a bare row this is a premise. The card (YtffifncopceefaaGreatDoorCards.lean) ties it to the program's text. -/
def laid_bellwether_decode_kinds {H : Type} : DataW H := .map [(.int .u8 64, .lit (.int .u8 1)), (.int .u8 65, .lit (.int .u8 2)), (.int .u8 66, .lit (.int .u8 2)), (.int .u8 67, .lit (.int .u8 5)), (.int .u8 68, .lit (.int .u8 6)), (.int .u8 69, .lit (.int .u8 22)), (.int .u8 80, .lit (.int .u8 3)), (.int .u8 81, .lit (.int .u8 7)), (.int .u8 82, .lit (.int .u8 5)), (.int .u8 83, .lit (.int .u8 6)), (.int .u8 84, .lit (.int .u8 9)), (.int .u8 85, .lit (.int .u8 10)), (.int .u8 86, .lit (.int .u8 2)), (.int .u8 96, .lit (.int .u8 4)), (.int .u8 97, .lit (.int .u8 8)), (.int .u8 112, .lit (.int .u8 5)), (.int .u8 113, .lit (.int .u8 9)), (.int .u8 114, .lit (.int .u8 11)), (.int .u8 115, .lit (.int .u8 13)), (.int .u8 116, .lit (.int .u8 16)), (.int .u8 128, .lit (.int .u8 6)), (.int .u8 129, .lit (.int .u8 10)), (.int .u8 130, .lit (.int .u8 12)), (.int .u8 131, .lit (.int .u8 14)), (.int .u8 132, .lit (.int .u8 17)), (.int .u8 148, .lit (.int .u8 18)), (.int .u8 152, .lit (.int .u8 15)), (.int .u8 160, .lit (.int .u8 19)), (.int .u8 161, .lit (.int .u8 20)), (.int .u8 163, .lit (.int .u8 21)), (.int .u8 176, .lit (.int .u8 19)), (.int .u8 177, .lit (.int .u8 20)), (.int .u8 179, .lit (.int .u8 21)), (.int .u8 192, .lit (.int .u8 22)), (.int .u8 193, .lit (.int .u8 23)), (.int .u8 208, .lit (.int .u8 22)), (.int .u8 209, .lit (.int .u8 23)), (.int .u8 224, .lit (.int .u8 24)), (.int .u8 240, .lit (.int .u8 24))]
def laid_bellwether_encode_codes {H : Type} : DataW H := .map [(.int .u8 1, .lit (.int .u8 64)), (.int .u8 3, .lit (.int .u8 80)), (.int .u8 4, .lit (.int .u8 96)), (.int .u8 7, .lit (.int .u8 81)), (.int .u8 8, .lit (.int .u8 97)), (.int .u8 11, .lit (.int .u8 114)), (.int .u8 12, .lit (.int .u8 130)), (.int .u8 13, .lit (.int .u8 115)), (.int .u8 14, .lit (.int .u8 131)), (.int .u8 15, .lit (.int .u8 152)), (.int .u8 16, .lit (.int .u8 116)), (.int .u8 17, .lit (.int .u8 132)), (.int .u8 18, .lit (.int .u8 148))]
def laid_bellwether_message_names {H : Type} : DataW H := .agg [.lit (.string [97, 109, 113, 112, 58, 104, 101, 97, 100, 101, 114, 58, 108, 105, 115, 116]), .lit (.string [97, 109, 113, 112, 58, 100, 101, 108, 105, 118, 101, 114, 121, 45, 97, 110, 110, 111, 116, 97, 116, 105, 111, 110, 115, 58, 109, 97, 112]), .lit (.string [97, 109, 113, 112, 58, 109, 101, 115, 115, 97, 103, 101, 45, 97, 110, 110, 111, 116, 97, 116, 105, 111, 110, 115, 58, 109, 97, 112]), .lit (.string [97, 109, 113, 112, 58, 112, 114, 111, 112, 101, 114, 116, 105, 101, 115, 58, 108, 105, 115, 116]), .lit (.string [97, 109, 113, 112, 58, 97, 112, 112, 108, 105, 99, 97, 116, 105, 111, 110, 45, 112, 114, 111, 112, 101, 114, 116, 105, 101, 115, 58, 109, 97, 112]), .lit (.string [97, 109, 113, 112, 58, 100, 97, 116, 97, 58, 98, 105, 110, 97, 114, 121]), .lit (.string [97, 109, 113, 112, 58, 97, 109, 113, 112, 45, 115, 101, 113, 117, 101, 110, 99, 101, 58, 108, 105, 115, 116]), .lit (.string [97, 109, 113, 112, 58, 97, 109, 113, 112, 45, 118, 97, 108, 117, 101, 58, 42]), .lit (.string [97, 109, 113, 112, 58, 102, 111, 111, 116, 101, 114, 58, 109, 97, 112])]

/-- 'bellwetherlaw10.MessagePuts': WHATEVER THE INPUT: true; the input reads as it did. -/
def messagePutsSpec : ChangeSpec := { name := "messagePuts", fn := fun _ => fun
  | [d] => { results := [.lit (.bool true)], args := [d] }
  | _ => none }
def messagePutsRow : OpenClaim := { program := "ytffifncopceefaagreatdoor", sum := "6ed25af0e758d1865c6e53279b1cbe13b5465d0f666e4a1a4f22ace1c37581a0", func := "bellwether/bellwetherlaw10.MessagePuts", spec := "messagePuts", unfollowed := true, recurses := true, named := ["bellwether/encode.codes", "bellwether/decode.kinds", "bellwether/message.names"], apart := false, laid := [("bellwether/decode.kinds", laid_bellwether_decode_kinds), ("bellwether/encode.codes", laid_bellwether_encode_codes), ("bellwether/message.names", laid_bellwether_message_names)] }
def MessagePutsSaid : Prop := messagePutsRow.holds Tryz.pinned (OpenSpec.ofChange messagePutsSpec)

/-- ITS FALSE NEIGHBOUR: 'it returns false'. Refute it at one input. -/
def messagePutsWrong : ChangeSpec := { name := "messagePuts", fn := fun _ => fun
  | [d] => { results := [.lit (.bool false)], args := [d] }
  | _ => none }
def MessagePutsWrongFalsely : Prop := messagePutsRow.holds Tryz.pinned (OpenSpec.ofChange messagePutsWrong)

/-- 'bellwetherlaw10.MessageGets': WHATEVER THE INPUT: true; the input reads as it did. -/
def messageGetsSpec : ChangeSpec := { name := "messageGets", fn := fun _ => fun
  | [d] => { results := [.lit (.bool true)], args := [d] }
  | _ => none }
def messageGetsRow : OpenClaim := { program := "ytffifncopceefaagreatdoor", sum := "6ed25af0e758d1865c6e53279b1cbe13b5465d0f666e4a1a4f22ace1c37581a0", func := "bellwether/bellwetherlaw10.MessageGets", spec := "messageGets", unfollowed := true, recurses := true, named := ["bellwether/encode.codes", "bellwether/decode.kinds", "bellwether/message.names"], apart := false, laid := [("bellwether/decode.kinds", laid_bellwether_decode_kinds), ("bellwether/encode.codes", laid_bellwether_encode_codes), ("bellwether/message.names", laid_bellwether_message_names)] }
def MessageGetsSaid : Prop := messageGetsRow.holds Tryz.pinned (OpenSpec.ofChange messageGetsSpec)

/-- ITS FALSE NEIGHBOUR: 'it returns false'. Refute it at one input. -/
def messageGetsWrong : ChangeSpec := { name := "messageGets", fn := fun _ => fun
  | [d] => { results := [.lit (.bool false)], args := [d] }
  | _ => none }
def MessageGetsWrongFalsely : Prop := messageGetsRow.holds Tryz.pinned (OpenSpec.ofChange messageGetsWrong)

/-- 'bellwetherlaw10.MessageBack': WHATEVER THE INPUT: true; the input reads as it did. -/
def messageBackSpec : ChangeSpec := { name := "messageBack", fn := fun _ => fun
  | [d1, d2] => { results := [.lit (.bool true)], args := [d1, d2] }
  | _ => none }
def messageBackRow : OpenClaim := { program := "ytffifncopceefaagreatdoor", sum := "6ed25af0e758d1865c6e53279b1cbe13b5465d0f666e4a1a4f22ace1c37581a0", func := "bellwether/bellwetherlaw10.MessageBack", spec := "messageBack", unfollowed := true, recurses := true, named := ["bellwether/encode.codes", "bellwether/decode.kinds", "bellwether/message.names"], apart := false, laid := [("bellwether/decode.kinds", laid_bellwether_decode_kinds), ("bellwether/encode.codes", laid_bellwether_encode_codes), ("bellwether/message.names", laid_bellwether_message_names)] }
def MessageBackSaid : Prop := messageBackRow.holds Tryz.pinned (OpenSpec.ofChange messageBackSpec)

/-- ITS FALSE NEIGHBOUR: 'it returns false'. Refute it at one input. -/
def messageBackWrong : ChangeSpec := { name := "messageBack", fn := fun _ => fun
  | [d1, d2] => { results := [.lit (.bool false)], args := [d1, d2] }
  | _ => none }
def MessageBackWrongFalsely : Prop := messageBackRow.holds Tryz.pinned (OpenSpec.ofChange messageBackWrong)

/-- 'bellwetherlaw10.MessageCuts': WHATEVER THE INPUT: true; the input reads as it did. -/
def messageCutsSpec : ChangeSpec := { name := "messageCuts", fn := fun _ => fun
  | [d1, d2] => { results := [.lit (.bool true)], args := [d1, d2] }
  | _ => none }
def messageCutsRow : OpenClaim := { program := "ytffifncopceefaagreatdoor", sum := "6ed25af0e758d1865c6e53279b1cbe13b5465d0f666e4a1a4f22ace1c37581a0", func := "bellwether/bellwetherlaw10.MessageCuts", spec := "messageCuts", unfollowed := true, recurses := true, named := ["bellwether/encode.codes", "bellwether/decode.kinds", "bellwether/message.names"], apart := false, laid := [("bellwether/decode.kinds", laid_bellwether_decode_kinds), ("bellwether/encode.codes", laid_bellwether_encode_codes), ("bellwether/message.names", laid_bellwether_message_names)] }
def MessageCutsSaid : Prop := messageCutsRow.holds Tryz.pinned (OpenSpec.ofChange messageCutsSpec)

/-- ITS FALSE NEIGHBOUR: 'it returns false'. Refute it at one input. -/
def messageCutsWrong : ChangeSpec := { name := "messageCuts", fn := fun _ => fun
  | [d1, d2] => { results := [.lit (.bool false)], args := [d1, d2] }
  | _ => none }
def MessageCutsWrongFalsely : Prop := messageCutsRow.holds Tryz.pinned (OpenSpec.ofChange messageCutsWrong)

/-- 'bellwetherlaw10.MessageOrder': WHATEVER THE INPUT: true; the input reads as it did. -/
def messageOrderSpec : ChangeSpec := { name := "messageOrder", fn := fun _ => fun
  | [d] => { results := [.lit (.bool true)], args := [d] }
  | _ => none }
def messageOrderRow : OpenClaim := { program := "ytffifncopceefaagreatdoor", sum := "6ed25af0e758d1865c6e53279b1cbe13b5465d0f666e4a1a4f22ace1c37581a0", func := "bellwether/bellwetherlaw10.MessageOrder", spec := "messageOrder", unfollowed := true, recurses := true, named := ["bellwether/encode.codes", "bellwether/decode.kinds", "bellwether/message.names"], apart := false, laid := [("bellwether/decode.kinds", laid_bellwether_decode_kinds), ("bellwether/encode.codes", laid_bellwether_encode_codes), ("bellwether/message.names", laid_bellwether_message_names)] }
def MessageOrderSaid : Prop := messageOrderRow.holds Tryz.pinned (OpenSpec.ofChange messageOrderSpec)

/-- ITS FALSE NEIGHBOUR: 'it returns false'. Refute it at one input. -/
def messageOrderWrong : ChangeSpec := { name := "messageOrder", fn := fun _ => fun
  | [d] => { results := [.lit (.bool false)], args := [d] }
  | _ => none }
def MessageOrderWrongFalsely : Prop := messageOrderRow.holds Tryz.pinned (OpenSpec.ofChange messageOrderWrong)

/-- 'bellwetherlaw10.MessageHeads': WHATEVER THE INPUT: true; the input reads as it did. -/
def messageHeadsSpec : ChangeSpec := { name := "messageHeads", fn := fun _ => fun
  | [d1, d2] => { results := [.lit (.bool true)], args := [d1, d2] }
  | _ => none }
def messageHeadsRow : OpenClaim := { program := "ytffifncopceefaagreatdoor", sum := "6ed25af0e758d1865c6e53279b1cbe13b5465d0f666e4a1a4f22ace1c37581a0", func := "bellwether/bellwetherlaw10.MessageHeads", spec := "messageHeads", unfollowed := true, recurses := true, named := ["bellwether/encode.codes", "bellwether/decode.kinds", "bellwether/message.names"], apart := false, laid := [("bellwether/decode.kinds", laid_bellwether_decode_kinds), ("bellwether/encode.codes", laid_bellwether_encode_codes), ("bellwether/message.names", laid_bellwether_message_names)] }
def MessageHeadsSaid : Prop := messageHeadsRow.holds Tryz.pinned (OpenSpec.ofChange messageHeadsSpec)

/-- ITS FALSE NEIGHBOUR: 'it returns false'. Refute it at one input. -/
def messageHeadsWrong : ChangeSpec := { name := "messageHeads", fn := fun _ => fun
  | [d1, d2] => { results := [.lit (.bool false)], args := [d1, d2] }
  | _ => none }
def MessageHeadsWrongFalsely : Prop := messageHeadsRow.holds Tryz.pinned (OpenSpec.ofChange messageHeadsWrong)

/-- 'bellwetherlaw10.MessageWhole': WHATEVER THE INPUT: true; the input reads as it did. -/
def messageWholeSpec : ChangeSpec := { name := "messageWhole", fn := fun _ => fun
  | [d1, d2, d3] => { results := [.lit (.bool true)], args := [d1, d2, d3] }
  | _ => none }
def messageWholeRow : OpenClaim := { program := "ytffifncopceefaagreatdoor", sum := "6ed25af0e758d1865c6e53279b1cbe13b5465d0f666e4a1a4f22ace1c37581a0", func := "bellwether/bellwetherlaw10.MessageWhole", spec := "messageWhole", unfollowed := true, recurses := true, named := ["bellwether/encode.codes", "bellwether/decode.kinds", "bellwether/message.names"], apart := false, laid := [("bellwether/decode.kinds", laid_bellwether_decode_kinds), ("bellwether/encode.codes", laid_bellwether_encode_codes), ("bellwether/message.names", laid_bellwether_message_names)] }
def MessageWholeSaid : Prop := messageWholeRow.holds Tryz.pinned (OpenSpec.ofChange messageWholeSpec)

/-- ITS FALSE NEIGHBOUR: 'it returns false'. Refute it at one input. -/
def messageWholeWrong : ChangeSpec := { name := "messageWhole", fn := fun _ => fun
  | [d1, d2, d3] => { results := [.lit (.bool false)], args := [d1, d2, d3] }
  | _ => none }
def MessageWholeWrongFalsely : Prop := messageWholeRow.holds Tryz.pinned (OpenSpec.ofChange messageWholeWrong)

/- THE SECOND FORM. 'bulk': how many values and letters a reading holds, each counted each time it is reached (what is shared counts as often as it is met; a slice's spare places count too). A statement '..UptoSaid' is the law's where the arguments, and the package variables that the reading takes, are together of bulk at most 1048576: NARROWER than '..Said'. Prove '..Said' where nothing that the law and all that it calls make is longer than what came in: it says more and counts as full. Else prove '..UptoSaid'. A law counts once. -/
mutual
def uptoBulk {H : Type} : DataW H → Nat
  | .lit (.string bytes) => bytes.length + 1
  | .lit _ => 1
  | .nil => 1
  | .ptr d => uptoBulk d + 1
  | .slice elems spare => uptoBulkAll elems + uptoBulkAll spare + 1
  | .agg parts => uptoBulkAll parts + 1
  | .iface _ d => uptoBulk d + 1
  | .map entries => uptoBulkEntries entries + 1
  | .held _ => 1
def uptoBulkAll {H : Type} : List (DataW H) → Nat
  | [] => 0
  | d :: r => uptoBulk d + uptoBulkAll r
def uptoBulkEntries {H : Type} : List (Lit × DataW H) → Nat
  | [] => 0
  | x :: r => uptoBulkEntry x + uptoBulkEntries r
def uptoBulkEntry {H : Type} : Lit × DataW H → Nat
  | (.string bytes, d) => bytes.length + uptoBulk d + 1
  | (_, d) => uptoBulk d + 1
 end
def uptoSmall : (H : Type) → List (DataW H) → Bool := fun _ ds => decide (uptoBulkAll ds ≤ 1048576)
def OpenSpec.upto (s : _root_.Go.ChangeSpec) : _root_.Go.OpenSpec := { _root_.Go.OpenSpec.ofChange s with cond := some uptoSmall }

/-- 'bellwetherlaw10.MessagePuts', WHERE WHAT IT READS IS OF BULK AT MOST 1048576: true; the input reads as it did. -/
def messagePutsUptoRow : OpenClaim := { program := "ytffifncopceefaagreatdoor", sum := "6ed25af0e758d1865c6e53279b1cbe13b5465d0f666e4a1a4f22ace1c37581a0", func := "bellwether/bellwetherlaw10.MessagePuts", spec := "messagePuts", unfollowed := true, recurses := true, named := ["bellwether/encode.codes", "bellwether/decode.kinds", "bellwether/message.names"], apart := false, laid := [("bellwether/decode.kinds", laid_bellwether_decode_kinds), ("bellwether/encode.codes", laid_bellwether_encode_codes), ("bellwether/message.names", laid_bellwether_message_names)], narrowed := true }
def MessagePutsUptoSaid : Prop := messagePutsUptoRow.holds Tryz.pinned (OpenSpec.upto messagePutsSpec)

/-- 'bellwetherlaw10.MessageGets', WHERE WHAT IT READS IS OF BULK AT MOST 1048576: true; the input reads as it did. -/
def messageGetsUptoRow : OpenClaim := { program := "ytffifncopceefaagreatdoor", sum := "6ed25af0e758d1865c6e53279b1cbe13b5465d0f666e4a1a4f22ace1c37581a0", func := "bellwether/bellwetherlaw10.MessageGets", spec := "messageGets", unfollowed := true, recurses := true, named := ["bellwether/encode.codes", "bellwether/decode.kinds", "bellwether/message.names"], apart := false, laid := [("bellwether/decode.kinds", laid_bellwether_decode_kinds), ("bellwether/encode.codes", laid_bellwether_encode_codes), ("bellwether/message.names", laid_bellwether_message_names)], narrowed := true }
def MessageGetsUptoSaid : Prop := messageGetsUptoRow.holds Tryz.pinned (OpenSpec.upto messageGetsSpec)

/-- 'bellwetherlaw10.MessageBack', WHERE WHAT IT READS IS OF BULK AT MOST 1048576: true; the input reads as it did. -/
def messageBackUptoRow : OpenClaim := { program := "ytffifncopceefaagreatdoor", sum := "6ed25af0e758d1865c6e53279b1cbe13b5465d0f666e4a1a4f22ace1c37581a0", func := "bellwether/bellwetherlaw10.MessageBack", spec := "messageBack", unfollowed := true, recurses := true, named := ["bellwether/encode.codes", "bellwether/decode.kinds", "bellwether/message.names"], apart := false, laid := [("bellwether/decode.kinds", laid_bellwether_decode_kinds), ("bellwether/encode.codes", laid_bellwether_encode_codes), ("bellwether/message.names", laid_bellwether_message_names)], narrowed := true }
def MessageBackUptoSaid : Prop := messageBackUptoRow.holds Tryz.pinned (OpenSpec.upto messageBackSpec)

/-- 'bellwetherlaw10.MessageCuts', WHERE WHAT IT READS IS OF BULK AT MOST 1048576: true; the input reads as it did. -/
def messageCutsUptoRow : OpenClaim := { program := "ytffifncopceefaagreatdoor", sum := "6ed25af0e758d1865c6e53279b1cbe13b5465d0f666e4a1a4f22ace1c37581a0", func := "bellwether/bellwetherlaw10.MessageCuts", spec := "messageCuts", unfollowed := true, recurses := true, named := ["bellwether/encode.codes", "bellwether/decode.kinds", "bellwether/message.names"], apart := false, laid := [("bellwether/decode.kinds", laid_bellwether_decode_kinds), ("bellwether/encode.codes", laid_bellwether_encode_codes), ("bellwether/message.names", laid_bellwether_message_names)], narrowed := true }
def MessageCutsUptoSaid : Prop := messageCutsUptoRow.holds Tryz.pinned (OpenSpec.upto messageCutsSpec)

/-- 'bellwetherlaw10.MessageOrder', WHERE WHAT IT READS IS OF BULK AT MOST 1048576: true; the input reads as it did. -/
def messageOrderUptoRow : OpenClaim := { program := "ytffifncopceefaagreatdoor", sum := "6ed25af0e758d1865c6e53279b1cbe13b5465d0f666e4a1a4f22ace1c37581a0", func := "bellwether/bellwetherlaw10.MessageOrder", spec := "messageOrder", unfollowed := true, recurses := true, named := ["bellwether/encode.codes", "bellwether/decode.kinds", "bellwether/message.names"], apart := false, laid := [("bellwether/decode.kinds", laid_bellwether_decode_kinds), ("bellwether/encode.codes", laid_bellwether_encode_codes), ("bellwether/message.names", laid_bellwether_message_names)], narrowed := true }
def MessageOrderUptoSaid : Prop := messageOrderUptoRow.holds Tryz.pinned (OpenSpec.upto messageOrderSpec)

/-- 'bellwetherlaw10.MessageHeads', WHERE WHAT IT READS IS OF BULK AT MOST 1048576: true; the input reads as it did. -/
def messageHeadsUptoRow : OpenClaim := { program := "ytffifncopceefaagreatdoor", sum := "6ed25af0e758d1865c6e53279b1cbe13b5465d0f666e4a1a4f22ace1c37581a0", func := "bellwether/bellwetherlaw10.MessageHeads", spec := "messageHeads", unfollowed := true, recurses := true, named := ["bellwether/encode.codes", "bellwether/decode.kinds", "bellwether/message.names"], apart := false, laid := [("bellwether/decode.kinds", laid_bellwether_decode_kinds), ("bellwether/encode.codes", laid_bellwether_encode_codes), ("bellwether/message.names", laid_bellwether_message_names)], narrowed := true }
def MessageHeadsUptoSaid : Prop := messageHeadsUptoRow.holds Tryz.pinned (OpenSpec.upto messageHeadsSpec)

/-- 'bellwetherlaw10.MessageWhole', WHERE WHAT IT READS IS OF BULK AT MOST 1048576: true; the input reads as it did. -/
def messageWholeUptoRow : OpenClaim := { program := "ytffifncopceefaagreatdoor", sum := "6ed25af0e758d1865c6e53279b1cbe13b5465d0f666e4a1a4f22ace1c37581a0", func := "bellwether/bellwetherlaw10.MessageWhole", spec := "messageWhole", unfollowed := true, recurses := true, named := ["bellwether/encode.codes", "bellwether/decode.kinds", "bellwether/message.names"], apart := false, laid := [("bellwether/decode.kinds", laid_bellwether_decode_kinds), ("bellwether/encode.codes", laid_bellwether_encode_codes), ("bellwether/message.names", laid_bellwether_message_names)], narrowed := true }
def MessageWholeUptoSaid : Prop := messageWholeUptoRow.holds Tryz.pinned (OpenSpec.upto messageWholeSpec)

end Rows
end Go.Proofs.YtffifncopceefaaGreatDoor
