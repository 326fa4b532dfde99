/-
  NARROWER THAN 'FOR EVERY INPUT', by the rows' own cells (each row's printed sentence says how): SplitRefuses: laid · SplitAborts: laid · SplitNil: laid.
  DERIVED. THE GIVEN ROWS OF THIS SEAT. 3 by the template 'for every input the law returns true; each argument reads behind the call as it read before'; 0 by the template 'total and deterministic' (their statements: YtmhpipnapobbiaaGreatDoorRRRRTotals.lean).
  GIVEN WITH THE SEED: the statements are not yours to turn. If you find one false, say at which input.
  Laid BY PROGRAM, IN A SANDBOX (cutbox-rows.mjs): the forced cells as the released guide's own fill.sh prints them over the translation 8130958ce6ba562a… (all of the seat's roots in one cut). By AI agents, Wed Nov 11 2026. No macro, syntax, notation, axiom, sorry.
-/
import Derived.Test.YtmhpipnapobbiaaGreatDoorRRRRChecked
import GoSem.Claim
import GoSem.ClaimJoined
import GoSem.ClaimMapViews
import Derived.JoinedTies
import Derived.KernelRfl
namespace Go.Proofs.YtmhpipnapobbiaaGreatDoorRRRR
/- THE CELL 'sum', in the pinned program and in every row, IS THE sha256 OF THE DUMP (.gsa) THAT YtmhpipnapobbiaaGreatDoorRRRRProg.lean LOADS. Nothing in Lean hashes anything: it is a label: what it is worth is what the hold of that sum in a sandbox is worth. -/
noncomputable def Tryz.pinned : Pinned := { name := "ytmhpipnapobbiaagreatdoorrrrr", sum := "8130958ce6ba562a225f0a7b809baa39c3dff8f052a1aca23d0f558ac355086e", checked := Tryz.checked }
namespace Rows
def none {H : Type} : Left H := { results := [], args := [] }

/- WHAT THE LISTED PACKAGE-LEVEL VARIABLES READ AS WHEN THE CALL BEGINS. Each datum BY PROGRAM (the guide's laid-datum.mjs) off the statement by which the dump's own 'gosem.cut.vars' lays the variable. In a bare row this is a premise. The card (YtmhpipnapobbiaaGreatDoorRRRRCards.lean) ties it to the program's text. -/
def laid_bellwether_encode_codes {H : Type} : DataW H := .map [(.int .u8 1, .lit (.int .u8 64)), (.int .u8 3, .lit (.int .u8 80)), (.int .u8 4, .lit (.int .u8 96)), (.int .u8 7, .lit (.int .u8 81)), (.int .u8 8, .lit (.int .u8 97)), (.int .u8 11, .lit (.int .u8 114)), (.int .u8 12, .lit (.int .u8 130)), (.int .u8 13, .lit (.int .u8 115)), (.int .u8 14, .lit (.int .u8 131)), (.int .u8 15, .lit (.int .u8 152)), (.int .u8 16, .lit (.int .u8 116)), (.int .u8 17, .lit (.int .u8 132)), (.int .u8 18, .lit (.int .u8 148))]

/-- 'bellwetherlaw17.SplitRefuses': WHATEVER THE INPUT: true; the input reads as it did. -/
def splitRefusesSpec : ChangeSpec := { name := "splitRefuses", fn := fun _ => fun
  | [d1, d2, d3, d4] => { results := [.lit (.bool true)], args := [d1, d2, d3, d4] }
  | _ => none }
def splitRefusesRow : OpenClaim := { program := "ytmhpipnapobbiaagreatdoorrrrr", sum := "8130958ce6ba562a225f0a7b809baa39c3dff8f052a1aca23d0f558ac355086e", func := "bellwether/bellwetherlaw17.SplitRefuses", spec := "splitRefuses", unfollowed := true, recurses := true, named := ["bellwether/encode.codes"], apart := false, laid := [("bellwether/encode.codes", laid_bellwether_encode_codes)] }
def SplitRefusesSaid : Prop := splitRefusesRow.holds Tryz.pinned (OpenSpec.ofChange splitRefusesSpec)

/-- ITS FALSE NEIGHBOUR: 'it returns false'. Refute it at one input. -/
def splitRefusesWrong : ChangeSpec := { name := "splitRefuses", fn := fun _ => fun
  | [d1, d2, d3, d4] => { results := [.lit (.bool false)], args := [d1, d2, d3, d4] }
  | _ => none }
def SplitRefusesWrongFalsely : Prop := splitRefusesRow.holds Tryz.pinned (OpenSpec.ofChange splitRefusesWrong)

/-- 'bellwetherlaw17.SplitAborts': WHATEVER THE INPUT: true; the input reads as it did. -/
def splitAbortsSpec : ChangeSpec := { name := "splitAborts", fn := fun _ => fun
  | [d1, d2] => { results := [.lit (.bool true)], args := [d1, d2] }
  | _ => none }
def splitAbortsRow : OpenClaim := { program := "ytmhpipnapobbiaagreatdoorrrrr", sum := "8130958ce6ba562a225f0a7b809baa39c3dff8f052a1aca23d0f558ac355086e", func := "bellwether/bellwetherlaw17.SplitAborts", spec := "splitAborts", unfollowed := true, recurses := true, named := ["bellwether/encode.codes"], apart := false, laid := [("bellwether/encode.codes", laid_bellwether_encode_codes)] }
def SplitAbortsSaid : Prop := splitAbortsRow.holds Tryz.pinned (OpenSpec.ofChange splitAbortsSpec)

/-- ITS FALSE NEIGHBOUR: 'it returns false'. Refute it at one input. -/
def splitAbortsWrong : ChangeSpec := { name := "splitAborts", fn := fun _ => fun
  | [d1, d2] => { results := [.lit (.bool false)], args := [d1, d2] }
  | _ => none }
def SplitAbortsWrongFalsely : Prop := splitAbortsRow.holds Tryz.pinned (OpenSpec.ofChange splitAbortsWrong)

/-- 'bellwetherlaw17.SplitNil': WHATEVER THE INPUT: true; the input reads as it did. -/
def splitNilSpec : ChangeSpec := { name := "splitNil", fn := fun _ => fun
  | [d] => { results := [.lit (.bool true)], args := [d] }
  | _ => none }
def splitNilRow : OpenClaim := { program := "ytmhpipnapobbiaagreatdoorrrrr", sum := "8130958ce6ba562a225f0a7b809baa39c3dff8f052a1aca23d0f558ac355086e", func := "bellwether/bellwetherlaw17.SplitNil", spec := "splitNil", unfollowed := true, recurses := true, named := ["bellwether/encode.codes"], apart := false, laid := [("bellwether/encode.codes", laid_bellwether_encode_codes)] }
def SplitNilSaid : Prop := splitNilRow.holds Tryz.pinned (OpenSpec.ofChange splitNilSpec)

/-- ITS FALSE NEIGHBOUR: 'it returns false'. Refute it at one input. -/
def splitNilWrong : ChangeSpec := { name := "splitNil", fn := fun _ => fun
  | [d] => { results := [.lit (.bool false)], args := [d] }
  | _ => none }
def SplitNilWrongFalsely : Prop := splitNilRow.holds Tryz.pinned (OpenSpec.ofChange splitNilWrong)

/- THE SECOND FORM. 'bulk': how many values and letters a reading holds, each counted each time it is reached (what is shared counts as often as it is met; a slice's spare places count too). A statement '..UptoSaid' is the law's where the arguments, and the package variables that the reading takes, are together of bulk at most 1048576: NARROWER than '..Said'. Prove '..Said' where nothing that the law and all that it calls make is longer than what came in: it says more and counts as full. Else prove '..UptoSaid'. A law counts once. -/
mutual
def uptoBulk {H : Type} : DataW H → Nat
  | .lit (.string bytes) => bytes.length + 1
  | .lit _ => 1
  | .nil => 1
  | .ptr d => uptoBulk d + 1
  | .slice elems spare => uptoBulkAll elems + uptoBulkAll spare + 1
  | .agg parts => uptoBulkAll parts + 1
  | .iface _ d => uptoBulk d + 1
  | .map entries => uptoBulkEntries entries + 1
  | .held _ => 1
def uptoBulkAll {H : Type} : List (DataW H) → Nat
  | [] => 0
  | d :: r => uptoBulk d + uptoBulkAll r
def uptoBulkEntries {H : Type} : List (Lit × DataW H) → Nat
  | [] => 0
  | x :: r => uptoBulkEntry x + uptoBulkEntries r
def uptoBulkEntry {H : Type} : Lit × DataW H → Nat
  | (.string bytes, d) => bytes.length + uptoBulk d + 1
  | (_, d) => uptoBulk d + 1
 end
def uptoSmall : (H : Type) → List (DataW H) → Bool := fun _ ds => decide (uptoBulkAll ds ≤ 1048576)
def OpenSpec.upto (s : _root_.Go.ChangeSpec) : _root_.Go.OpenSpec := { _root_.Go.OpenSpec.ofChange s with cond := some uptoSmall }

/-- 'bellwetherlaw17.SplitRefuses', WHERE WHAT IT READS IS OF BULK AT MOST 1048576: true; the input reads as it did. -/
def splitRefusesUptoRow : OpenClaim := { program := "ytmhpipnapobbiaagreatdoorrrrr", sum := "8130958ce6ba562a225f0a7b809baa39c3dff8f052a1aca23d0f558ac355086e", func := "bellwether/bellwetherlaw17.SplitRefuses", spec := "splitRefuses", unfollowed := true, recurses := true, named := ["bellwether/encode.codes"], apart := false, laid := [("bellwether/encode.codes", laid_bellwether_encode_codes)], narrowed := true }
def SplitRefusesUptoSaid : Prop := splitRefusesUptoRow.holds Tryz.pinned (OpenSpec.upto splitRefusesSpec)

/-- 'bellwetherlaw17.SplitAborts', WHERE WHAT IT READS IS OF BULK AT MOST 1048576: true; the input reads as it did. -/
def splitAbortsUptoRow : OpenClaim := { program := "ytmhpipnapobbiaagreatdoorrrrr", sum := "8130958ce6ba562a225f0a7b809baa39c3dff8f052a1aca23d0f558ac355086e", func := "bellwether/bellwetherlaw17.SplitAborts", spec := "splitAborts", unfollowed := true, recurses := true, named := ["bellwether/encode.codes"], apart := false, laid := [("bellwether/encode.codes", laid_bellwether_encode_codes)], narrowed := true }
def SplitAbortsUptoSaid : Prop := splitAbortsUptoRow.holds Tryz.pinned (OpenSpec.upto splitAbortsSpec)

/-- 'bellwetherlaw17.SplitNil', WHERE WHAT IT READS IS OF BULK AT MOST 1048576: true; the input reads as it did. -/
def splitNilUptoRow : OpenClaim := { program := "ytmhpipnapobbiaagreatdoorrrrr", sum := "8130958ce6ba562a225f0a7b809baa39c3dff8f052a1aca23d0f558ac355086e", func := "bellwether/bellwetherlaw17.SplitNil", spec := "splitNil", unfollowed := true, recurses := true, named := ["bellwether/encode.codes"], apart := false, laid := [("bellwether/encode.codes", laid_bellwether_encode_codes)], narrowed := true }
def SplitNilUptoSaid : Prop := splitNilUptoRow.holds Tryz.pinned (OpenSpec.upto splitNilSpec)

end Rows
end Go.Proofs.YtmhpipnapobbiaaGreatDoorRRRR
