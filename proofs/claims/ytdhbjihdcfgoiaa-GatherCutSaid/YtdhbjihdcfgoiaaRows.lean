/-
  NARROWER THAN 'FOR EVERY INPUT', by the rows' own cells (each row's printed sentence says how): ValueRights: loops · ValueMakes: loops · ValueSames: loops · ValueGets: loops · ValueKids: loops · ValueAlike: loops.
  DERIVED. THE GIVEN ROWS OF THIS SEAT. 12 by the template 'for every input the law returns true; each argument reads behind the call as it read before'; 0 by the template 'total and deterministic' (their statements: YtdhbjihdcfgoiaaTotals.lean).
  GIVEN WITH THE SEED: the statements are not yours to turn. If you find one false, say at which input.
  Laid BY PROGRAM, IN A SANDBOX (cutbox-rows.mjs): the forced cells as the released guide's own fill.sh prints them over the translation e7caff0adafd65be… (all of the seat's roots in one cut). By AI agents, Wed Nov 11 2026. No macro, syntax, notation, axiom, sorry.
-/
import Derived.Test.YtdhbjihdcfgoiaaChecked
import GoSem.Claim
import GoSem.ClaimJoined
import GoSem.ClaimMapViews
import Derived.JoinedTies
import Derived.KernelRfl
namespace Go.Proofs.Ytdhbjihdcfgoiaa
/- THE CELL 'sum', in the pinned program and in every row, IS THE sha256 OF THE DUMP (.gsa) THAT YtdhbjihdcfgoiaaProg.lean LOADS. Nothing in Lean hashes anything: it is a label: what it is worth is what the hold of that sum in a sandbox is worth. -/
noncomputable def Try.pinned : Pinned := { name := "ytdhbjihdcfgoiaa", sum := "e7caff0adafd65be65af979b197981b1ab8f6c53dd509a7439b422f6dd7a93c5", checked := Try.checked }
namespace Rows
def none {H : Type} : Left H := { results := [], args := [] }

/-- 'bellwetherlaw18.GatherPlays': WHATEVER THE INPUT: true; the input reads as it did. -/
def gatherPlaysSpec : ChangeSpec := { name := "gatherPlays", fn := fun _ => fun
  | [d1, d2] => { results := [.lit (.bool true)], args := [d1, d2] }
  | _ => none }
def gatherPlaysRow : OpenClaim := { program := "ytdhbjihdcfgoiaa", sum := "e7caff0adafd65be65af979b197981b1ab8f6c53dd509a7439b422f6dd7a93c5", func := "bellwether/bellwetherlaw18.GatherPlays", spec := "gatherPlays", apart := false }
def GatherPlaysSaid : Prop := gatherPlaysRow.holds Try.pinned (OpenSpec.ofChange gatherPlaysSpec)

/-- ITS FALSE NEIGHBOUR: 'it returns false'. Refute it at one input. -/
def gatherPlaysWrong : ChangeSpec := { name := "gatherPlays", fn := fun _ => fun
  | [d1, d2] => { results := [.lit (.bool false)], args := [d1, d2] }
  | _ => none }
def GatherPlaysWrongFalsely : Prop := gatherPlaysRow.holds Try.pinned (OpenSpec.ofChange gatherPlaysWrong)

/-- 'bellwetherlaw18.GatherOnce': WHATEVER THE INPUT: true; the input reads as it did. -/
def gatherOnceSpec : ChangeSpec := { name := "gatherOnce", fn := fun _ => fun
  | [d] => { results := [.lit (.bool true)], args := [d] }
  | _ => none }
def gatherOnceRow : OpenClaim := { program := "ytdhbjihdcfgoiaa", sum := "e7caff0adafd65be65af979b197981b1ab8f6c53dd509a7439b422f6dd7a93c5", func := "bellwether/bellwetherlaw18.GatherOnce", spec := "gatherOnce", apart := false }
def GatherOnceSaid : Prop := gatherOnceRow.holds Try.pinned (OpenSpec.ofChange gatherOnceSpec)

/-- ITS FALSE NEIGHBOUR: 'it returns false'. Refute it at one input. -/
def gatherOnceWrong : ChangeSpec := { name := "gatherOnce", fn := fun _ => fun
  | [d] => { results := [.lit (.bool false)], args := [d] }
  | _ => none }
def GatherOnceWrongFalsely : Prop := gatherOnceRow.holds Try.pinned (OpenSpec.ofChange gatherOnceWrong)

/-- 'bellwetherlaw18.GatherLimits': WHATEVER THE INPUT: true; the input reads as it did. -/
def gatherLimitsSpec : ChangeSpec := { name := "gatherLimits", fn := fun _ => fun
  | [d1, d2] => { results := [.lit (.bool true)], args := [d1, d2] }
  | _ => none }
def gatherLimitsRow : OpenClaim := { program := "ytdhbjihdcfgoiaa", sum := "e7caff0adafd65be65af979b197981b1ab8f6c53dd509a7439b422f6dd7a93c5", func := "bellwether/bellwetherlaw18.GatherLimits", spec := "gatherLimits", apart := false }
def GatherLimitsSaid : Prop := gatherLimitsRow.holds Try.pinned (OpenSpec.ofChange gatherLimitsSpec)

/-- ITS FALSE NEIGHBOUR: 'it returns false'. Refute it at one input. -/
def gatherLimitsWrong : ChangeSpec := { name := "gatherLimits", fn := fun _ => fun
  | [d1, d2] => { results := [.lit (.bool false)], args := [d1, d2] }
  | _ => none }
def GatherLimitsWrongFalsely : Prop := gatherLimitsRow.holds Try.pinned (OpenSpec.ofChange gatherLimitsWrong)

/-- 'bellwetherlaw18.GatherNil': WHATEVER THE INPUT: true; the input reads as it did. -/
def gatherNilSpec : ChangeSpec := { name := "gatherNil", fn := fun _ => fun
  | [d] => { results := [.lit (.bool true)], args := [d] }
  | _ => none }
def gatherNilRow : OpenClaim := { program := "ytdhbjihdcfgoiaa", sum := "e7caff0adafd65be65af979b197981b1ab8f6c53dd509a7439b422f6dd7a93c5", func := "bellwether/bellwetherlaw18.GatherNil", spec := "gatherNil", apart := false }
def GatherNilSaid : Prop := gatherNilRow.holds Try.pinned (OpenSpec.ofChange gatherNilSpec)

/-- ITS FALSE NEIGHBOUR: 'it returns false'. Refute it at one input. -/
def gatherNilWrong : ChangeSpec := { name := "gatherNil", fn := fun _ => fun
  | [d] => { results := [.lit (.bool false)], args := [d] }
  | _ => none }
def GatherNilWrongFalsely : Prop := gatherNilRow.holds Try.pinned (OpenSpec.ofChange gatherNilWrong)

/-- 'bellwetherlaw18.GatherCut': WHATEVER THE INPUT: true; the input reads as it did. -/
def gatherCutSpec : ChangeSpec := { name := "gatherCut", fn := fun _ => fun
  | [d1, d2, d3, d4, d5, d6] => { results := [.lit (.bool true)], args := [d1, d2, d3, d4, d5, d6] }
  | _ => none }
def gatherCutRow : OpenClaim := { program := "ytdhbjihdcfgoiaa", sum := "e7caff0adafd65be65af979b197981b1ab8f6c53dd509a7439b422f6dd7a93c5", func := "bellwether/bellwetherlaw18.GatherCut", spec := "gatherCut", apart := false }
def GatherCutSaid : Prop := gatherCutRow.holds Try.pinned (OpenSpec.ofChange gatherCutSpec)

/-- ITS FALSE NEIGHBOUR: 'it returns false'. Refute it at one input. -/
def gatherCutWrong : ChangeSpec := { name := "gatherCut", fn := fun _ => fun
  | [d1, d2, d3, d4, d5, d6] => { results := [.lit (.bool false)], args := [d1, d2, d3, d4, d5, d6] }
  | _ => none }
def GatherCutWrongFalsely : Prop := gatherCutRow.holds Try.pinned (OpenSpec.ofChange gatherCutWrong)

/-- 'bellwetherlaw04.ValueRights': WHATEVER THE INPUT: true; the input reads as it did. -/
def valueRightsSpec : ChangeSpec := { name := "valueRights", fn := fun _ => fun
  | [d] => { results := [.lit (.bool true)], args := [d] }
  | _ => none }
def valueRightsRow : OpenClaim := { program := "ytdhbjihdcfgoiaa", sum := "e7caff0adafd65be65af979b197981b1ab8f6c53dd509a7439b422f6dd7a93c5", func := "bellwether/bellwetherlaw04.ValueRights", spec := "valueRights", unfollowed := true, recurses := true, loops := true, apart := false }
def ValueRightsSaid : Prop := valueRightsRow.holds Try.pinned (OpenSpec.ofChange valueRightsSpec)

/-- ITS FALSE NEIGHBOUR: 'it returns false'. Refute it at one input. -/
def valueRightsWrong : ChangeSpec := { name := "valueRights", fn := fun _ => fun
  | [d] => { results := [.lit (.bool false)], args := [d] }
  | _ => none }
def ValueRightsWrongFalsely : Prop := valueRightsRow.holds Try.pinned (OpenSpec.ofChange valueRightsWrong)

/-- 'bellwetherlaw04.ValueMakes': WHATEVER THE INPUT: true; the input reads as it did. -/
def valueMakesSpec : ChangeSpec := { name := "valueMakes", fn := fun _ => fun
  | [d1, d2, d3, d4] => { results := [.lit (.bool true)], args := [d1, d2, d3, d4] }
  | _ => none }
def valueMakesRow : OpenClaim := { program := "ytdhbjihdcfgoiaa", sum := "e7caff0adafd65be65af979b197981b1ab8f6c53dd509a7439b422f6dd7a93c5", func := "bellwether/bellwetherlaw04.ValueMakes", spec := "valueMakes", unfollowed := true, recurses := true, loops := true, apart := false }
def ValueMakesSaid : Prop := valueMakesRow.holds Try.pinned (OpenSpec.ofChange valueMakesSpec)

/-- ITS FALSE NEIGHBOUR: 'it returns false'. Refute it at one input. -/
def valueMakesWrong : ChangeSpec := { name := "valueMakes", fn := fun _ => fun
  | [d1, d2, d3, d4] => { results := [.lit (.bool false)], args := [d1, d2, d3, d4] }
  | _ => none }
def ValueMakesWrongFalsely : Prop := valueMakesRow.holds Try.pinned (OpenSpec.ofChange valueMakesWrong)

/-- 'bellwetherlaw04.ValueSames': WHATEVER THE INPUT: true; the input reads as it did. -/
def valueSamesSpec : ChangeSpec := { name := "valueSames", fn := fun _ => fun
  | [d1, d2] => { results := [.lit (.bool true)], args := [d1, d2] }
  | _ => none }
def valueSamesRow : OpenClaim := { program := "ytdhbjihdcfgoiaa", sum := "e7caff0adafd65be65af979b197981b1ab8f6c53dd509a7439b422f6dd7a93c5", func := "bellwether/bellwetherlaw04.ValueSames", spec := "valueSames", unfollowed := true, recurses := true, loops := true, apart := false }
def ValueSamesSaid : Prop := valueSamesRow.holds Try.pinned (OpenSpec.ofChange valueSamesSpec)

/-- ITS FALSE NEIGHBOUR: 'it returns false'. Refute it at one input. -/
def valueSamesWrong : ChangeSpec := { name := "valueSames", fn := fun _ => fun
  | [d1, d2] => { results := [.lit (.bool false)], args := [d1, d2] }
  | _ => none }
def ValueSamesWrongFalsely : Prop := valueSamesRow.holds Try.pinned (OpenSpec.ofChange valueSamesWrong)

/-- 'bellwetherlaw04.ValueGets': WHATEVER THE INPUT: true; the input reads as it did. -/
def valueGetsSpec : ChangeSpec := { name := "valueGets", fn := fun _ => fun
  | [d1, d2] => { results := [.lit (.bool true)], args := [d1, d2] }
  | _ => none }
def valueGetsRow : OpenClaim := { program := "ytdhbjihdcfgoiaa", sum := "e7caff0adafd65be65af979b197981b1ab8f6c53dd509a7439b422f6dd7a93c5", func := "bellwether/bellwetherlaw04.ValueGets", spec := "valueGets", unfollowed := true, recurses := true, loops := true, apart := false }
def ValueGetsSaid : Prop := valueGetsRow.holds Try.pinned (OpenSpec.ofChange valueGetsSpec)

/-- ITS FALSE NEIGHBOUR: 'it returns false'. Refute it at one input. -/
def valueGetsWrong : ChangeSpec := { name := "valueGets", fn := fun _ => fun
  | [d1, d2] => { results := [.lit (.bool false)], args := [d1, d2] }
  | _ => none }
def ValueGetsWrongFalsely : Prop := valueGetsRow.holds Try.pinned (OpenSpec.ofChange valueGetsWrong)

/-- 'bellwetherlaw04.ValueKids': WHATEVER THE INPUT: true; the input reads as it did. -/
def valueKidsSpec : ChangeSpec := { name := "valueKids", fn := fun _ => fun
  | [d1, d2] => { results := [.lit (.bool true)], args := [d1, d2] }
  | _ => none }
def valueKidsRow : OpenClaim := { program := "ytdhbjihdcfgoiaa", sum := "e7caff0adafd65be65af979b197981b1ab8f6c53dd509a7439b422f6dd7a93c5", func := "bellwether/bellwetherlaw04.ValueKids", spec := "valueKids", unfollowed := true, recurses := true, loops := true, apart := false }
def ValueKidsSaid : Prop := valueKidsRow.holds Try.pinned (OpenSpec.ofChange valueKidsSpec)

/-- ITS FALSE NEIGHBOUR: 'it returns false'. Refute it at one input. -/
def valueKidsWrong : ChangeSpec := { name := "valueKids", fn := fun _ => fun
  | [d1, d2] => { results := [.lit (.bool false)], args := [d1, d2] }
  | _ => none }
def ValueKidsWrongFalsely : Prop := valueKidsRow.holds Try.pinned (OpenSpec.ofChange valueKidsWrong)

/-- 'bellwetherlaw04.ValueRanges': WHATEVER THE INPUT: true; the input reads as it did. -/
def valueRangesSpec : ChangeSpec := { name := "valueRanges", fn := fun _ => fun
  | [d] => { results := [.lit (.bool true)], args := [d] }
  | _ => none }
def valueRangesRow : OpenClaim := { program := "ytdhbjihdcfgoiaa", sum := "e7caff0adafd65be65af979b197981b1ab8f6c53dd509a7439b422f6dd7a93c5", func := "bellwether/bellwetherlaw04.ValueRanges", spec := "valueRanges", unfollowed := true, recurses := true, apart := false }
def ValueRangesSaid : Prop := valueRangesRow.holds Try.pinned (OpenSpec.ofChange valueRangesSpec)

/-- ITS FALSE NEIGHBOUR: 'it returns false'. Refute it at one input. -/
def valueRangesWrong : ChangeSpec := { name := "valueRanges", fn := fun _ => fun
  | [d] => { results := [.lit (.bool false)], args := [d] }
  | _ => none }
def ValueRangesWrongFalsely : Prop := valueRangesRow.holds Try.pinned (OpenSpec.ofChange valueRangesWrong)

/-- 'bellwetherlaw04.ValueAlike': WHATEVER THE INPUT: true; the input reads as it did. -/
def valueAlikeSpec : ChangeSpec := { name := "valueAlike", fn := fun _ => fun
  | [d] => { results := [.lit (.bool true)], args := [d] }
  | _ => none }
def valueAlikeRow : OpenClaim := { program := "ytdhbjihdcfgoiaa", sum := "e7caff0adafd65be65af979b197981b1ab8f6c53dd509a7439b422f6dd7a93c5", func := "bellwether/bellwetherlaw04.ValueAlike", spec := "valueAlike", unfollowed := true, recurses := true, loops := true, apart := false }
def ValueAlikeSaid : Prop := valueAlikeRow.holds Try.pinned (OpenSpec.ofChange valueAlikeSpec)

/-- ITS FALSE NEIGHBOUR: 'it returns false'. Refute it at one input. -/
def valueAlikeWrong : ChangeSpec := { name := "valueAlike", fn := fun _ => fun
  | [d] => { results := [.lit (.bool false)], args := [d] }
  | _ => none }
def ValueAlikeWrongFalsely : Prop := valueAlikeRow.holds Try.pinned (OpenSpec.ofChange valueAlikeWrong)

/- THE SECOND FORM. 'bulk': how many values and letters a reading holds, each counted each time it is reached (what is shared counts as often as it is met; a slice's spare places count too). A statement '..UptoSaid' is the law's where the arguments, and the package variables that the reading takes, are together of bulk at most 1048576: NARROWER than '..Said'. Prove '..Said' where nothing that the law and all that it calls make is longer than what came in: it says more and counts as full. Else prove '..UptoSaid'. A law counts once. -/
mutual
def uptoBulk {H : Type} : DataW H → Nat
  | .lit (.string bytes) => bytes.length + 1
  | .lit _ => 1
  | .nil => 1
  | .ptr d => uptoBulk d + 1
  | .slice elems spare => uptoBulkAll elems + uptoBulkAll spare + 1
  | .agg parts => uptoBulkAll parts + 1
  | .iface _ d => uptoBulk d + 1
  | .map entries => uptoBulkEntries entries + 1
  | .held _ => 1
def uptoBulkAll {H : Type} : List (DataW H) → Nat
  | [] => 0
  | d :: r => uptoBulk d + uptoBulkAll r
def uptoBulkEntries {H : Type} : List (Lit × DataW H) → Nat
  | [] => 0
  | x :: r => uptoBulkEntry x + uptoBulkEntries r
def uptoBulkEntry {H : Type} : Lit × DataW H → Nat
  | (.string bytes, d) => bytes.length + uptoBulk d + 1
  | (_, d) => uptoBulk d + 1
 end
def uptoSmall : (H : Type) → List (DataW H) → Bool := fun _ ds => decide (uptoBulkAll ds ≤ 1048576)
def OpenSpec.upto (s : _root_.Go.ChangeSpec) : _root_.Go.OpenSpec := { _root_.Go.OpenSpec.ofChange s with cond := some uptoSmall }

/-- 'bellwetherlaw18.GatherPlays', WHERE WHAT IT READS IS OF BULK AT MOST 1048576: true; the input reads as it did. -/
def gatherPlaysUptoRow : OpenClaim := { program := "ytdhbjihdcfgoiaa", sum := "e7caff0adafd65be65af979b197981b1ab8f6c53dd509a7439b422f6dd7a93c5", func := "bellwether/bellwetherlaw18.GatherPlays", spec := "gatherPlays", apart := false, narrowed := true }
def GatherPlaysUptoSaid : Prop := gatherPlaysUptoRow.holds Try.pinned (OpenSpec.upto gatherPlaysSpec)

/-- 'bellwetherlaw18.GatherOnce', WHERE WHAT IT READS IS OF BULK AT MOST 1048576: true; the input reads as it did. -/
def gatherOnceUptoRow : OpenClaim := { program := "ytdhbjihdcfgoiaa", sum := "e7caff0adafd65be65af979b197981b1ab8f6c53dd509a7439b422f6dd7a93c5", func := "bellwether/bellwetherlaw18.GatherOnce", spec := "gatherOnce", apart := false, narrowed := true }
def GatherOnceUptoSaid : Prop := gatherOnceUptoRow.holds Try.pinned (OpenSpec.upto gatherOnceSpec)

/-- 'bellwetherlaw18.GatherLimits', WHERE WHAT IT READS IS OF BULK AT MOST 1048576: true; the input reads as it did. -/
def gatherLimitsUptoRow : OpenClaim := { program := "ytdhbjihdcfgoiaa", sum := "e7caff0adafd65be65af979b197981b1ab8f6c53dd509a7439b422f6dd7a93c5", func := "bellwether/bellwetherlaw18.GatherLimits", spec := "gatherLimits", apart := false, narrowed := true }
def GatherLimitsUptoSaid : Prop := gatherLimitsUptoRow.holds Try.pinned (OpenSpec.upto gatherLimitsSpec)

/-- 'bellwetherlaw18.GatherNil', WHERE WHAT IT READS IS OF BULK AT MOST 1048576: true; the input reads as it did. -/
def gatherNilUptoRow : OpenClaim := { program := "ytdhbjihdcfgoiaa", sum := "e7caff0adafd65be65af979b197981b1ab8f6c53dd509a7439b422f6dd7a93c5", func := "bellwether/bellwetherlaw18.GatherNil", spec := "gatherNil", apart := false, narrowed := true }
def GatherNilUptoSaid : Prop := gatherNilUptoRow.holds Try.pinned (OpenSpec.upto gatherNilSpec)

/-- 'bellwetherlaw18.GatherCut', WHERE WHAT IT READS IS OF BULK AT MOST 1048576: true; the input reads as it did. -/
def gatherCutUptoRow : OpenClaim := { program := "ytdhbjihdcfgoiaa", sum := "e7caff0adafd65be65af979b197981b1ab8f6c53dd509a7439b422f6dd7a93c5", func := "bellwether/bellwetherlaw18.GatherCut", spec := "gatherCut", apart := false, narrowed := true }
def GatherCutUptoSaid : Prop := gatherCutUptoRow.holds Try.pinned (OpenSpec.upto gatherCutSpec)

/-- 'bellwetherlaw04.ValueRights', WHERE WHAT IT READS IS OF BULK AT MOST 1048576: true; the input reads as it did. -/
def valueRightsUptoRow : OpenClaim := { program := "ytdhbjihdcfgoiaa", sum := "e7caff0adafd65be65af979b197981b1ab8f6c53dd509a7439b422f6dd7a93c5", func := "bellwether/bellwetherlaw04.ValueRights", spec := "valueRights", unfollowed := true, recurses := true, loops := true, apart := false, narrowed := true }
def ValueRightsUptoSaid : Prop := valueRightsUptoRow.holds Try.pinned (OpenSpec.upto valueRightsSpec)

/-- 'bellwetherlaw04.ValueMakes', WHERE WHAT IT READS IS OF BULK AT MOST 1048576: true; the input reads as it did. -/
def valueMakesUptoRow : OpenClaim := { program := "ytdhbjihdcfgoiaa", sum := "e7caff0adafd65be65af979b197981b1ab8f6c53dd509a7439b422f6dd7a93c5", func := "bellwether/bellwetherlaw04.ValueMakes", spec := "valueMakes", unfollowed := true, recurses := true, loops := true, apart := false, narrowed := true }
def ValueMakesUptoSaid : Prop := valueMakesUptoRow.holds Try.pinned (OpenSpec.upto valueMakesSpec)

/-- 'bellwetherlaw04.ValueSames', WHERE WHAT IT READS IS OF BULK AT MOST 1048576: true; the input reads as it did. -/
def valueSamesUptoRow : OpenClaim := { program := "ytdhbjihdcfgoiaa", sum := "e7caff0adafd65be65af979b197981b1ab8f6c53dd509a7439b422f6dd7a93c5", func := "bellwether/bellwetherlaw04.ValueSames", spec := "valueSames", unfollowed := true, recurses := true, loops := true, apart := false, narrowed := true }
def ValueSamesUptoSaid : Prop := valueSamesUptoRow.holds Try.pinned (OpenSpec.upto valueSamesSpec)

/-- 'bellwetherlaw04.ValueGets', WHERE WHAT IT READS IS OF BULK AT MOST 1048576: true; the input reads as it did. -/
def valueGetsUptoRow : OpenClaim := { program := "ytdhbjihdcfgoiaa", sum := "e7caff0adafd65be65af979b197981b1ab8f6c53dd509a7439b422f6dd7a93c5", func := "bellwether/bellwetherlaw04.ValueGets", spec := "valueGets", unfollowed := true, recurses := true, loops := true, apart := false, narrowed := true }
def ValueGetsUptoSaid : Prop := valueGetsUptoRow.holds Try.pinned (OpenSpec.upto valueGetsSpec)

/-- 'bellwetherlaw04.ValueKids', WHERE WHAT IT READS IS OF BULK AT MOST 1048576: true; the input reads as it did. -/
def valueKidsUptoRow : OpenClaim := { program := "ytdhbjihdcfgoiaa", sum := "e7caff0adafd65be65af979b197981b1ab8f6c53dd509a7439b422f6dd7a93c5", func := "bellwether/bellwetherlaw04.ValueKids", spec := "valueKids", unfollowed := true, recurses := true, loops := true, apart := false, narrowed := true }
def ValueKidsUptoSaid : Prop := valueKidsUptoRow.holds Try.pinned (OpenSpec.upto valueKidsSpec)

/-- 'bellwetherlaw04.ValueRanges', WHERE WHAT IT READS IS OF BULK AT MOST 1048576: true; the input reads as it did. -/
def valueRangesUptoRow : OpenClaim := { program := "ytdhbjihdcfgoiaa", sum := "e7caff0adafd65be65af979b197981b1ab8f6c53dd509a7439b422f6dd7a93c5", func := "bellwether/bellwetherlaw04.ValueRanges", spec := "valueRanges", unfollowed := true, recurses := true, apart := false, narrowed := true }
def ValueRangesUptoSaid : Prop := valueRangesUptoRow.holds Try.pinned (OpenSpec.upto valueRangesSpec)

/-- 'bellwetherlaw04.ValueAlike', WHERE WHAT IT READS IS OF BULK AT MOST 1048576: true; the input reads as it did. -/
def valueAlikeUptoRow : OpenClaim := { program := "ytdhbjihdcfgoiaa", sum := "e7caff0adafd65be65af979b197981b1ab8f6c53dd509a7439b422f6dd7a93c5", func := "bellwether/bellwetherlaw04.ValueAlike", spec := "valueAlike", unfollowed := true, recurses := true, loops := true, apart := false, narrowed := true }
def ValueAlikeUptoSaid : Prop := valueAlikeUptoRow.holds Try.pinned (OpenSpec.upto valueAlikeSpec)

end Rows
end Go.Proofs.Ytdhbjihdcfgoiaa
