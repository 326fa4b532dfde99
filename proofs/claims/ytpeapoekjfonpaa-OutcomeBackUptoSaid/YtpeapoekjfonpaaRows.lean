/-
  NARROWER THAN 'FOR EVERY INPUT', by the rows' own cells (each row's printed sentence says how): FieldsPuts: loops · FieldsSymbols: loops · FieldsPlays: loops · FieldsSpoils: loops · OutcomeBack: loops.
  DERIVED. THE GIVEN ROWS OF THIS SEAT. 9 by the template 'for every input the law returns true; each argument reads behind the call as it read before'; 0 by the template 'total and deterministic' (their statements: YtpeapoekjfonpaaTotals.lean).
  GIVEN WITH THE SEED: the statements are not yours to turn. If you find one false, say at which input.
  Laid BY PROGRAM, IN A SANDBOX (cutbox-rows.mjs): the forced cells as the released guide's own fill.sh prints them over the translation db9940fe6593e8ef… (all of the seat's roots in one cut). By AI agents, Wed Nov 11 2026. No macro, syntax, notation, axiom, sorry.
-/
import Derived.Test.YtpeapoekjfonpaaChecked
import GoSem.Claim
import GoSem.ClaimJoined
import GoSem.ClaimMapViews
import Derived.JoinedTies
import Derived.KernelRfl
namespace Go.Proofs.Ytpeapoekjfonpaa
/- THE CELL 'sum', in the pinned program and in every row, IS THE sha256 OF THE DUMP (.gsa) THAT YtpeapoekjfonpaaProg.lean LOADS. Nothing in Lean hashes anything: it is a label: what it is worth is what the hold of that sum in a sandbox is worth. -/
noncomputable def Try.pinned : Pinned := { name := "ytpeapoekjfonpaa", sum := "db9940fe6593e8efff2ca67c0994a8d609c94f1753c1558d410bb41cb29c36e9", checked := Try.checked }
namespace Rows
def none {H : Type} : Left H := { results := [], args := [] }

/-- 'bellwetherlaw07.FieldsPuts': WHATEVER THE INPUT: true; the input reads as it did. -/
def fieldsPutsSpec : ChangeSpec := { name := "fieldsPuts", fn := fun _ => fun
  | [d1, d2] => { results := [.lit (.bool true)], args := [d1, d2] }
  | _ => none }
def fieldsPutsRow : OpenClaim := { program := "ytpeapoekjfonpaa", sum := "db9940fe6593e8efff2ca67c0994a8d609c94f1753c1558d410bb41cb29c36e9", func := "bellwether/bellwetherlaw07.FieldsPuts", spec := "fieldsPuts", unfollowed := true, recurses := true, loops := true, apart := false }
def FieldsPutsSaid : Prop := fieldsPutsRow.holds Try.pinned (OpenSpec.ofChange fieldsPutsSpec)

/-- ITS FALSE NEIGHBOUR: 'it returns false'. Refute it at one input. -/
def fieldsPutsWrong : ChangeSpec := { name := "fieldsPuts", fn := fun _ => fun
  | [d1, d2] => { results := [.lit (.bool false)], args := [d1, d2] }
  | _ => none }
def FieldsPutsWrongFalsely : Prop := fieldsPutsRow.holds Try.pinned (OpenSpec.ofChange fieldsPutsWrong)

/-- 'bellwetherlaw07.FieldsSymbols': WHATEVER THE INPUT: true; the input reads as it did. -/
def fieldsSymbolsSpec : ChangeSpec := { name := "fieldsSymbols", fn := fun _ => fun
  | [d1, d2] => { results := [.lit (.bool true)], args := [d1, d2] }
  | _ => none }
def fieldsSymbolsRow : OpenClaim := { program := "ytpeapoekjfonpaa", sum := "db9940fe6593e8efff2ca67c0994a8d609c94f1753c1558d410bb41cb29c36e9", func := "bellwether/bellwetherlaw07.FieldsSymbols", spec := "fieldsSymbols", unfollowed := true, recurses := true, loops := true, apart := false }
def FieldsSymbolsSaid : Prop := fieldsSymbolsRow.holds Try.pinned (OpenSpec.ofChange fieldsSymbolsSpec)

/-- ITS FALSE NEIGHBOUR: 'it returns false'. Refute it at one input. -/
def fieldsSymbolsWrong : ChangeSpec := { name := "fieldsSymbols", fn := fun _ => fun
  | [d1, d2] => { results := [.lit (.bool false)], args := [d1, d2] }
  | _ => none }
def FieldsSymbolsWrongFalsely : Prop := fieldsSymbolsRow.holds Try.pinned (OpenSpec.ofChange fieldsSymbolsWrong)

/-- 'bellwetherlaw07.FieldsPlays': WHATEVER THE INPUT: true; the input reads as it did. -/
def fieldsPlaysSpec : ChangeSpec := { name := "fieldsPlays", fn := fun _ => fun
  | [d1, d2, d3, d4] => { results := [.lit (.bool true)], args := [d1, d2, d3, d4] }
  | _ => none }
def fieldsPlaysRow : OpenClaim := { program := "ytpeapoekjfonpaa", sum := "db9940fe6593e8efff2ca67c0994a8d609c94f1753c1558d410bb41cb29c36e9", func := "bellwether/bellwetherlaw07.FieldsPlays", spec := "fieldsPlays", unfollowed := true, recurses := true, loops := true, apart := false }
def FieldsPlaysSaid : Prop := fieldsPlaysRow.holds Try.pinned (OpenSpec.ofChange fieldsPlaysSpec)

/-- ITS FALSE NEIGHBOUR: 'it returns false'. Refute it at one input. -/
def fieldsPlaysWrong : ChangeSpec := { name := "fieldsPlays", fn := fun _ => fun
  | [d1, d2, d3, d4] => { results := [.lit (.bool false)], args := [d1, d2, d3, d4] }
  | _ => none }
def FieldsPlaysWrongFalsely : Prop := fieldsPlaysRow.holds Try.pinned (OpenSpec.ofChange fieldsPlaysWrong)

/-- 'bellwetherlaw07.FieldsSpoils': WHATEVER THE INPUT: true; the input reads as it did. -/
def fieldsSpoilsSpec : ChangeSpec := { name := "fieldsSpoils", fn := fun _ => fun
  | [d1, d2] => { results := [.lit (.bool true)], args := [d1, d2] }
  | _ => none }
def fieldsSpoilsRow : OpenClaim := { program := "ytpeapoekjfonpaa", sum := "db9940fe6593e8efff2ca67c0994a8d609c94f1753c1558d410bb41cb29c36e9", func := "bellwether/bellwetherlaw07.FieldsSpoils", spec := "fieldsSpoils", unfollowed := true, recurses := true, loops := true, apart := false }
def FieldsSpoilsSaid : Prop := fieldsSpoilsRow.holds Try.pinned (OpenSpec.ofChange fieldsSpoilsSpec)

/-- ITS FALSE NEIGHBOUR: 'it returns false'. Refute it at one input. -/
def fieldsSpoilsWrong : ChangeSpec := { name := "fieldsSpoils", fn := fun _ => fun
  | [d1, d2] => { results := [.lit (.bool false)], args := [d1, d2] }
  | _ => none }
def FieldsSpoilsWrongFalsely : Prop := fieldsSpoilsRow.holds Try.pinned (OpenSpec.ofChange fieldsSpoilsWrong)

/-- 'bellwetherlaw07.FieldsNil': WHATEVER THE INPUT: true; the input reads as it did. -/
def fieldsNilSpec : ChangeSpec := { name := "fieldsNil", fn := fun _ => fun
  | [d1, d2] => { results := [.lit (.bool true)], args := [d1, d2] }
  | _ => none }
def fieldsNilRow : OpenClaim := { program := "ytpeapoekjfonpaa", sum := "db9940fe6593e8efff2ca67c0994a8d609c94f1753c1558d410bb41cb29c36e9", func := "bellwether/bellwetherlaw07.FieldsNil", spec := "fieldsNil", unfollowed := true, recurses := true, apart := false }
def FieldsNilSaid : Prop := fieldsNilRow.holds Try.pinned (OpenSpec.ofChange fieldsNilSpec)

/-- ITS FALSE NEIGHBOUR: 'it returns false'. Refute it at one input. -/
def fieldsNilWrong : ChangeSpec := { name := "fieldsNil", fn := fun _ => fun
  | [d1, d2] => { results := [.lit (.bool false)], args := [d1, d2] }
  | _ => none }
def FieldsNilWrongFalsely : Prop := fieldsNilRow.holds Try.pinned (OpenSpec.ofChange fieldsNilWrong)

/-- 'bellwetherlaw08.OutcomePuts': WHATEVER THE INPUT: true; the input reads as it did. -/
def outcomePutsSpec : ChangeSpec := { name := "outcomePuts", fn := fun _ => fun
  | [d] => { results := [.lit (.bool true)], args := [d] }
  | _ => none }
def outcomePutsRow : OpenClaim := { program := "ytpeapoekjfonpaa", sum := "db9940fe6593e8efff2ca67c0994a8d609c94f1753c1558d410bb41cb29c36e9", func := "bellwether/bellwetherlaw08.OutcomePuts", spec := "outcomePuts", unfollowed := true, recurses := true, apart := false }
def OutcomePutsSaid : Prop := outcomePutsRow.holds Try.pinned (OpenSpec.ofChange outcomePutsSpec)

/-- ITS FALSE NEIGHBOUR: 'it returns false'. Refute it at one input. -/
def outcomePutsWrong : ChangeSpec := { name := "outcomePuts", fn := fun _ => fun
  | [d] => { results := [.lit (.bool false)], args := [d] }
  | _ => none }
def OutcomePutsWrongFalsely : Prop := outcomePutsRow.holds Try.pinned (OpenSpec.ofChange outcomePutsWrong)

/-- 'bellwetherlaw08.OutcomeBack': WHATEVER THE INPUT: true; the input reads as it did. -/
def outcomeBackSpec : ChangeSpec := { name := "outcomeBack", fn := fun _ => fun
  | [d1, d2, d3] => { results := [.lit (.bool true)], args := [d1, d2, d3] }
  | _ => none }
def outcomeBackRow : OpenClaim := { program := "ytpeapoekjfonpaa", sum := "db9940fe6593e8efff2ca67c0994a8d609c94f1753c1558d410bb41cb29c36e9", func := "bellwether/bellwetherlaw08.OutcomeBack", spec := "outcomeBack", unfollowed := true, recurses := true, loops := true, apart := false }
def OutcomeBackSaid : Prop := outcomeBackRow.holds Try.pinned (OpenSpec.ofChange outcomeBackSpec)

/-- ITS FALSE NEIGHBOUR: 'it returns false'. Refute it at one input. -/
def outcomeBackWrong : ChangeSpec := { name := "outcomeBack", fn := fun _ => fun
  | [d1, d2, d3] => { results := [.lit (.bool false)], args := [d1, d2, d3] }
  | _ => none }
def OutcomeBackWrongFalsely : Prop := outcomeBackRow.holds Try.pinned (OpenSpec.ofChange outcomeBackWrong)

/-- 'bellwetherlaw08.OutcomeMay': WHATEVER THE INPUT: true; the input reads as it did. -/
def outcomeMaySpec : ChangeSpec := { name := "outcomeMay", fn := fun _ => fun
  | [d] => { results := [.lit (.bool true)], args := [d] }
  | _ => none }
def outcomeMayRow : OpenClaim := { program := "ytpeapoekjfonpaa", sum := "db9940fe6593e8efff2ca67c0994a8d609c94f1753c1558d410bb41cb29c36e9", func := "bellwether/bellwetherlaw08.OutcomeMay", spec := "outcomeMay", unfollowed := true, recurses := true, apart := false }
def OutcomeMaySaid : Prop := outcomeMayRow.holds Try.pinned (OpenSpec.ofChange outcomeMaySpec)

/-- ITS FALSE NEIGHBOUR: 'it returns false'. Refute it at one input. -/
def outcomeMayWrong : ChangeSpec := { name := "outcomeMay", fn := fun _ => fun
  | [d] => { results := [.lit (.bool false)], args := [d] }
  | _ => none }
def OutcomeMayWrongFalsely : Prop := outcomeMayRow.holds Try.pinned (OpenSpec.ofChange outcomeMayWrong)

/-- 'bellwetherlaw08.OutcomeNames': WHATEVER THE INPUT: true; the input reads as it did. -/
def outcomeNamesSpec : ChangeSpec := { name := "outcomeNames", fn := fun _ => fun
  | [d1, d2] => { results := [.lit (.bool true)], args := [d1, d2] }
  | _ => none }
def outcomeNamesRow : OpenClaim := { program := "ytpeapoekjfonpaa", sum := "db9940fe6593e8efff2ca67c0994a8d609c94f1753c1558d410bb41cb29c36e9", func := "bellwether/bellwetherlaw08.OutcomeNames", spec := "outcomeNames", unfollowed := true, recurses := true, apart := false }
def OutcomeNamesSaid : Prop := outcomeNamesRow.holds Try.pinned (OpenSpec.ofChange outcomeNamesSpec)

/-- ITS FALSE NEIGHBOUR: 'it returns false'. Refute it at one input. -/
def outcomeNamesWrong : ChangeSpec := { name := "outcomeNames", fn := fun _ => fun
  | [d1, d2] => { results := [.lit (.bool false)], args := [d1, d2] }
  | _ => none }
def OutcomeNamesWrongFalsely : Prop := outcomeNamesRow.holds Try.pinned (OpenSpec.ofChange outcomeNamesWrong)

/- THE SECOND FORM. 'bulk': how many values and letters a reading holds, each counted each time it is reached (what is shared counts as often as it is met; a slice's spare places count too). A statement '..UptoSaid' is the law's where the arguments, and the package variables that the reading takes, are together of bulk at most 1048576: NARROWER than '..Said'. Prove '..Said' where nothing that the law and all that it calls make is longer than what came in: it says more and counts as full. Else prove '..UptoSaid'. A law counts once. -/
mutual
def uptoBulk {H : Type} : DataW H → Nat
  | .lit (.string bytes) => bytes.length + 1
  | .lit _ => 1
  | .nil => 1
  | .ptr d => uptoBulk d + 1
  | .slice elems spare => uptoBulkAll elems + uptoBulkAll spare + 1
  | .agg parts => uptoBulkAll parts + 1
  | .iface _ d => uptoBulk d + 1
  | .map entries => uptoBulkEntries entries + 1
  | .held _ => 1
def uptoBulkAll {H : Type} : List (DataW H) → Nat
  | [] => 0
  | d :: r => uptoBulk d + uptoBulkAll r
def uptoBulkEntries {H : Type} : List (Lit × DataW H) → Nat
  | [] => 0
  | x :: r => uptoBulkEntry x + uptoBulkEntries r
def uptoBulkEntry {H : Type} : Lit × DataW H → Nat
  | (.string bytes, d) => bytes.length + uptoBulk d + 1
  | (_, d) => uptoBulk d + 1
 end
def uptoSmall : (H : Type) → List (DataW H) → Bool := fun _ ds => decide (uptoBulkAll ds ≤ 1048576)
def OpenSpec.upto (s : _root_.Go.ChangeSpec) : _root_.Go.OpenSpec := { _root_.Go.OpenSpec.ofChange s with cond := some uptoSmall }

/-- 'bellwetherlaw07.FieldsPuts', WHERE WHAT IT READS IS OF BULK AT MOST 1048576: true; the input reads as it did. -/
def fieldsPutsUptoRow : OpenClaim := { program := "ytpeapoekjfonpaa", sum := "db9940fe6593e8efff2ca67c0994a8d609c94f1753c1558d410bb41cb29c36e9", func := "bellwether/bellwetherlaw07.FieldsPuts", spec := "fieldsPuts", unfollowed := true, recurses := true, loops := true, apart := false, narrowed := true }
def FieldsPutsUptoSaid : Prop := fieldsPutsUptoRow.holds Try.pinned (OpenSpec.upto fieldsPutsSpec)

/-- 'bellwetherlaw07.FieldsSymbols', WHERE WHAT IT READS IS OF BULK AT MOST 1048576: true; the input reads as it did. -/
def fieldsSymbolsUptoRow : OpenClaim := { program := "ytpeapoekjfonpaa", sum := "db9940fe6593e8efff2ca67c0994a8d609c94f1753c1558d410bb41cb29c36e9", func := "bellwether/bellwetherlaw07.FieldsSymbols", spec := "fieldsSymbols", unfollowed := true, recurses := true, loops := true, apart := false, narrowed := true }
def FieldsSymbolsUptoSaid : Prop := fieldsSymbolsUptoRow.holds Try.pinned (OpenSpec.upto fieldsSymbolsSpec)

/-- 'bellwetherlaw07.FieldsPlays', WHERE WHAT IT READS IS OF BULK AT MOST 1048576: true; the input reads as it did. -/
def fieldsPlaysUptoRow : OpenClaim := { program := "ytpeapoekjfonpaa", sum := "db9940fe6593e8efff2ca67c0994a8d609c94f1753c1558d410bb41cb29c36e9", func := "bellwether/bellwetherlaw07.FieldsPlays", spec := "fieldsPlays", unfollowed := true, recurses := true, loops := true, apart := false, narrowed := true }
def FieldsPlaysUptoSaid : Prop := fieldsPlaysUptoRow.holds Try.pinned (OpenSpec.upto fieldsPlaysSpec)

/-- 'bellwetherlaw07.FieldsSpoils', WHERE WHAT IT READS IS OF BULK AT MOST 1048576: true; the input reads as it did. -/
def fieldsSpoilsUptoRow : OpenClaim := { program := "ytpeapoekjfonpaa", sum := "db9940fe6593e8efff2ca67c0994a8d609c94f1753c1558d410bb41cb29c36e9", func := "bellwether/bellwetherlaw07.FieldsSpoils", spec := "fieldsSpoils", unfollowed := true, recurses := true, loops := true, apart := false, narrowed := true }
def FieldsSpoilsUptoSaid : Prop := fieldsSpoilsUptoRow.holds Try.pinned (OpenSpec.upto fieldsSpoilsSpec)

/-- 'bellwetherlaw07.FieldsNil', WHERE WHAT IT READS IS OF BULK AT MOST 1048576: true; the input reads as it did. -/
def fieldsNilUptoRow : OpenClaim := { program := "ytpeapoekjfonpaa", sum := "db9940fe6593e8efff2ca67c0994a8d609c94f1753c1558d410bb41cb29c36e9", func := "bellwether/bellwetherlaw07.FieldsNil", spec := "fieldsNil", unfollowed := true, recurses := true, apart := false, narrowed := true }
def FieldsNilUptoSaid : Prop := fieldsNilUptoRow.holds Try.pinned (OpenSpec.upto fieldsNilSpec)

/-- 'bellwetherlaw08.OutcomePuts', WHERE WHAT IT READS IS OF BULK AT MOST 1048576: true; the input reads as it did. -/
def outcomePutsUptoRow : OpenClaim := { program := "ytpeapoekjfonpaa", sum := "db9940fe6593e8efff2ca67c0994a8d609c94f1753c1558d410bb41cb29c36e9", func := "bellwether/bellwetherlaw08.OutcomePuts", spec := "outcomePuts", unfollowed := true, recurses := true, apart := false, narrowed := true }
def OutcomePutsUptoSaid : Prop := outcomePutsUptoRow.holds Try.pinned (OpenSpec.upto outcomePutsSpec)

/-- 'bellwetherlaw08.OutcomeBack', WHERE WHAT IT READS IS OF BULK AT MOST 1048576: true; the input reads as it did. -/
def outcomeBackUptoRow : OpenClaim := { program := "ytpeapoekjfonpaa", sum := "db9940fe6593e8efff2ca67c0994a8d609c94f1753c1558d410bb41cb29c36e9", func := "bellwether/bellwetherlaw08.OutcomeBack", spec := "outcomeBack", unfollowed := true, recurses := true, loops := true, apart := false, narrowed := true }
def OutcomeBackUptoSaid : Prop := outcomeBackUptoRow.holds Try.pinned (OpenSpec.upto outcomeBackSpec)

/-- 'bellwetherlaw08.OutcomeMay', WHERE WHAT IT READS IS OF BULK AT MOST 1048576: true; the input reads as it did. -/
def outcomeMayUptoRow : OpenClaim := { program := "ytpeapoekjfonpaa", sum := "db9940fe6593e8efff2ca67c0994a8d609c94f1753c1558d410bb41cb29c36e9", func := "bellwether/bellwetherlaw08.OutcomeMay", spec := "outcomeMay", unfollowed := true, recurses := true, apart := false, narrowed := true }
def OutcomeMayUptoSaid : Prop := outcomeMayUptoRow.holds Try.pinned (OpenSpec.upto outcomeMaySpec)

/-- 'bellwetherlaw08.OutcomeNames', WHERE WHAT IT READS IS OF BULK AT MOST 1048576: true; the input reads as it did. -/
def outcomeNamesUptoRow : OpenClaim := { program := "ytpeapoekjfonpaa", sum := "db9940fe6593e8efff2ca67c0994a8d609c94f1753c1558d410bb41cb29c36e9", func := "bellwether/bellwetherlaw08.OutcomeNames", spec := "outcomeNames", unfollowed := true, recurses := true, apart := false, narrowed := true }
def OutcomeNamesUptoSaid : Prop := outcomeNamesUptoRow.holds Try.pinned (OpenSpec.upto outcomeNamesSpec)

end Rows
end Go.Proofs.Ytpeapoekjfonpaa
