/- GatherPlays -/
import Derived.Test.YtdhbjihdcfgoiaaWalk2
import Derived.Test.YtdhbjihdcfgoiaaRows
set_option linter.unusedSimpArgs false
set_option linter.unusedVariables false
/- GatherPlays -/
namespace Go.Proofs.Ytdhbjihdcfgoiaa.gatherPlays
open Go.ChangeShapes Go.WideShapes Go.ChangeAt Go.RowKit Go.Bw Go.Bw.R1
theorem an2_its : ∀ f, SoundI Try.prog (An2 f).its := fun f => by
  unfold An2
  split
  · exact soundI_no
  · split
    · exact soundI_no
    · exact an1_its f
theorem run (dl : List D) (h : Args Try.prog Try.f3.params.toList dl) : CallT Try.prog (fun _ => .undef) 3 dl St.empty (fun r _ => r = .ret (.sc (.bool true))) := by
  obtain ⟨d, r, rfl, h1, h2⟩ := Args.cons h
  obtain ⟨d2, r2, rfl, h3, h4⟩ := Args.cons h2
  obtain rfl := Args.end_ h4
  obtain ⟨l, hl, hw⟩ := perfs_arg h1
  obtain ⟨b, hw2⟩ := bools_arg h3
  exact law_ev an2_its (soundX2 mixed) mixed (.cons hw (.cons hw2 .nil)) (plays_law l hl b)
set_option maxRecDepth 100000 in
theorem lifted (os : Os) (started : os.Started) (H : Type) (enc : TypeId × Value → H) :
    ReturnsInHanded {} Try.checked os 3 .any (Rows.gatherPlaysSpec.pre6 enc Try.prog Try.f3 Rows.gatherPlaysRow.domain false) (Rows.gatherPlaysSpec.post enc Try.prog Try.f3 false true false false) := by
  refine returnsInHanded_of_change (C := Try.checked) own started (by kernel_rfl) Try.func3
    (ChangeSpec.witness6 (enc := enc) (C := Try.checked) false ⟨#[], #[.slice none 0 0, .slice none 0 0], []⟩ 8 (by kernel_rfl) (by kernel_rfl) (by kernel_rfl) (by kernel_rfl)) ?_
  intro W base args ds gs before hval0 hW hcnd _
  exact law_contract tyok kids laid (by decide +kernel) rfl rfl Try.underlying4 (by
    intro ds hds
    match ds, hds with
    | [d0, d1], _ => rfl) run hval0 hW
theorem over : Rows.gatherPlaysRow.holds Try.pinned (OpenSpec.ofChange Rows.gatherPlaysSpec) :=
  OpenClaim.holds_of_wide 3 Try.f3 rfl rfl rfl rfl rfl rfl rfl ⟨rfl, rfl, rfl, rfl, rfl⟩ rfl rfl rfl rfl rfl (by kernel_rfl) Try.func3 (by kernel_rfl)
    (of_decide_eq_true (by kernel_rfl)) (by unfold Func.isWrapper; first | (rw [if_pos (by decide +kernel)]; kernel_rfl) | (rw [if_neg (by decide +kernel)]; exact ⟨rfl, rfl⟩))
    (fun os started H enc _ => lifted os started H enc)
/-- the statement -/
theorem proved : Rows.GatherPlaysSaid :=
  over
#print axioms proved
end Go.Proofs.Ytdhbjihdcfgoiaa.gatherPlays
