/- The law GatherOnce answers true, whatever it is handed, and leaves what came as it was. -/
import Derived.Test.YtdhbjihdcfgoiaaWalk1
import Derived.Test.YtdhbjihdcfgoiaaRows
set_option linter.unusedSimpArgs false
set_option linter.unusedVariables false
/- GatherOnce -/
namespace Go.Proofs.Ytdhbjihdcfgoiaa.gatherOnce
open Go.ChangeShapes Go.WideShapes Go.ChangeAt Go.RowKit Go.Bw Go.Bw.R1
theorem run (dl : List D) (h : Args Try.prog Try.f4.params.toList dl) : CallT Try.prog (fun _ => .undef) 4 dl St.empty (fun r _ => r = .ret (.sc (.bool true))) := by
  obtain ⟨d, r, rfl, h1, h2⟩ := Args.cons h
  obtain rfl := Args.end_ h2
  obtain ⟨l, hl, hw⟩ := perfs_arg h1
  exact law_run (.cons hw .nil) (once_law l hl)
set_option maxRecDepth 100000 in
theorem lifted (os : Os) (started : os.Started) (H : Type) (enc : TypeId × Value → H) :
    ReturnsInHanded {} Try.checked os 4 .any (Rows.gatherOnceSpec.pre6 enc Try.prog Try.f4 Rows.gatherOnceRow.domain false) (Rows.gatherOnceSpec.post enc Try.prog Try.f4 false true false false) := by
  refine returnsInHanded_of_change (C := Try.checked) own started (by kernel_rfl) Try.func4
    (ChangeSpec.witness6 (enc := enc) (C := Try.checked) false ⟨#[], #[.slice none 0 0], []⟩ 8 (by kernel_rfl) (by kernel_rfl) (by kernel_rfl) (by kernel_rfl)) ?_
  intro W base args ds gs before hval0 hW hcnd _
  exact law_contract tyok kids laid (by decide +kernel) rfl rfl Try.underlying4 (by
    intro ds hds
    match ds, hds with
    | [d0], _ => rfl) run hval0 hW
theorem over : Rows.gatherOnceRow.holds Try.pinned (OpenSpec.ofChange Rows.gatherOnceSpec) :=
  OpenClaim.holds_of_wide 4 Try.f4 rfl rfl rfl rfl rfl rfl rfl ⟨rfl, rfl, rfl, rfl, rfl⟩ rfl rfl rfl rfl rfl (by kernel_rfl) Try.func4 (by kernel_rfl)
    (of_decide_eq_true (by kernel_rfl)) (by unfold Func.isWrapper; first | (rw [if_pos (by decide +kernel)]; kernel_rfl) | (rw [if_neg (by decide +kernel)]; exact ⟨rfl, rfl⟩))
    (fun os started H enc _ => lifted os started H enc)
/-- the statement -/
theorem proved : Rows.GatherOnceSaid :=
  over
#print axioms proved
end Go.Proofs.Ytdhbjihdcfgoiaa.gatherOnce
