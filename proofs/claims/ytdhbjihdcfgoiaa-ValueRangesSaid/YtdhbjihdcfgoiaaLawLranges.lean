/- ValueRanges -/
import Derived.Test.YtdhbjihdcfgoiaaWalk2
import Derived.Test.YtdhbjihdcfgoiaaRows
set_option linter.unusedSimpArgs false
set_option linter.unusedVariables false
/- ValueRanges -/
namespace Go.Proofs.Ytdhbjihdcfgoiaa.valueRanges
open Go.ChangeShapes Go.WideShapes Go.ChangeAt Go.RowKit Go.Bw Go.Bw.R1
theorem run (dl : List D) (h : Args Try.prog Try.f13.params.toList dl) : CallT Try.prog (fun _ => .undef) 13 dl St.empty (fun r _ => r = .ret (.sc (.bool true))) := by
  obtain ⟨d, r, rfl, h1, h2⟩ := Args.cons h
  obtain rfl := Args.end_ h2
  obtain ⟨n, hn, hw⟩ := u64_arg h1
  exact law_run (.cons hw .nil) (ranges_law n hn.1 hn.2)
set_option maxRecDepth 100000 in
theorem lifted (os : Os) (started : os.Started) (H : Type) (enc : TypeId × Value → H) :
    ReturnsInHanded {} Try.checked os 13 .any (Rows.valueRangesSpec.pre6 enc Try.prog Try.f13 Rows.valueRangesRow.domain false) (Rows.valueRangesSpec.post enc Try.prog Try.f13 false true false false) := by
  refine returnsInHanded_of_change (C := Try.checked) own started (by kernel_rfl) Try.func13
    (ChangeSpec.witness6 (enc := enc) (C := Try.checked) false ⟨#[], #[.int .u64 0], []⟩ 8 (by kernel_rfl) (by kernel_rfl) (by kernel_rfl) (by kernel_rfl)) ?_
  intro W base args ds gs before hval0 hW hcnd _
  exact law_contract tyok kids laid (by decide +kernel) rfl rfl Try.underlying4 (by
    intro ds hds
    match ds, hds with
    | [d0], _ => rfl) run hval0 hW
theorem over : Rows.valueRangesRow.holds Try.pinned (OpenSpec.ofChange Rows.valueRangesSpec) :=
  OpenClaim.holds_of_wide 13 Try.f13 rfl rfl rfl rfl rfl rfl rfl ⟨rfl, rfl, rfl, rfl, rfl⟩ rfl rfl rfl rfl rfl (by kernel_rfl) Try.func13 (by kernel_rfl)
    (of_decide_eq_true (by kernel_rfl)) (by unfold Func.isWrapper; first | (rw [if_pos (by decide +kernel)]; kernel_rfl) | (rw [if_neg (by decide +kernel)]; exact ⟨rfl, rfl⟩))
    (fun os started H enc _ => lifted os started H enc)
/-- the statement -/
theorem proved : Rows.ValueRangesSaid :=
  over
#print axioms proved
end Go.Proofs.Ytdhbjihdcfgoiaa.valueRanges
