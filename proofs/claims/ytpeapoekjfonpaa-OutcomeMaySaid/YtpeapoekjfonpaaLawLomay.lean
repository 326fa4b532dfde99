/- OutcomeMay: just such outcomes may be as have what their kind has. -/
import Derived.Test.YtpeapoekjfonpaaWalk3
import Derived.Test.YtpeapoekjfonpaaRows
set_option linter.unusedSimpArgs false
set_option linter.unusedVariables false
/- OutcomeMay -/
namespace Go.Proofs.Ytpeapoekjfonpaa.outcomeMay
set_option maxRecDepth 5000
open Go.ChangeShapes Go.WideShapes Go.ChangeAt Go.RowKit Go.Bw Go.Bw.R1
theorem run (dl : List D) (h : Args Try.prog Try.f10.params.toList dl) : CallT Try.prog (fun _ => .undef) 10 dl St.empty (fun r _ => r = .ret (.sc (.bool true))) := by
  obtain ⟨d, r, rfl, h1, h⟩ := Args.cons h
  obtain rfl := Args.end_ h
  obtain ⟨o, ho, hw, _⟩ := outc_arg h1
  exact law_run (.cons hw .nil) (omay_law o ⟨ho.kind.1, ho.a.1, ho.b.1⟩)
set_option maxRecDepth 100000 in
theorem lifted (os : Os) (started : os.Started) (H : Type) (enc : TypeId × Value → H) :
    ReturnsInHanded {} Try.checked os 10 .any (Rows.outcomeMaySpec.pre6 enc Try.prog Try.f10 Rows.outcomeMayRow.domain false) (Rows.outcomeMaySpec.post enc Try.prog Try.f10 false true false false) := by
  refine returnsInHanded_of_change (C := Try.checked) own started (by kernel_rfl) Try.func10
    (ChangeSpec.witness6 (enc := enc) (C := Try.checked) false ⟨#[], #[.agg #[.int .u8 0, .int .u64 0, .int .u64 0, .string ⟨#[]⟩]], []⟩ 8 (by kernel_rfl) (by kernel_rfl) (by kernel_rfl) (by kernel_rfl)) ?_
  intro W base args ds gs before hval0 hW hcnd _
  exact law_contract tyok kids laid (by decide +kernel) rfl rfl Try.underlying4 (by
    intro ds hds
    match ds, hds with
    | [d0], _ => rfl) run hval0 hW
theorem over : Rows.outcomeMayRow.holds Try.pinned (OpenSpec.ofChange Rows.outcomeMaySpec) :=
  OpenClaim.holds_of_wide 10 Try.f10 rfl rfl rfl rfl rfl rfl rfl ⟨rfl, rfl, rfl, rfl, rfl⟩ rfl rfl rfl rfl rfl (by kernel_rfl) Try.func10 (by kernel_rfl)
    (of_decide_eq_true (by kernel_rfl)) (by unfold Func.isWrapper; first | (rw [if_pos (by decide +kernel)]; kernel_rfl) | (rw [if_neg (by decide +kernel)]; exact ⟨rfl, rfl⟩))
    (fun os started H enc _ => lifted os started H enc)
/-- the statement -/
theorem proved : Rows.OutcomeMaySaid :=
  over
#print axioms proved
end Go.Proofs.Ytpeapoekjfonpaa.outcomeMay
