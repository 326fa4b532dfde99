/- FieldsNil: where there are no fields, whatever is asked is answered as the document says. -/
import Derived.Test.YtpeapoekjfonpaaWalk2
import Derived.Test.YtpeapoekjfonpaaRows
set_option linter.unusedSimpArgs false
set_option linter.unusedVariables false
/- FieldsNil -/
namespace Go.Proofs.Ytpeapoekjfonpaa.fieldsNil
open Go.ChangeShapes Go.WideShapes Go.ChangeAt Go.RowKit Go.Bw Go.Bw.R1
theorem run (dl : List D) (h : Args Try.prog Try.f7.params.toList dl) : CallT Try.prog (fun _ => .undef) 7 dl St.empty (fun r _ => r = .ret (.sc (.bool true))) := by
  obtain ⟨d, r, rfl, h1, h⟩ := Args.cons h
  obtain ⟨d2, r2, rfl, h2, h⟩ := Args.cons h
  obtain rfl := Args.end_ h
  obtain ⟨a, _, hw, _⟩ := ask_arg h1
  obtain ⟨n, _, hw2⟩ := int_arg h2
  rw [← askD_eq] at hw
  exact law_run (.cons hw (.cons hw2 .nil)) (nil7_law a n)
set_option maxRecDepth 100000 in
theorem lifted (os : Os) (started : os.Started) (H : Type) (enc : TypeId × Value → H) :
    ReturnsInHanded {} Try.checked os 7 .any (Rows.fieldsNilSpec.pre6 enc Try.prog Try.f7 Rows.fieldsNilRow.domain false) (Rows.fieldsNilSpec.post enc Try.prog Try.f7 false true false false) := by
  refine returnsInHanded_of_change (C := Try.checked) own started (by kernel_rfl) Try.func7
    (ChangeSpec.witness6 (enc := enc) (C := Try.checked) false ⟨#[], #[.agg #[.int .i64 0, .int .i64 0, .int .u8 0, .bool false, .int .u64 0, .slice none 0 0], .int .i64 0], []⟩ 8 (by kernel_rfl) (by kernel_rfl) (by kernel_rfl) (by kernel_rfl)) ?_
  intro W base args ds gs before hval0 hW hcnd _
  exact law_contract tyok kids laid (by decide +kernel) rfl rfl Try.underlying4 (by
    intro ds hds
    match ds, hds with
    | [d0, d1], _ => rfl) run hval0 hW
theorem over : Rows.fieldsNilRow.holds Try.pinned (OpenSpec.ofChange Rows.fieldsNilSpec) :=
  OpenClaim.holds_of_wide 7 Try.f7 rfl rfl rfl rfl rfl rfl rfl ⟨rfl, rfl, rfl, rfl, rfl⟩ rfl rfl rfl rfl rfl (by kernel_rfl) Try.func7 (by kernel_rfl)
    (of_decide_eq_true (by kernel_rfl)) (by unfold Func.isWrapper; first | (rw [if_pos (by decide +kernel)]; kernel_rfl) | (rw [if_neg (by decide +kernel)]; exact ⟨rfl, rfl⟩))
    (fun os started H enc _ => lifted os started H enc)
/-- the statement -/
theorem proved : Rows.FieldsNilSaid :=
  over
#print axioms proved
end Go.Proofs.Ytpeapoekjfonpaa.fieldsNil
