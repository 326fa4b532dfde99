/- The law GatherNil answers true, whatever it is handed, and leaves what came as it was. -/
import Derived.Test.YtdhbjihdcfgoiaaWalk1
import Derived.Test.YtdhbjihdcfgoiaaRows
set_option linter.unusedSimpArgs false
set_option linter.unusedVariables false
/- GatherNil -/
namespace Go.Proofs.Ytdhbjihdcfgoiaa.gatherNil
open Go.ChangeShapes Go.WideShapes Go.ChangeAt Go.RowKit Go.Bw Go.Bw.R1

theorem own : ownKnob Try.prog.godebug = none := by kernel_rfl

def canP (p : Perf) : Perf := { p with marks := D.canL p.marks }
theorem canP_fine {p : Perf} (h : p.ok) : (canP p).fine := by
  have hr := h.marks.refs
  simp only [D.refs] at hr
  exact ⟨by show D.refsL (D.canL p.marks) = []; rw [D.refsL_canL, hr], D.canL_canL _⟩
theorem canP_d (p : Perf) : (canP p).d = p.d.can := by
  simp only [Perf.d, Perf.cs, canP, D.can, D.canL, canL_bytesD]
theorem wk_can (d : D) : Wk d d.can := fun _ _ h => h.can
theorem run (dl : List D) (h : Args Try.prog Try.f6.params.toList dl) : CallT Try.prog (fun _ => .undef) 6 dl St.empty (fun r _ => r = .ret (.sc (.bool true))) := by
  obtain ⟨d, r, rfl, h1, h2⟩ := Args.cons h
  obtain ⟨h3, _⟩ := h2
  obtain rfl : r = [] := List.length_eq_zero_iff.1 h3
  obtain ⟨p, hp, hw⟩ := Perf.of_arg h1
  refine law_run (ds' := [(canP p).d]) (.cons (hw.trans ?_) .nil) (nil_law (canP p) (canP_fine hp))
  rw [canP_d]; exact wk_can _

set_option maxRecDepth 100000 in
theorem lifted (os : Os) (started : os.Started) (H : Type) (enc : TypeId × Value → H) :
    ReturnsInHanded {} Try.checked os 6 .any (Rows.gatherNilSpec.pre6 enc Try.prog Try.f6 Rows.gatherNilRow.domain false) (Rows.gatherNilSpec.post enc Try.prog Try.f6 false true false false) := by
  refine returnsInHanded_of_change (C := Try.checked) own started (by kernel_rfl) Try.func6
    (ChangeSpec.witness6 (enc := enc) (C := Try.checked) false ⟨#[], #[.agg #[.int .u8 0, .string ⟨#[]⟩, .string ⟨#[]⟩, .int .u32 0, .int .u16 0, .int .u32 0, .int .i64 0, .int .u32 0, .int .u32 0, .int .u32 0, .int .u32 0, .string ⟨#[]⟩, .int .i64 0, .bool false, .int .u8 0, .int .u8 0, .string ⟨#[]⟩, .string ⟨#[]⟩, .slice none 0 0, .int .u32 0, .int .i64 0, .int .u32 0, .bool false, .bool false, .int .i64 0, .int .u32 0, .string ⟨#[]⟩, .bool false, .bool false, .bool false, .bool false, .int .u8 0, .int .u64 0, .int .u64 0, .string ⟨#[]⟩, .slice none 0 0, .bool false, .string ⟨#[]⟩]], []⟩ 8 (by kernel_rfl) (by kernel_rfl) (by kernel_rfl) (by kernel_rfl)) ?_
  intro W base args ds gs before hval0 hW hcnd _
  exact law_contract tyok kids laid (by decide +kernel) rfl rfl Try.underlying4 (by
    intro ds hds
    match ds, hds with
    | [d], _ => rfl) run hval0 hW

theorem over : Rows.gatherNilRow.holds Try.pinned (OpenSpec.ofChange Rows.gatherNilSpec) :=
  OpenClaim.holds_of_wide 6 Try.f6 rfl rfl rfl rfl rfl rfl rfl ⟨rfl, rfl, rfl, rfl, rfl⟩ rfl rfl rfl rfl rfl (by kernel_rfl) Try.func6 (by kernel_rfl)
    (of_decide_eq_true (by kernel_rfl)) (by unfold Func.isWrapper; first | (rw [if_pos (by decide +kernel)]; kernel_rfl) | (rw [if_neg (by decide +kernel)]; exact ⟨rfl, rfl⟩))
    (fun os started H enc _ => lifted os started H enc)

/-- THE STATEMENT -/
theorem proved : Rows.GatherNilSaid :=
  over
#print axioms proved
end Go.Proofs.Ytdhbjihdcfgoiaa.gatherNil
