/- GatherCut: a delivery's bytes, cut into transfers anywhere, are gathered as one, settled, resumed and of the state that any of them said last. -/
import Derived.Test.YtdhbjihdcfgoiaaWalk1
import Derived.Test.YtdhbjihdcfgoiaaRows
set_option linter.unusedSimpArgs false
set_option linter.unusedVariables false
/- GatherCut -/
namespace Go.Proofs.Ytdhbjihdcfgoiaa.gatherCut
set_option maxRecDepth 5000
open Go.ChangeShapes Go.WideShapes Go.ChangeAt Go.RowKit Go.Bw Go.Bw.R1
theorem outcs_arg {d : D} (h : Arg Try.prog 52 d) : ∃ l : List Outc, Wk d (.ro false (l.map Outc.d)) := by
  obtain ⟨l, _, hw⟩ := Arg.one (by kernel_rfl) (fun l : List Outc => ∀ p ∈ l, p.ok) (fun l => .ro false (l.map Outc.d)) (fun ds hd => Rd.slice_agg Try.underlying52 (by kernel_rfl) Outc.ok Outc.cs (fun ds hd => Outc.of_rd hd) hd) h
  exact ⟨l, hw⟩
theorem bytes_arg {d : D} (h : Arg Try.prog 36 d) : ∃ s : ByteArray, Wk d (.ro false (bytesD s)) := by
  obtain ⟨s, _, hw⟩ := Arg.one (by kernel_rfl) (fun _ : ByteArray => True) (fun s => .ro false (bytesD s)) (fun ds hd => by
    obtain ⟨s, h⟩ := Rd.bytes_inv Try.underlying36 Try.underlying5 hd
    exact ⟨s, trivial, h⟩) h
  exact ⟨s, hw⟩
theorem u8_arg {d : D} (h : Arg Try.prog 5 d) : ∃ n : Int, (0 ≤ n ∧ n ≤ 255) ∧ Wk d (.sc (.int .u8 n)) := by
  obtain ⟨n, h, hw⟩ := Arg.one (by kernel_rfl) (fun n : Int => IntKind.u8.min ≤ n ∧ n ≤ IntKind.u8.max) (fun n => .sc (.int .u8 n)) (fun ds hd => by
    obtain ⟨n, rfl, h1, h2⟩ := Rd.int_inv Try.underlying5 hd
    exact ⟨n, ⟨h1, h2⟩, .refl _⟩) h
  simp [IntKind.min, IntKind.max, IntKind.signed, IntKind.bits] at h
  exact ⟨n, by omega, hw⟩
theorem run (dl : List D) (h : Args Try.prog Try.f7.params.toList dl) : CallT Try.prog (fun _ => .undef) 7 dl St.empty (fun r _ => r = .ret (.sc (.bool true))) := by
  obtain ⟨d, r, rfl, h1, h⟩ := Args.cons h
  obtain ⟨d2, r2, rfl, h2, h⟩ := Args.cons h
  obtain ⟨d3, r3, rfl, h3, h⟩ := Args.cons h
  obtain ⟨d4, r4, rfl, h4, h⟩ := Args.cons h
  obtain ⟨d5, r5, rfl, h5, h⟩ := Args.cons h
  obtain ⟨d6, r6, rfl, h6, h⟩ := Args.cons h
  obtain rfl := Args.end_ h
  obtain ⟨b, w1⟩ := bytes_arg h1
  obtain ⟨cuts, hc, w2⟩ := u16s_arg h2
  obtain ⟨says, w3⟩ := bools_arg h3
  obtain ⟨se, hse, w4⟩ := u8_arg h4
  obtain ⟨re, hre, w5⟩ := u8_arg h5
  obtain ⟨sts, w6⟩ := outcs_arg h6
  exact law_run (.cons w1 (.cons w2 (.cons w3 (.cons w4 (.cons w5 (.cons w6 .nil)))))) (cut_law b cuts hc says se re hse hre sts)
set_option maxRecDepth 100000 in
theorem lifted (os : Os) (started : os.Started) (H : Type) (enc : TypeId × Value → H) :
    ReturnsInHanded {} Try.checked os 7 .any (Rows.gatherCutSpec.pre6 enc Try.prog Try.f7 Rows.gatherCutRow.domain false) (Rows.gatherCutSpec.post enc Try.prog Try.f7 false true false false) := by
  refine returnsInHanded_of_change (C := Try.checked) own started (by kernel_rfl) Try.func7
    (ChangeSpec.witness6 (enc := enc) (C := Try.checked) false ⟨#[], #[.slice none 0 0, .slice none 0 0, .slice none 0 0, .int .u8 0, .int .u8 0, .slice none 0 0], []⟩ 8 (by kernel_rfl) (by kernel_rfl) (by kernel_rfl) (by kernel_rfl)) ?_
  intro W base args ds gs before hval0 hW hcnd _
  exact law_contract tyok kids laid (by decide +kernel) rfl rfl Try.underlying4 (by
    intro ds hds
    match ds, hds with
    | [d0, d1, d2, d3, d4, d5], _ => rfl) run hval0 hW
theorem over : Rows.gatherCutRow.holds Try.pinned (OpenSpec.ofChange Rows.gatherCutSpec) :=
  OpenClaim.holds_of_wide 7 Try.f7 rfl rfl rfl rfl rfl rfl rfl ⟨rfl, rfl, rfl, rfl, rfl⟩ rfl rfl rfl rfl rfl (by kernel_rfl) Try.func7 (by kernel_rfl)
    (of_decide_eq_true (by kernel_rfl)) (by unfold Func.isWrapper; first | (rw [if_pos (by decide +kernel)]; kernel_rfl) | (rw [if_neg (by decide +kernel)]; exact ⟨rfl, rfl⟩))
    (fun os started H enc _ => lifted os started H enc)
/-- the statement -/
theorem proved : Rows.GatherCutSaid :=
  over
#print axioms proved
end Go.Proofs.Ytdhbjihdcfgoiaa.gatherCut
