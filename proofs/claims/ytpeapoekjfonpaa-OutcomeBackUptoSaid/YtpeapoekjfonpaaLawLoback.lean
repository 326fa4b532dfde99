/- OutcomeBack: what Put answers Get tells as it was, and what Get tells is told again behind Put; for arguments whose reading is of bulk at most 1048576. -/
import Derived.Test.YtpeapoekjfonpaaWalk3
import Derived.Test.YtpeapoekjfonpaaRows
set_option linter.unusedSimpArgs false
set_option linter.unusedVariables false
/- OutcomeBack -/
namespace Go.Proofs.Ytpeapoekjfonpaa.outcomeBack
set_option maxRecDepth 5000
open Go.ChangeShapes Go.WideShapes Go.ChangeAt Go.RowKit Go.Bw Go.Bw.R1
theorem run (dl : List D) (h : Args Try.prog Try.f9.params.toList dl) (hb : D.blkL dl ≤ 1048576) : CallT Try.prog (fun _ => .undef) 9 dl St.empty (fun r _ => r = .ret (.sc (.bool true))) := by
  obtain ⟨d, r, rfl, h1, h⟩ := Args.cons h
  obtain ⟨d2, r2, rfl, h2, h⟩ := Args.cons h
  obtain ⟨d3, r3, rfl, h3, h⟩ := Args.cons h
  obtain rfl := Args.end_ h
  obtain ⟨o, ho, hw, hz⟩ := outc_arg h1
  obtain ⟨v, hv, hw2, hs⟩ := val_arg h2
  obtain ⟨s, hw3, hs3⟩ := str_arg h3
  simp only [D.blkL] at hb
  exact law_run (.cons hw (.cons hw2 (.cons hw3 .nil))) (oback_law o ⟨ho.kind.1, ho.a.1, ho.b.1, by have := ho.b.2; omega⟩ (by omega) v hv (by omega) s (by omega))
mutual
theorem b0 {H : Type} : ∀ x : DataW H, bulk0 x ≤ Rows.uptoBulk x
  | .lit l => by cases l <;> simp [bulk0, Rows.uptoBulk]
  | .nil => by simp [bulk0, Rows.uptoBulk]
  | .ptr d => by have := b0 d; simp only [bulk0, Rows.uptoBulk]; omega
  | .slice es sp => by have := b0L es; simp only [bulk0, Rows.uptoBulk]; omega
  | .agg ps => by have := b0L ps; simp only [bulk0, Rows.uptoBulk]; omega
  | .iface n d => by simp only [bulk0, Rows.uptoBulk]; omega
  | .map es => by simp only [bulk0, Rows.uptoBulk]; omega
  | .held h => by simp only [bulk0, Rows.uptoBulk]; omega
theorem b0L {H : Type} : ∀ l : List (DataW H), bulk0L l ≤ Rows.uptoBulkAll l
  | [] => by simp [bulk0L]
  | x :: l => by have := b0 x; have := b0L l; simp only [bulk0L, Rows.uptoBulkAll]; omega
end
theorem b0app {H : Type} : ∀ a b : List (DataW H), bulk0L a ≤ bulk0L (a ++ b)
  | [], b => by simp [bulk0L]
  | x :: a, b => by have := b0app a b; simp only [List.cons_append, bulk0L]; omega
theorem small {H : Type} {ds gs : List (DataW H)} (h : Rows.uptoSmall H (ds ++ gs) = true) : bulk0L ds ≤ 1048576 := by
  have h1 : Rows.uptoBulkAll (ds ++ gs) ≤ 1048576 := by simpa [Rows.uptoSmall] using h
  exact Nat.le_trans (b0app ds gs) (Nat.le_trans (b0L _) h1)
set_option maxRecDepth 100000 in
theorem lifted (os : Os) (started : os.Started) (H : Type) (enc : TypeId × Value → H) (F : Stop.Interp) :
    ReturnsInHanded {} Try.checked os 9 .any ((Rows.OpenSpec.upto Rows.outcomeBackSpec).pre6 enc Try.prog Try.f9 Rows.outcomeBackUptoRow.domain false) (((Rows.OpenSpec.upto Rows.outcomeBackSpec).at F).post enc Try.prog Try.f9 false true false false) := by
  refine returnsInHanded_of_cond (C := Try.checked) (s := Rows.OpenSpec.upto Rows.outcomeBackSpec) (k := Rows.uptoSmall) rfl own started (by kernel_rfl) Try.func9
    (OpenSpec.witness (enc := enc) (C := Try.checked) (s := Rows.OpenSpec.upto Rows.outcomeBackSpec) (k := Rows.uptoSmall) rfl false ⟨#[], #[.agg #[.int .u8 0, .int .u64 0, .int .u64 0, .string ⟨#[]⟩], .agg #[.int .u8 0, .int .u64 0, .string ⟨#[]⟩, .slice none 0 0], .string ⟨#[]⟩], []⟩ 8 (by kernel_rfl) (by kernel_rfl) (by kernel_rfl)
      (x := ([.agg [.lit (.int .u8 0), .lit (.int .u64 0), .lit (.int .u64 0), .lit (.string [])], .agg [.lit (.int .u8 0), .lit (.int .u64 0), .lit (.string []), .nil], .lit (.string [])], [], [])) (by kernel_rfl) rfl (by kernel_rfl)) ?_
  intro W base args ds gs before hval0 hW _ hk _
  exact law_contractB tyok kids laid (by decide +kernel) rfl rfl Try.underlying4 (by
    intro ds hds
    match ds, hds with
    | [d0, d1, d2], _ => rfl) (fun dl hb ha => run dl ha (Nat.le_trans hb (small hk))) hval0 hW
theorem over : Rows.outcomeBackUptoRow.holds Try.pinned (Rows.OpenSpec.upto Rows.outcomeBackSpec) :=
  OpenClaim.holds_of_cond 9 Try.f9 rfl rfl rfl rfl rfl rfl rfl ⟨rfl, rfl, rfl, rfl, rfl⟩ rfl rfl rfl rfl rfl (by kernel_rfl) Try.func9 (by kernel_rfl)
    (of_decide_eq_true (by kernel_rfl)) (by unfold Func.isWrapper; first | (rw [if_pos (by decide +kernel)]; kernel_rfl) | (rw [if_neg (by decide +kernel)]; exact ⟨rfl, rfl⟩))
    (fun os started H enc _ F => lifted os started H enc F)
/-- the statement -/
theorem proved : Rows.OutcomeBackUptoSaid :=
  over
#print axioms proved
end Go.Proofs.Ytpeapoekjfonpaa.outcomeBack
