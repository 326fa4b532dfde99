/- OutcomeConds: PutCond and GetCond tell the value of any condition, and the condition of any value, as the document says; for arguments whose reading is of bulk at most 1048576. -/
import Derived.Test.YtpeapoekjfonpaaGreatWalk2
import Derived.Test.YtpeapoekjfonpaaGreatRows
set_option linter.unusedSimpArgs false
set_option linter.unusedVariables false
/- OutcomeConds -/
namespace Go.Proofs.YtpeapoekjfonpaaGreat.outcomeConds
set_option maxRecDepth 5000
open Go.ChangeShapes Go.WideShapes Go.ChangeAt Go.RowKit Go.Bw Go.Bw.R1
theorem run (dl : List D) (h : Args Tryz.prog Tryz.f3.params.toList dl) (hb : D.blkL dl ≤ 1048576) : CallT Tryz.prog (fun _ => .undef) 3 dl St.empty (fun r _ => r = .ret (.sc (.bool true))) := by
  obtain ⟨d0, r0, rfl, h0, h⟩ := Args.cons h
  obtain ⟨d, r, rfl, h1, h2⟩ := Args.cons h
  obtain rfl := Args.end_ h2
  obtain ⟨c, hw0, hs0⟩ := str_arg h0
  obtain ⟨v, hv, hw, hs⟩ := val_arg h1
  simp only [D.blkL] at hb
  exact law_run (.cons hw0 (.cons hw .nil)) (oconds_law c (by omega) v hv (by omega))
mutual
theorem b0 {H : Type} : ∀ x : DataW H, bulk0 x ≤ Rows.uptoBulk x
  | .lit l => by cases l <;> simp [bulk0, Rows.uptoBulk]
  | .nil => by simp [bulk0, Rows.uptoBulk]
  | .ptr d => by have := b0 d; simp only [bulk0, Rows.uptoBulk]; omega
  | .slice es sp => by have := b0L es; simp only [bulk0, Rows.uptoBulk]; omega
  | .agg ps => by have := b0L ps; simp only [bulk0, Rows.uptoBulk]; omega
  | .iface n d => by simp only [bulk0, Rows.uptoBulk]; omega
  | .map es => by simp only [bulk0, Rows.uptoBulk]; omega
  | .held h => by simp only [bulk0, Rows.uptoBulk]; omega
theorem b0L {H : Type} : ∀ l : List (DataW H), bulk0L l ≤ Rows.uptoBulkAll l
  | [] => by simp [bulk0L]
  | x :: l => by have := b0 x; have := b0L l; simp only [bulk0L, Rows.uptoBulkAll]; omega
end
theorem b0app {H : Type} : ∀ a b : List (DataW H), bulk0L a ≤ bulk0L (a ++ b)
  | [], b => by simp [bulk0L]
  | x :: a, b => by have := b0app a b; simp only [List.cons_append, bulk0L]; omega
theorem small {H : Type} {ds gs : List (DataW H)} (h : Rows.uptoSmall H (ds ++ gs) = true) : bulk0L ds ≤ 1048576 := by
  have h1 : Rows.uptoBulkAll (ds ++ gs) ≤ 1048576 := by simpa [Rows.uptoSmall] using h
  exact Nat.le_trans (b0app ds gs) (Nat.le_trans (b0L _) h1)
set_option maxRecDepth 100000 in
theorem lifted (os : Os) (started : os.Started) (H : Type) (enc : TypeId × Value → H) (F : Stop.Interp) :
    ReturnsInHanded {} Tryz.checked os 3 .any ((Rows.OpenSpec.upto Rows.outcomeCondsSpec).pre6 enc Tryz.prog Tryz.f3 Rows.outcomeCondsUptoRow.domain false) (((Rows.OpenSpec.upto Rows.outcomeCondsSpec).at F).post enc Tryz.prog Tryz.f3 false true false false) := by
  refine returnsInHanded_of_cond (C := Tryz.checked) (s := Rows.OpenSpec.upto Rows.outcomeCondsSpec) (k := Rows.uptoSmall) rfl own started (by kernel_rfl) Tryz.func3
    (OpenSpec.witness (enc := enc) (C := Tryz.checked) (s := Rows.OpenSpec.upto Rows.outcomeCondsSpec) (k := Rows.uptoSmall) rfl false ⟨#[], #[.string ⟨#[]⟩, .agg #[.int .u8 0, .int .u64 0, .string ⟨#[]⟩, .slice none 0 0]], []⟩ 8 (by kernel_rfl) (by kernel_rfl) (by kernel_rfl)
      (x := ([.lit (.string []), .agg [.lit (.int .u8 0), .lit (.int .u64 0), .lit (.string []), .nil]], [], [])) (by kernel_rfl) rfl (by kernel_rfl)) ?_
  intro W base args ds gs before hval0 hW _ hk _
  exact law_contractB tyok kids laid (by decide +kernel) rfl rfl Tryz.underlying4 (by
    intro ds hds
    match ds, hds with
    | [d0, d1], _ => rfl) (fun dl hb ha => run dl ha (Nat.le_trans hb (small hk))) hval0 hW
theorem over : Rows.outcomeCondsUptoRow.holds Tryz.pinned (Rows.OpenSpec.upto Rows.outcomeCondsSpec) :=
  OpenClaim.holds_of_cond 3 Tryz.f3 rfl rfl rfl rfl rfl rfl rfl ⟨rfl, rfl, rfl, rfl, rfl⟩ rfl rfl rfl rfl rfl (by kernel_rfl) Tryz.func3 (by kernel_rfl)
    (of_decide_eq_true (by kernel_rfl)) (by unfold Func.isWrapper; first | (rw [if_pos (by decide +kernel)]; kernel_rfl) | (rw [if_neg (by decide +kernel)]; exact ⟨rfl, rfl⟩))
    (fun os started H enc _ F => lifted os started H enc F)
/-- the statement -/
theorem proved : Rows.OutcomeCondsUptoSaid :=
  over
#print axioms proved
end Go.Proofs.YtpeapoekjfonpaaGreat.outcomeConds
