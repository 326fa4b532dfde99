/- Behind an Abort nothing more goes; by an evaluator proved sound. Conditions: none beyond the card. -/
import Derived.Test.YtmhpipnapobbiaaGreatDoorRRRRWalk2
import Derived.Test.YtmhpipnapobbiaaGreatDoorRRRRCards
import Derived.Test.YtmhpipnapobbiaaGreatDoorRRRRTie
set_option linter.unusedSimpArgs false
set_option linter.unusedVariables false
/- SplitAborts -/
namespace Go.Proofs.YtmhpipnapobbiaaGreatDoorRRRR.splitAborts
set_option maxRecDepth 5000
open Go.ChangeShapes Go.WideShapes Go.ChangeAt Go.RowKit Go.Bw Go.Bw.R1
theorem run (dl : List D) (h : Args Tryz.prog Tryz.f4.params.toList dl) : CallT Tryz.prog gl0 4 dl St.empty (fun r _ => r = .ret (.sc (.bool true))) := by
  obtain ⟨a, r, rfl, h1, h2⟩ := Args.cons h
  obtain ⟨b, r, rfl, h3, h4⟩ := Args.cons h2
  obtain rfl := Args.end_ h4
  obtain ⟨o, ho, hw1⟩ := out_arg h1
  obtain ⟨n, hn, hw2⟩ := u8_arg h3
  exact law_run (.cons hw1 (.cons hw2 .nil)) (SplitAborts_c o ho n hn)
theorem met (os : Os) : laidMet Tryz.prog Rows.splitAbortsRow.laid ((laidWorld os).forCall (fun _ _ => 0) ⟨#[], #[.agg #[.string ⟨#[]⟩, .bool false, .bool false, .int .u8 0, .int .u64 0, .int .u64 0, .string ⟨#[]⟩, .slice none 0 0], .int .u8 0], []⟩).memory :=
  laidMet_of_run' 8 (by kernel_rfl) (by kernel_rfl)
theorem reads (os : Os) {H : Type} (enc : TypeId × Value → H) : ∃ places, DataW.whole enc Tryz.prog ((laidWorld os).forCall (fun _ _ => 0) ⟨#[], #[.agg #[.string ⟨#[]⟩, .bool false, .bool false, .int .u8 0, .int .u64 0, .int .u64 0, .string ⟨#[]⟩, .slice none 0 0], .int .u8 0], []⟩).memory Tryz.f4.params.toList Rows.splitAbortsSpec.vars false (#[.agg #[.string ⟨#[]⟩, .bool false, .bool false, .int .u8 0, .int .u64 0, .int .u64 0, .string ⟨#[]⟩, .slice none 0 0], .int .u8 0] : Array Value).toList 8 = some ([.agg [.lit (.string []), .lit (.bool false), .lit (.bool false), .agg [.lit (.int .u8 0), .lit (.int .u64 0), .lit (.int .u64 0), .lit (.string [])], .nil], .lit (.int .u8 0)], [], places) :=
  ⟨[], by kernel_rfl⟩
set_option maxRecDepth 100000 in
theorem lifted (os : Os) (started : os.Started) (H : Type) (enc : TypeId × Value → H) (F : Stop.Interp) :
    ReturnsInHanded {} Tryz.checked os 4 .any ((OpenSpec.ofChange Rows.splitAbortsSpec).preRow enc Tryz.prog Tryz.f4 Rows.splitAbortsRow.domain false Rows.splitAbortsRow.laid) (((OpenSpec.ofChange Rows.splitAbortsSpec).at F).post enc Tryz.prog Tryz.f4 false true false false) := by
  obtain ⟨places, hx⟩ := reads os enc
  refine returnsInHanded_of_row (C := Tryz.checked) (s := (OpenSpec.ofChange Rows.splitAbortsSpec)) own started (by kernel_rfl) Tryz.func4
    (witness_row_at (enc := enc) (C := Tryz.checked) false (laidWorld os) #[.agg #[.string ⟨#[]⟩, .bool false, .bool false, .int .u8 0, .int .u64 0, .int .u64 0, .string ⟨#[]⟩, .slice none 0 0], .int .u8 0] rfl (by kernel_rfl) (by kernel_rfl) (by kernel_rfl)
      (OpenSpec.preRow_of_cond 8 hx (by kernel_rfl) (fun k hk => by cases hk) (by kernel_rfl) (met os))) ?_
  intro W base args ds gs before hval0 hW _ hk _ hL _ _
  exact law_contractG (glob_laid hL) tyok kids laid (by decide +kernel) rfl rfl Tryz.underlying4 (by
    intro ds hds
    match ds, hds with
    | [d0, d1], _ => rfl) (fun dl hb ha => run dl ha) hval0 hW
theorem over : Rows.splitAbortsRow.holds Tryz.pinned (OpenSpec.ofChange Rows.splitAbortsSpec) :=
  OpenClaim.holds_of_cond 4 Tryz.f4 rfl rfl rfl rfl rfl rfl rfl ⟨rfl, rfl, rfl, rfl, rfl⟩ rfl rfl rfl rfl rfl (by kernel_rfl) Tryz.func4 (by kernel_rfl)
    (of_decide_eq_true (by kernel_rfl)) (by unfold Func.isWrapper; first | (rw [if_pos (by decide +kernel)]; kernel_rfl) | (rw [if_neg (by decide +kernel)]; exact ⟨rfl, rfl⟩))
    (fun os started H enc _ F => by rw [OpenClaim.pre_eq_preRow]; exact lifted os started H enc F)
theorem plain (f : FuncId) (fn : Func) (hf : Tryz.pinned.checked.prog.funcNamed "bellwether/bellwetherlaw17.SplitAborts" = some f) (hfn : Tryz.pinned.checked.prog.funcs[f]? = some fn) :
    false = Tryz.pinned.checked.prog.looks [] ∧ ∀ (j : Nat) t, fn.params[j]? = some t → Tryz.pinned.checked.prog.wantsStandIn t = false := by
  obtain rfl : f = 4 := Option.some.inj ((show Tryz.prog.funcNamed "bellwether/bellwetherlaw17.SplitAborts" = some 4 by kernel_rfl).symm.trans hf) |>.symm
  obtain rfl : fn = Tryz.f4 := (Option.some.inj (Tryz.func4.symm.trans hfn)).symm
  refine ⟨by kernel_rfl, fun j t ht => ?_⟩
  have hm : t ∈ Tryz.f4.params.toList := by simpa using Array.mem_of_getElem? ht
  have hall : (Tryz.f4.params.toList.all fun u => !Tryz.prog.wantsStandIn u) = true := by kernel_rfl
  exact (show Tryz.prog.wantsStandIn t = false by simpa using List.all_eq_true.1 hall t hm)
/-- the card -/
theorem proved : Rows.SplitAbortsCardSaid :=
  Claim7.holds_tied_plain_at .later [] _ _ _ _ over (fun _ h => by cases h) (by kernel_rfl) (fun _ h => by cases h) splitAborts_row_tie rfl ⟨rfl, rfl⟩ (by kernel_rfl) rfl plain (by kernel_rfl)
#print axioms proved
end Go.Proofs.YtmhpipnapobbiaaGreatDoorRRRR.splitAborts
