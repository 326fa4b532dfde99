/- DecodeShorter (bellwetherlaw06): of what is decoded encode tells no more bytes than it had, and these are decoded as the same, for every byte slice; on the tables decode.kinds and encode.codes as they are laid. -/
import Derived.Test.YtdobhepmepalpaaDoorWalk3
import Derived.Test.YtdobhepmepalpaaDoorCards
import Derived.Test.YtdobhepmepalpaaDoorTie
set_option linter.unusedSimpArgs false
set_option linter.unusedVariables false
/- DecodeShorter -/
namespace Go.Proofs.YtdobhepmepalpaaDoor.decodeShorter
set_option maxRecDepth 5000
open Go.ChangeShapes Go.WideShapes Go.ChangeAt Go.RowKit Go.Bw Go.Bw.R1
theorem run (dl : List D) (h : Args Tryd.prog Tryd.f12.params.toList dl) : CallT Tryd.prog gl0 12 dl St.empty (fun r _ => r = .ret (.sc (.bool true))) := by
  obtain ⟨a, r, rfl, h1, h2⟩ := Args.cons h
  obtain rfl := Args.end_ h2
  obtain ⟨s, hw1⟩ := bytes_arg h1
  exact law_runW (.cons hw1 .nil) (DecodeShorter_c s)
theorem met (os : Os) : laidMet Tryd.prog Rows.decodeShorterRow.laid ((laidWorld os).forCall (fun _ _ => 0) ⟨#[], #[.slice none 0 0], []⟩).memory :=
  laidMet_of_run' 8 (by kernel_rfl) (by kernel_rfl)
theorem reads (os : Os) {H : Type} (enc : TypeId × Value → H) : ∃ places, DataW.whole enc Tryd.prog ((laidWorld os).forCall (fun _ _ => 0) ⟨#[], #[.slice none 0 0], []⟩).memory Tryd.f12.params.toList Rows.decodeShorterSpec.vars false (#[.slice none 0 0] : Array Value).toList 8 = some ([.nil], [], places) :=
  ⟨[], by kernel_rfl⟩
set_option maxRecDepth 100000 in
theorem lifted (os : Os) (started : os.Started) (H : Type) (enc : TypeId × Value → H) (F : Stop.Interp) :
    ReturnsInHanded {} Tryd.checked os 12 .any ((OpenSpec.ofChange Rows.decodeShorterSpec).preRow enc Tryd.prog Tryd.f12 Rows.decodeShorterRow.domain false Rows.decodeShorterRow.laid) (((OpenSpec.ofChange Rows.decodeShorterSpec).at F).post enc Tryd.prog Tryd.f12 false true false false) := by
  obtain ⟨places, hx⟩ := reads os enc
  refine returnsInHanded_of_row (C := Tryd.checked) (s := (OpenSpec.ofChange Rows.decodeShorterSpec)) own started (by kernel_rfl) Tryd.func12
    (witness_row_at (enc := enc) (C := Tryd.checked) false (laidWorld os) #[.slice none 0 0] rfl (by kernel_rfl) (by kernel_rfl) (by kernel_rfl)
      (OpenSpec.preRow_of_cond 8 hx (by kernel_rfl) (fun k hk => by cases hk) (by kernel_rfl) (met os))) ?_
  intro W base args ds gs before hval0 hW _ hk _ hL _ _
  exact law_contractG (glob_laid hL) tyok kids laid (by decide +kernel) rfl rfl Tryd.underlying4 (by
    intro ds hds
    match ds, hds with
    | [d0], _ => rfl) (fun dl hb ha => run dl ha) hval0 hW
theorem over : Rows.decodeShorterRow.holds Tryd.pinned (OpenSpec.ofChange Rows.decodeShorterSpec) :=
  OpenClaim.holds_of_cond 12 Tryd.f12 rfl rfl rfl rfl rfl rfl rfl ⟨rfl, rfl, rfl, rfl, rfl⟩ rfl rfl rfl rfl rfl (by kernel_rfl) Tryd.func12 (by kernel_rfl)
    (of_decide_eq_true (by kernel_rfl)) (by unfold Func.isWrapper; first | (rw [if_pos (by decide +kernel)]; kernel_rfl) | (rw [if_neg (by decide +kernel)]; exact ⟨rfl, rfl⟩))
    (fun os started H enc _ F => by rw [OpenClaim.pre_eq_preRow]; exact lifted os started H enc F)
theorem plain (f : FuncId) (fn : Func) (hf : Tryd.pinned.checked.prog.funcNamed "bellwether/bellwetherlaw06.DecodeShorter" = some f) (hfn : Tryd.pinned.checked.prog.funcs[f]? = some fn) :
    true = Tryd.pinned.checked.prog.looks [] ∧ ∀ (j : Nat) t, fn.params[j]? = some t → Tryd.pinned.checked.prog.wantsStandIn t = false := by
  obtain rfl : f = 12 := Option.some.inj ((show Tryd.prog.funcNamed "bellwether/bellwetherlaw06.DecodeShorter" = some 12 by kernel_rfl).symm.trans hf) |>.symm
  obtain rfl : fn = Tryd.f12 := (Option.some.inj (Tryd.func12.symm.trans hfn)).symm
  refine ⟨by kernel_rfl, fun j t ht => ?_⟩
  have hm : t ∈ Tryd.f12.params.toList := by simpa using Array.mem_of_getElem? ht
  have hall : (Tryd.f12.params.toList.all fun u => !Tryd.prog.wantsStandIn u) = true := by kernel_rfl
  exact (show Tryd.prog.wantsStandIn t = false by simpa using List.all_eq_true.1 hall t hm)
/-- the card -/
theorem proved : Rows.DecodeShorterCardSaid :=
  Claim7.holds_tied_plain_at .later [] _ _ _ _ over (fun _ h => by cases h) (by kernel_rfl) (fun _ h => by cases h) decodeShorter_row_tie rfl ⟨rfl, rfl⟩ (by kernel_rfl) rfl plain (by kernel_rfl)
#print axioms proved
end Go.Proofs.YtdobhepmepalpaaDoor.decodeShorter
