/- EncodeArrays: an array of numbers has one code. -/
import Derived.Test.YtdobhepmepalpaaDoorWalk3
import Derived.Test.YtdobhepmepalpaaDoorCards
import Derived.Test.YtdobhepmepalpaaDoorTie
set_option linter.unusedSimpArgs false
set_option linter.unusedVariables false
/- EncodeArrays -/
namespace Go.Proofs.YtdobhepmepalpaaDoor.encodeArrays
set_option maxRecDepth 5000
open Go.ChangeShapes Go.WideShapes Go.ChangeAt Go.RowKit Go.Bw Go.Bw.R1
theorem nums_arg {d : D} (h : Arg Tryd.prog 47 d) : ∃ l : List Int, (∀ n ∈ l, 0 ≤ n ∧ n < 18446744073709551616) ∧ Wk d (.ro false (l.map fun n => .sc (.int .u64 n))) := by
  obtain ⟨l, h, hw⟩ := Arg.one (by kernel_rfl) (fun l : List Int => ∀ n ∈ l, IntKind.u64.min ≤ n ∧ n ≤ IntKind.u64.max) (fun l => .ro false (l.map fun n => .sc (.int .u64 n))) (fun ds hd => Rd.ints_inv Tryd.underlying47 Tryd.underlying24 hd) h
  exact ⟨l, fun n hn => by have := h n hn; simp [IntKind.min, IntKind.max, IntKind.signed, IntKind.bits] at this; omega, hw⟩
theorem run (dl : List D) (h : Args Tryd.prog Tryd.f9.params.toList dl) : CallT Tryd.prog gl0 9 dl St.empty (fun r _ => r = .ret (.sc (.bool true))) := by
  obtain ⟨a, r, rfl, h1, h2⟩ := Args.cons h
  obtain ⟨b, r, rfl, h3, h4⟩ := Args.cons h2
  obtain ⟨c, r, rfl, h5, h6⟩ := Args.cons h4
  obtain rfl := Args.end_ h6
  obtain ⟨k, hk, hw1⟩ := u8_arg h1
  obtain ⟨l, hl, hw2⟩ := nums_arg h3
  obtain ⟨m, hm, hw3⟩ := u64_arg h5
  exact law_run (.cons hw1 (.cons hw2 (.cons hw3 .nil))) (EncodeArrays_c k l m hk hl hm.1 hm.2)
theorem met (os : Os) : laidMet Tryd.prog Rows.encodeArraysRow.laid ((laidWorld os).forCall (fun _ _ => 0) ⟨#[], #[.int .u8 0, .slice none 0 0, .int .u64 0], []⟩).memory :=
  laidMet_of_run' 8 (by kernel_rfl) (by kernel_rfl)
theorem reads (os : Os) {H : Type} (enc : TypeId × Value → H) : ∃ places, DataW.whole enc Tryd.prog ((laidWorld os).forCall (fun _ _ => 0) ⟨#[], #[.int .u8 0, .slice none 0 0, .int .u64 0], []⟩).memory Tryd.f9.params.toList Rows.encodeArraysSpec.vars false (#[.int .u8 0, .slice none 0 0, .int .u64 0] : Array Value).toList 8 = some ([.lit (.int .u8 0), .nil, .lit (.int .u64 0)], [], places) :=
  ⟨[], by kernel_rfl⟩
set_option maxRecDepth 100000 in
theorem lifted (os : Os) (started : os.Started) (H : Type) (enc : TypeId × Value → H) (F : Stop.Interp) :
    ReturnsInHanded {} Tryd.checked os 9 .any ((OpenSpec.ofChange Rows.encodeArraysSpec).preRow enc Tryd.prog Tryd.f9 Rows.encodeArraysRow.domain false Rows.encodeArraysRow.laid) (((OpenSpec.ofChange Rows.encodeArraysSpec).at F).post enc Tryd.prog Tryd.f9 false true false false) := by
  obtain ⟨places, hx⟩ := reads os enc
  refine returnsInHanded_of_row (C := Tryd.checked) (s := (OpenSpec.ofChange Rows.encodeArraysSpec)) own started (by kernel_rfl) Tryd.func9
    (witness_row_at (enc := enc) (C := Tryd.checked) false (laidWorld os) #[.int .u8 0, .slice none 0 0, .int .u64 0] rfl (by kernel_rfl) (by kernel_rfl) (by kernel_rfl)
      (OpenSpec.preRow_of_cond 8 hx (by kernel_rfl) (fun k hk => by cases hk) (by kernel_rfl) (met os))) ?_
  intro W base args ds gs before hval0 hW _ hk _ hL _ _
  exact law_contractG (glob_laid hL) tyok kids laid (by decide +kernel) rfl rfl Tryd.underlying4 (by
    intro ds hds
    match ds, hds with
    | [d0, d1, d2], _ => rfl) (fun dl hb ha => run dl ha) hval0 hW
theorem over : Rows.encodeArraysRow.holds Tryd.pinned (OpenSpec.ofChange Rows.encodeArraysSpec) :=
  OpenClaim.holds_of_cond 9 Tryd.f9 rfl rfl rfl rfl rfl rfl rfl ⟨rfl, rfl, rfl, rfl, rfl⟩ rfl rfl rfl rfl rfl (by kernel_rfl) Tryd.func9 (by kernel_rfl)
    (of_decide_eq_true (by kernel_rfl)) (by unfold Func.isWrapper; first | (rw [if_pos (by decide +kernel)]; kernel_rfl) | (rw [if_neg (by decide +kernel)]; exact ⟨rfl, rfl⟩))
    (fun os started H enc _ F => by rw [OpenClaim.pre_eq_preRow]; exact lifted os started H enc F)
theorem plain (f : FuncId) (fn : Func) (hf : Tryd.pinned.checked.prog.funcNamed "bellwether/bellwetherlaw05.EncodeArrays" = some f) (hfn : Tryd.pinned.checked.prog.funcs[f]? = some fn) :
    true = Tryd.pinned.checked.prog.looks [] ∧ ∀ (j : Nat) t, fn.params[j]? = some t → Tryd.pinned.checked.prog.wantsStandIn t = false := by
  obtain rfl : f = 9 := Option.some.inj ((show Tryd.prog.funcNamed "bellwether/bellwetherlaw05.EncodeArrays" = some 9 by kernel_rfl).symm.trans hf) |>.symm
  obtain rfl : fn = Tryd.f9 := (Option.some.inj (Tryd.func9.symm.trans hfn)).symm
  refine ⟨by kernel_rfl, fun j t ht => ?_⟩
  have hm : t ∈ Tryd.f9.params.toList := by simpa using Array.mem_of_getElem? ht
  have hall : (Tryd.f9.params.toList.all fun u => !Tryd.prog.wantsStandIn u) = true := by kernel_rfl
  exact (show Tryd.prog.wantsStandIn t = false by simpa using List.all_eq_true.1 hall t hm)
/-- the card -/
theorem proved : Rows.EncodeArraysCardSaid :=
  Claim7.holds_tied_plain_at .later [] _ _ _ _ over (fun _ h => by cases h) (by kernel_rfl) (fun _ h => by cases h) encodeArrays_row_tie rfl ⟨rfl, rfl⟩ (by kernel_rfl) rfl plain (by kernel_rfl)
#print axioms proved
end Go.Proofs.YtdobhepmepalpaaDoor.encodeArrays
