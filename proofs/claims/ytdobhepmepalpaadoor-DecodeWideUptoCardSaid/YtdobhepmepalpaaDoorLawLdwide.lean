/- DecodeWide (bellwetherlaw06): lists, maps and texts told by more bytes are the same, and with a wrong size or count they are wrong, or short, for every list of values of bulk at most 1048576, every text and every number; on the tables decode.kinds and encode.codes as they are laid. -/
import Derived.Test.YtdobhepmepalpaaDoorWalk3
import Derived.Test.YtdobhepmepalpaaDoorCards
import Derived.Test.YtdobhepmepalpaaDoorTie
set_option linter.unusedSimpArgs false
set_option linter.unusedVariables false
/- DecodeWide -/
namespace Go.Proofs.YtdobhepmepalpaaDoor.decodeWide
set_option maxRecDepth 5000
open Go.ChangeShapes Go.WideShapes Go.ChangeAt Go.RowKit Go.Bw Go.Bw.R1
theorem run (dl : List D) (h : Args Tryd.prog Tryd.f13.params.toList dl) (hb : D.blkL dl ≤ 1048576) : CallT Tryd.prog gl0 13 dl St.empty (fun r _ => r = .ret (.sc (.bool true))) := by
  obtain ⟨a, r, rfl, h1, h2⟩ := Args.cons h
  obtain ⟨b, r, rfl, h3, h4⟩ := Args.cons h2
  obtain ⟨c, r, rfl, h5, h6⟩ := Args.cons h4
  obtain rfl := Args.end_ h6
  obtain ⟨l, hl, hw1, hs⟩ := vals_arg h1
  obtain ⟨s, hw2, _⟩ := str_arg h3
  obtain ⟨n, hn, hw3⟩ := u8_arg h5
  simp only [D.blkL] at hb
  have e : ((n.toNat : Nat) : Int) = n := Int.toNat_of_nonneg hn.1
  rw [← e] at hw3
  exact law_runW (.cons hw1 (.cons hw2 (.cons hw3 .nil))) (DecodeWide_c l s n.toNat hl (by omega) (by omega))
mutual
theorem b0 {H : Type} : ∀ x : DataW H, bulk0 x ≤ Rows.uptoBulk x
  | .lit l => by cases l <;> simp [bulk0, Rows.uptoBulk]
  | .nil => by simp [bulk0, Rows.uptoBulk]
  | .ptr d => by have := b0 d; simp only [bulk0, Rows.uptoBulk]; omega
  | .slice es sp => by have := b0L es; simp only [bulk0, Rows.uptoBulk]; omega
  | .agg ps => by have := b0L ps; simp only [bulk0, Rows.uptoBulk]; omega
  | .iface n d => by simp only [bulk0, Rows.uptoBulk]; omega
  | .map es => by simp only [bulk0, Rows.uptoBulk]; omega
  | .held h => by simp only [bulk0, Rows.uptoBulk]; omega
theorem b0L {H : Type} : ∀ l : List (DataW H), bulk0L l ≤ Rows.uptoBulkAll l
  | [] => by simp [bulk0L]
  | x :: l => by have := b0 x; have := b0L l; simp only [bulk0L, Rows.uptoBulkAll]; omega
end
theorem b0app {H : Type} : ∀ a b : List (DataW H), bulk0L a ≤ bulk0L (a ++ b)
  | [], b => by simp [bulk0L]
  | x :: a, b => by have := b0app a b; simp only [List.cons_append, bulk0L]; omega
theorem small {H : Type} {ds gs : List (DataW H)} (h : Rows.uptoSmall H (ds ++ gs) = true) : bulk0L ds ≤ 1048576 := by
  have h1 : Rows.uptoBulkAll (ds ++ gs) ≤ 1048576 := by simpa [Rows.uptoSmall] using h
  exact Nat.le_trans (b0app ds gs) (Nat.le_trans (b0L _) h1)
theorem met (os : Os) : laidMet Tryd.prog Rows.decodeWideUptoRow.laid ((laidWorld os).forCall (fun _ _ => 0) ⟨#[], #[.slice none 0 0, .string ⟨#[]⟩, .int .u8 0], []⟩).memory :=
  laidMet_of_run' 8 (by kernel_rfl) (by kernel_rfl)
theorem reads (os : Os) {H : Type} (enc : TypeId × Value → H) : ∃ places, DataW.whole enc Tryd.prog ((laidWorld os).forCall (fun _ _ => 0) ⟨#[], #[.slice none 0 0, .string ⟨#[]⟩, .int .u8 0], []⟩).memory Tryd.f13.params.toList Rows.decodeWideSpec.vars false (#[.slice none 0 0, .string ⟨#[]⟩, .int .u8 0] : Array Value).toList 8 = some ([.nil, .lit (.string []), .lit (.int .u8 0)], [], places) :=
  ⟨[], by kernel_rfl⟩
set_option maxRecDepth 100000 in
theorem lifted (os : Os) (started : os.Started) (H : Type) (enc : TypeId × Value → H) (F : Stop.Interp) :
    ReturnsInHanded {} Tryd.checked os 13 .any ((Rows.OpenSpec.upto Rows.decodeWideSpec).preRow enc Tryd.prog Tryd.f13 Rows.decodeWideUptoRow.domain false Rows.decodeWideUptoRow.laid) (((Rows.OpenSpec.upto Rows.decodeWideSpec).at F).post enc Tryd.prog Tryd.f13 false true false false) := by
  obtain ⟨places, hx⟩ := reads os enc
  refine returnsInHanded_of_row (C := Tryd.checked) (s := (Rows.OpenSpec.upto Rows.decodeWideSpec)) own started (by kernel_rfl) Tryd.func13
    (witness_row_at (enc := enc) (C := Tryd.checked) false (laidWorld os) #[.slice none 0 0, .string ⟨#[]⟩, .int .u8 0] rfl (by kernel_rfl) (by kernel_rfl) (by kernel_rfl)
      (OpenSpec.preRow_of_cond 8 hx (by kernel_rfl) (fun k hk => by cases hk; kernel_rfl) (by kernel_rfl) (met os))) ?_
  intro W base args ds gs before hval0 hW _ hk _ hL _ _
  exact law_contractG (glob_laid hL) tyok kids laid (by decide +kernel) rfl rfl Tryd.underlying4 (by
    intro ds hds
    match ds, hds with
    | [d0, d1, d2], _ => rfl) (fun dl hb ha => run dl ha (Nat.le_trans hb (small (hk _ rfl)))) hval0 hW
theorem over : Rows.decodeWideUptoRow.holds Tryd.pinned (Rows.OpenSpec.upto Rows.decodeWideSpec) :=
  OpenClaim.holds_of_cond 13 Tryd.f13 rfl rfl rfl rfl rfl rfl rfl ⟨rfl, rfl, rfl, rfl, rfl⟩ rfl rfl rfl rfl rfl (by kernel_rfl) Tryd.func13 (by kernel_rfl)
    (of_decide_eq_true (by kernel_rfl)) (by unfold Func.isWrapper; first | (rw [if_pos (by decide +kernel)]; kernel_rfl) | (rw [if_neg (by decide +kernel)]; exact ⟨rfl, rfl⟩))
    (fun os started H enc _ F => by rw [OpenClaim.pre_eq_preRow]; exact lifted os started H enc F)
theorem plain (f : FuncId) (fn : Func) (hf : Tryd.pinned.checked.prog.funcNamed "bellwether/bellwetherlaw06.DecodeWide" = some f) (hfn : Tryd.pinned.checked.prog.funcs[f]? = some fn) :
    true = Tryd.pinned.checked.prog.looks [] ∧ ∀ (j : Nat) t, fn.params[j]? = some t → Tryd.pinned.checked.prog.wantsStandIn t = false := by
  obtain rfl : f = 13 := Option.some.inj ((show Tryd.prog.funcNamed "bellwether/bellwetherlaw06.DecodeWide" = some 13 by kernel_rfl).symm.trans hf) |>.symm
  obtain rfl : fn = Tryd.f13 := (Option.some.inj (Tryd.func13.symm.trans hfn)).symm
  refine ⟨by kernel_rfl, fun j t ht => ?_⟩
  have hm : t ∈ Tryd.f13.params.toList := by simpa using Array.mem_of_getElem? ht
  have hall : (Tryd.f13.params.toList.all fun u => !Tryd.prog.wantsStandIn u) = true := by kernel_rfl
  exact (show Tryd.prog.wantsStandIn t = false by simpa using List.all_eq_true.1 hall t hm)
/-- the card -/
theorem proved : Rows.DecodeWideUptoCardSaid :=
  Claim7.holds_tied_plain_at .later [] _ _ _ _ over (fun _ h => by cases h) (by kernel_rfl) (fun _ h => by cases h) decodeWideUpto_row_tie rfl ⟨rfl, rfl⟩ (by kernel_rfl) rfl plain (by kernel_rfl)
#print axioms proved
end Go.Proofs.YtdobhepmepalpaaDoor.decodeWide
