/- Of any pieces of data: cut into as many sections as you like, up to what may be, message.Get tells them as one body. Conditions: none beyond the card. -/
import Derived.Test.YtffifncopceefaaGreatDoorWalk3
import Derived.Test.YtffifncopceefaaGreatDoorCards
import Derived.Test.YtffifncopceefaaGreatDoorTie
set_option linter.unusedSimpArgs false
set_option linter.unusedVariables false
/- law10: data may be cut into sections: the law. -/
namespace Go.Bw.R1
set_option maxRecDepth 5000
open Go Go.Bw Go.Proofs
set_option maxHeartbeats 4000000 in
theorem MessageCuts_c (ps : List ByteArray) (more : Int) : EL 6 [.ro false (bytessD ps), I more] [] = some (.ret (B true), []) := by
  have hW := worksL
  refine (ev_body ⟨[], [(0, [0, 1, 5, 6, 7])], [], false, [(3000011, [5, 6])], noIt⟩ [.tmp 4] rfl Tryz.func6 rfl rfl rfl (by kernel_rfl) (by show 2 ≤ 91; decide) (by kernel_rfl)).trans ?_
  by_cases hl : (60 : Int) < ps.length
  · have g1 : decide ((60 : Int) < ps.length) = true := decide_eq_true hl
    simp +contextual (maxSteps := 10000000) only [go_sem, g1, hW]
  have g1 : decide ((60 : Int) < ps.length) = false := decide_eq_false hl
  simp +contextual (maxSteps := 10000000) only [go_sem, g1]
  refine lpK_inv (fun m f es => ∃ (i : Nat) (j : Int), j = i ∧ m + i = ps.length ∧ (∀ p ∈ ps.take i, p.size ≤ 4096) ∧
    ((i = 0 ∧ f = cutF ps more .nils .nils j ∧ es = []) ∨
     (0 < i ∧ (joinB (ps.take i)).size = 0 ∧ f = cutF ps more (.ref 0 0 1 0 (datB (ps.take i)).size) .nils j ∧ es = [some ⟨0, bytesD (datB (ps.take i))⟩]) ∨
     (0 < i ∧ ¬ (joinB (ps.take i)).size = 0 ∧ f = cutF ps more (.ref 0 0 1 0 (datB (ps.take i)).size) (.ref 1 0 1 0 (joinB (ps.take i)).size) j ∧ es = [some ⟨0, bytesD (datB (ps.take i))⟩, some ⟨0, bytesD (joinB (ps.take i))⟩]))) ps.length ⟨0, _, rfl, by omega, by simp, .inl ⟨rfl, rfl, rfl⟩⟩ ?_
  rintro m _ _ ⟨i, _, rfl, hmi, hsm, hst⟩ ih
  cases m with
  | succ m =>
    obtain ⟨p, hp⟩ := get_lt (l := ps) (i := i) (by omega)
    have hlt : decide ((i : Int) < ps.length) = true := by simp; omega
    have hip : (bytessD ps)[i]? = some (.ro false (bytesD p)) := by unfold bytessD; rw [List.getElem?_map, hp]; rfl
    by_cases hbig : (4096 : Int) < p.size
    · have g2 : decide ((4096 : Int) < p.size) = true := decide_eq_true hbig
      rcases hst with ⟨rfl, rfl, rfl⟩ | ⟨hpos, hz, rfl, rfl⟩ | ⟨hpos, hz, rfl, rfl⟩
      · have hlt0 : decide ((0 : Int) < ps.length) = true := by simpa using hlt
        unfold cutF
        simp +contextual (maxSteps := 10000000) only [go_sem, hlt0, hip, g2, hW]
      · unfold cutF
        simp +contextual (maxSteps := 10000000) only [go_sem, hlt, hip, g2, hW]
      · unfold cutF
        simp +contextual (maxSteps := 10000000) only [go_sem, hlt, hip, g2, hW]
    have g2 : decide ((4096 : Int) < p.size) = false := decide_eq_false hbig
    have hpl : p.size ≤ 4096 := by omega
    have hts := take_snoc hp
    have hsm' : ∀ q ∈ ps.take (i + 1), q.size ≤ 4096 := fun q hq => by
      rw [hts] at hq
      rcases List.mem_append.1 hq with hq | hq
      · exact hsm q hq
      · rw [List.mem_singleton.1 hq]; exact hpl
    have hda := el_ev (f := 21) rfl rfl rfl (mdata_c p (by omega))
    have w1 : ¬ (wrV (datV p)).size = 0 := by have := wr_pos (datV p); omega
    have w2 : (wrV (datV p)).size ≤ 41000 := by have := wr_sz (datV p); have := dat_sz p; omega
    have w3 : (wrV (datV p)).size ≤ 140737488355328 := by omega
    have hdt : datB (ps.take (i + 1)) = datB (ps.take i) ++ wrV (datV p) := by rw [hts, datB_snoc]
    have hjn : joinB (ps.take (i + 1)) = joinB (ps.take i) ++ p := by rw [hts, joinB_snoc]
    have hil : (ps.take i).length ≤ 60 := by rw [List.length_take]; omega
    have b1 := datB_size hsm
    have b2 := joinB_size _ hsm
    have w5 : (datB (ps.take i)).size + (wrV (datV p)).size ≤ 140737488355328 := by omega
    have w6 : (joinB (ps.take i)).size + p.size ≤ 140737488355328 := by omega
    have w7 : p.size ≤ 140737488355328 := by omega
    generalize wrV (datV p) = W at *
    rcases hst with ⟨rfl, rfl, rfl⟩ | ⟨hpos, hz, rfl, rfl⟩ | ⟨hpos, hz, rfl, rfl⟩
    · have hlt0 : decide ((0 : Int) < ps.length) = true := by simpa using hlt
      rw [show ps.take 0 = [] by rfl, show datB [] = e0 by rfl, e0_app] at hdt
      rw [show ps.take 0 = [] by rfl, show joinB [] = e0 by rfl, e0_app] at hjn
      unfold cutF
      by_cases hp0 : p.size = 0
      · simp +contextual (maxSteps := 10000000) only [go_sem, hlt0, hip, g2, hda, w1, w3, hp0]
        exact ih m _ _ (by omega) ⟨1, 1, rfl, by omega, hsm', .inr (.inl ⟨by omega, by rw [hjn]; exact hp0, by rw [hdt], by rw [hdt]⟩)⟩
      · simp +contextual (maxSteps := 10000000) only [go_sem, hlt0, hip, g2, hda, w1, w3, hp0, w7]
        exact ih m _ _ (by omega) ⟨1, 1, rfl, by omega, hsm', .inr (.inr ⟨by omega, by rw [hjn]; exact hp0, by rw [hdt, hjn], by rw [hdt, hjn]⟩)⟩
    · have hz' : joinB (ps.take i) = e0 := ByteArray.ext (Array.eq_empty_of_size_eq_zero hz)
      rw [hz', e0_app] at hjn
      unfold cutF
      by_cases hp0 : p.size = 0
      · simp +contextual (maxSteps := 10000000) only [go_sem, hlt, hip, g2, hda, w1, w3, w5, hp0, bytesD_one, wrap_i64 (n := (i : Int) + 1) (by omega) (by omega)]
        exact ih m _ _ (by omega) ⟨i + 1, (i : Int) + 1, by omega, by omega, hsm', .inr (.inl ⟨by omega, by rw [hjn]; exact hp0, by rw [hdt, ByteArray.size_append], by rw [hdt]⟩)⟩
      · simp +contextual (maxSteps := 10000000) only [go_sem, hlt, hip, g2, hda, w1, w3, w5, hp0, w7, bytesD_one, wrap_i64 (n := (i : Int) + 1) (by omega) (by omega)]
        exact ih m _ _ (by omega) ⟨i + 1, (i : Int) + 1, by omega, by omega, hsm', .inr (.inr ⟨by omega, by rw [hjn]; exact hp0, by rw [hdt, hjn, ByteArray.size_append], by rw [hdt, hjn]⟩)⟩
    · unfold cutF
      by_cases hp0 : p.size = 0
      · have hj2 : joinB (ps.take (i + 1)) = joinB (ps.take i) := by rw [hjn, show p = e0 from ByteArray.ext (Array.eq_empty_of_size_eq_zero hp0), ba_e0]
        simp +contextual (maxSteps := 10000000) only [go_sem, hlt, hip, g2, hda, w1, w3, w5, w6, hp0, bytesD_one, wrap_i64 (n := (i : Int) + 1) (by omega) (by omega)]
        exact ih m _ _ (by omega) ⟨i + 1, (i : Int) + 1, by omega, by omega, hsm', .inr (.inr ⟨by omega, by rw [hj2]; exact hz, by rw [hdt, hj2, ByteArray.size_append], by rw [hdt, hj2]⟩)⟩
      · simp +contextual (maxSteps := 10000000) only [go_sem, hlt, hip, g2, hda, w1, w3, w5, w6, hp0, w7, bytesD_one, wrap_i64 (n := (i : Int) + 1) (by omega) (by omega)]
        exact ih m _ _ (by omega) ⟨i + 1, (i : Int) + 1, by omega, by omega, hsm', .inr (.inr ⟨by omega, by rw [hjn, ByteArray.size_append]; omega, by rw [hdt, hjn, ByteArray.size_append, ByteArray.size_append], by rw [hdt, hjn]⟩)⟩
  | zero =>
    have hin : i = ps.length := by omega
    subst hin
    rw [List.take_length] at hst hsm
    have hx := datB_size hsm
    have hlt : decide ((ps.length : Int) < ps.length) = false := decide_eq_false (by omega)
    obtain ⟨k, hk, hk2⟩ : ∃ k : Nat, (if (if (4096 : Int) < more then 4096 else more) > 0 then if (4096 : Int) < more then 4096 else more else 0) = (k : Int) ∧ k ≤ 4096 := ⟨(if (if (4096 : Int) < more then 4096 else more) > 0 then if (4096 : Int) < more then 4096 else more else 0).toNat, by split <;> split at * <;> omega, by split <;> split at * <;> omega⟩
    have hx1 := joinB_size _ hsm
    have hl60 : ps.length ≤ 60 := by omega
    have hx2 : 4096 * ps.length ≤ 245760 := by omega
    obtain ⟨n, hn⟩ : ∃ n, n = (joinB ps).size + k := ⟨_, rfl⟩
    have hd := el_ev (f := 21) rfl rfl rfl (mdata_row n (by omega))
    have hG := getL_r (wrV (datV (zs n))) (by have := wr_sz (datV (zs n)); have := dat_sz (zs n); have := zs_size n; omega)
    have hj1 : getM (toL (wrV (datV (zs n)))) = if n ≤ 2048 then some (plainM (zs n)) else none := by
      have := getM_datB [zs n] (by simp [zs_size]; omega)
      rw [show datB [zs n] = wrV (datV (zs n)) from ba_e0 _, show joinB [zs n] = zs n from ba_e0 _, zs_size] at this
      rw [this]
      by_cases h : n ≤ 2048
      · rw [if_pos h, if_pos ⟨by simp, h⟩]
      · rw [if_neg h, if_neg (fun hh => h hh.2)]
    rw [hj1] at hG
    have hW1 : IntKind.i64.wrap ((joinB ps).size + (k : Int)) = (n : Int) := by rw [wrap_i64 (by omega) (by omega)]; omega
    have hn2 : n ≤ 140737488355328 := by omega
    generalize wrV (datV (zs n)) = Z at *
    have hs := sameEL (plainM (joinB ps)) (plainM (joinB ps))
    rw [sameM_self] at hs
    have ee : e0 = (⟨#[]⟩ : ByteArray) := rfl
    simp only [plainM, Msg.d, ee] at hs
    rcases hst with ⟨h0, rfl, rfl⟩ | ⟨hpos, hz, rfl, rfl⟩ | ⟨hpos, hz, rfl, rfl⟩
    · unfold cutF
      have h0' : ((ps.length : Int) == 0) = true := by rw [h0]; rfl
      have h00 : decide ((0 : Int) < 0) = false := rfl
      have gn := getL_nil
      unfold Msg.d at gn
      simp +contextual (maxSteps := 10000000) only [go_sem, hlt, h0', gn, hW, h0]
    · have hz' : joinB ps = e0 := ByteArray.ext (Array.eq_empty_of_size_eq_zero hz)
      have hne : ps ≠ [] := fun h => by rw [h] at hpos; exact absurd hpos (by decide)
      have h0' : ((ps.length : Int) == 0) = false := by rw [beq_eq_false_iff_ne]; omega
      have gb := getL_r (datB ps) (by omega)
      rw [getM_datB ps (fun p hp => by have := hsm p hp; omega), if_pos ⟨hne, by omega⟩] at gb
      rw [hz', ee, bytesD_nil] at hs
      rw [hz'] at gb
      simp only [plainM, Msg.d, ee, bytesD_nil] at gb
      unfold cutF
      have hW2 : IntKind.i64.wrap (0 + (k : Int)) = (n : Int) := by rw [← hW1, hz]; rfl
      by_cases hnn : n ≤ 2048
      · have g9 : decide ((n : Int) ≤ 2048) = true := decide_eq_true (by omega)
        rw [if_pos hnn] at hG
        simp only [plainM, Msg.d, ee] at hG
        simp +contextual (maxSteps := 10000000) only [go_sem, hlt, h0', gb, hs, hW, hk, hW2, hd, hG, mk_bytes (n := n) bsl' hn2, g9]
      · have g9 : decide ((n : Int) ≤ 2048) = false := decide_eq_false (by omega)
        rw [if_neg hnn] at hG
        simp only [plainM, Msg.d, ee] at hG
        simp +contextual (maxSteps := 10000000) only [go_sem, hlt, h0', gb, hs, hW, hk, hW2, hd, hG, mk_bytes (n := n) bsl' hn2, g9]
    · have hne : ps ≠ [] := fun h => by rw [h] at hpos; exact absurd hpos (by decide)
      have h0' : ((ps.length : Int) == 0) = false := by rw [beq_eq_false_iff_ne]; omega
      have gb := getL_r (datB ps) (by omega)
      rw [getM_datB ps (fun p hp => by have := hsm p hp; omega)] at gb
      unfold cutF
      by_cases hw : (joinB ps).size ≤ 2048
      · have gw : decide ((2048 : Int) < (joinB ps).size) = false := decide_eq_false (by omega)
        rw [if_pos ⟨hne, hw⟩] at gb
        simp only [plainM, Msg.d, ee] at gb
        by_cases hnn : n ≤ 2048
        · have g9 : decide ((n : Int) ≤ 2048) = true := decide_eq_true (by omega)
          rw [if_pos hnn] at hG
          simp only [plainM, Msg.d, ee] at hG
          simp +contextual (maxSteps := 10000000) only [go_sem, hlt, h0', gb, hs, hW, gw, hk, hW1, hd, hG, mk_bytes (n := n) bsl' hn2, g9]
        · have g9 : decide ((n : Int) ≤ 2048) = false := decide_eq_false (by omega)
          rw [if_neg hnn] at hG
          simp only [plainM, Msg.d, ee] at hG
          simp +contextual (maxSteps := 10000000) only [go_sem, hlt, h0', gb, hs, hW, gw, hk, hW1, hd, hG, mk_bytes (n := n) bsl' hn2, g9]
      · have gw : decide ((2048 : Int) < (joinB ps).size) = true := decide_eq_true (by omega)
        rw [if_neg (fun h => hw h.2)] at gb
        unfold Msg.d at gb
        dsimp only at gb
        simp +contextual (maxSteps := 10000000) only [go_sem, hlt, h0', gb, hs, hW, gw]
end Go.Bw.R1

/- MessageCuts -/
namespace Go.Proofs.YtffifncopceefaaGreatDoor.messageCuts
set_option maxRecDepth 5000
open Go.ChangeShapes Go.WideShapes Go.ChangeAt Go.RowKit Go.Bw Go.Bw.R1
theorem run (dl : List D) (h : Args Tryz.prog Tryz.f6.params.toList dl) : CallT Tryz.prog gl0 6 dl St.empty (fun r _ => r = .ret (.sc (.bool true))) := by
  obtain ⟨a, r, rfl, h1, h2⟩ := Args.cons h
  obtain ⟨b, r, rfl, h3, h4⟩ := Args.cons h2
  obtain rfl := Args.end_ h4
  obtain ⟨l, hw1⟩ := bytess_arg h1
  obtain ⟨n, hn, hw2⟩ := int_arg h3
  exact law_runL (.cons hw1 (.cons hw2 .nil)) (MessageCuts_c l n)
theorem met (os : Os) : laidMet Tryz.prog Rows.messageCutsRow.laid ((laidWorld os).forCall (fun _ _ => 0) ⟨#[], #[.slice none 0 0, .int .i64 0], []⟩).memory :=
  laidMet_of_run' 8 (by kernel_rfl) (by kernel_rfl)
theorem reads (os : Os) {H : Type} (enc : TypeId × Value → H) : ∃ places, DataW.whole enc Tryz.prog ((laidWorld os).forCall (fun _ _ => 0) ⟨#[], #[.slice none 0 0, .int .i64 0], []⟩).memory Tryz.f6.params.toList Rows.messageCutsSpec.vars false (#[.slice none 0 0, .int .i64 0] : Array Value).toList 8 = some ([.nil, .lit (.int .i64 0)], [], places) :=
  ⟨[], by kernel_rfl⟩
set_option maxRecDepth 100000 in
theorem lifted (os : Os) (started : os.Started) (H : Type) (enc : TypeId × Value → H) (F : Stop.Interp) :
    ReturnsInHanded {} Tryz.checked os 6 .any ((OpenSpec.ofChange Rows.messageCutsSpec).preRow enc Tryz.prog Tryz.f6 Rows.messageCutsRow.domain false Rows.messageCutsRow.laid) (((OpenSpec.ofChange Rows.messageCutsSpec).at F).post enc Tryz.prog Tryz.f6 false true false false) := by
  obtain ⟨places, hx⟩ := reads os enc
  refine returnsInHanded_of_row (C := Tryz.checked) (s := (OpenSpec.ofChange Rows.messageCutsSpec)) own started (by kernel_rfl) Tryz.func6
    (witness_row_at (enc := enc) (C := Tryz.checked) false (laidWorld os) #[.slice none 0 0, .int .i64 0] rfl (by kernel_rfl) (by kernel_rfl) (by kernel_rfl)
      (OpenSpec.preRow_of_cond 8 hx (by kernel_rfl) (fun k hk => by cases hk) (by kernel_rfl) (met os))) ?_
  intro W base args ds gs before hval0 hW _ hk _ hL _ _
  exact law_contractG (glob_laid hL) tyok kids laid (by decide +kernel) rfl rfl Tryz.underlying4 (by
    intro ds hds
    match ds, hds with
    | [d0, d1], _ => rfl) (fun dl hb ha => run dl ha) hval0 hW
theorem over : Rows.messageCutsRow.holds Tryz.pinned (OpenSpec.ofChange Rows.messageCutsSpec) :=
  OpenClaim.holds_of_cond 6 Tryz.f6 rfl rfl rfl rfl rfl rfl rfl ⟨rfl, rfl, rfl, rfl, rfl⟩ rfl rfl rfl rfl rfl (by kernel_rfl) Tryz.func6 (by kernel_rfl)
    (of_decide_eq_true (by kernel_rfl)) (by unfold Func.isWrapper; first | (rw [if_pos (by decide +kernel)]; kernel_rfl) | (rw [if_neg (by decide +kernel)]; exact ⟨rfl, rfl⟩))
    (fun os started H enc _ F => by rw [OpenClaim.pre_eq_preRow]; exact lifted os started H enc F)
theorem plain (f : FuncId) (fn : Func) (hf : Tryz.pinned.checked.prog.funcNamed "bellwether/bellwetherlaw10.MessageCuts" = some f) (hfn : Tryz.pinned.checked.prog.funcs[f]? = some fn) :
    true = Tryz.pinned.checked.prog.looks [] ∧ ∀ (j : Nat) t, fn.params[j]? = some t → Tryz.pinned.checked.prog.wantsStandIn t = false := by
  obtain rfl : f = 6 := Option.some.inj ((show Tryz.prog.funcNamed "bellwether/bellwetherlaw10.MessageCuts" = some 6 by kernel_rfl).symm.trans hf) |>.symm
  obtain rfl : fn = Tryz.f6 := (Option.some.inj (Tryz.func6.symm.trans hfn)).symm
  refine ⟨by kernel_rfl, fun j t ht => ?_⟩
  have hm : t ∈ Tryz.f6.params.toList := by simpa using Array.mem_of_getElem? ht
  have hall : (Tryz.f6.params.toList.all fun u => !Tryz.prog.wantsStandIn u) = true := by kernel_rfl
  exact (show Tryz.prog.wantsStandIn t = false by simpa using List.all_eq_true.1 hall t hm)
/-- the card -/
theorem proved : Rows.MessageCutsCardSaid :=
  Claim7.holds_tied_plain_at .later [] _ _ _ _ over (fun _ h => by cases h) (by kernel_rfl) (fun _ h => by cases h) messageCuts_row_tie rfl ⟨rfl, rfl⟩ (by kernel_rfl) rfl plain (by kernel_rfl)
#print axioms proved
end Go.Proofs.YtffifncopceefaaGreatDoor.messageCuts
