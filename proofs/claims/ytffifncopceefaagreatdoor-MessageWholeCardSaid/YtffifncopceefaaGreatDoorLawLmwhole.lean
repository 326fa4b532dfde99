/- Of any message: its bytes are values, one behind the other, and nothing else: cut, or with a piece behind them, they are none. Conditions: none beyond the card. -/
import Derived.Test.YtffifncopceefaaGreatDoorWalk3
import Derived.Test.YtffifncopceefaaGreatDoorCards
import Derived.Test.YtffifncopceefaaGreatDoorTie
set_option linter.unusedSimpArgs false
set_option linter.unusedVariables false
/- law10: a message's bytes are values, and nothing else. -/
namespace Go.Bw.R1
set_option maxRecDepth 5000
open Go Go.Bw Go.Proofs
theorem decL (s : ByteArray) (hs : s.size ≤ 36000000) : EL 31 [.ro false (bytesD s)] [] = some (decR (decS (toL s))) := el_of (f := 31) rfl (em_of rfl (decode_c s hs))
/-- part of bytes, as the evaluator tells it -/
theorem part_facts (b : ByteArray) : ((bytesD b).all fun e => e.cells.length == 1) = true ∧ List.take b.size (bytesD b) = bytesD b ∧ (∀ k, k ≤ b.size → List.drop k (bytesD b) = bytesD (b.extract k b.size)) ∧ (∀ k, k ≤ b.size → List.take k (bytesD b) = bytesD (b.extract 0 k)) := by
  refine ⟨List.all_eq_true.2 fun x hx => ?_, List.take_of_length_le (by rw [bytesD_len]; omega), fun k hk => ?_, fun k hk => ?_⟩
  · unfold bytesD at hx
    obtain ⟨y, _, rfl⟩ := List.mem_map.1 hx
    rfl
  · have := bytesD_part b k (b.size - k)
    rw [show k + (b.size - k) = b.size by omega, List.take_of_length_le (by rw [List.length_drop, bytesD_len]; omega)] at this
    exact this
  · have := bytesD_part b 0 k
    rw [List.drop_zero, Nat.zero_add] at this
    exact this
theorem secs_fine (m : Msg) (h : m.ok) (hm : mayM m = true) : (∀ v ∈ secsS m, v.sz ≤ 40000000 ∧ rightS v = true ∧ v.wf) ∧ (∀ v ∈ (secsS m).dropLast, sectS v ≠ 5) := by
  obtain ⟨p1, p2, p3, p4⟩ := may_parts hm
  have hH := right_flat (code := 112) (hdr_flat m h) (by simp [hdrL])
  have zH : (putS 112 (hdrL m)).sz ≤ 40000000 := by have := put_sz 112 (hdrL m); have := hdrL_sz m; omega
  have wH := putS_wf 112 (by decide) (hdrL_wf m h)
  have zP : (putS 115 [.mk 20 0 m.id []]).sz ≤ 40000000 := by
    have := put_sz 115 [Val.mk 20 0 m.id []]
    have e : Val.szL [Val.mk 20 0 m.id []] = m.id.size + 0 + 1 + 0 := rfl
    omega
  have wP : (putS 115 [.mk 20 0 m.id []]).wf := putS_wf 115 (by decide) ⟨⟨by decide, trivial⟩, trivial⟩
  have hP := right_flat (code := 115) (prp_flat p3) (by simp)
  have dz : (datV m.body).sz ≤ 40000000 := by rw [dat_sz]; omega
  have s1 := sect_put 112 (by decide) (hdrL m)
  have s2 := sect_put 115 (by decide) [.mk 20 0 m.id []]
  constructor
  · intro v hv
    unfold secsS at hv
    rcases List.mem_append.1 hv with hv | hv
    · rcases List.mem_append.1 hv with hv | hv
      · split at hv
        · rw [List.mem_singleton.1 hv]; exact ⟨zH, hH, wH⟩
        · cases hv
      · split at hv
        · cases hv
        · rw [List.mem_singleton.1 hv]; exact ⟨zP, hP, wP⟩
    · rw [List.mem_singleton.1 hv]; exact ⟨dz, dat_right _, dat_wf _⟩
  · intro v hv
    unfold secsS at hv
    rw [List.dropLast_concat] at hv
    rcases List.mem_append.1 hv with hv | hv
    · split at hv
      · rw [List.mem_singleton.1 hv, s1]; decide
      · cases hv
    · split at hv
      · cases hv
      · rw [List.mem_singleton.1 hv, s2]; decide
theorem getM_cut (m : Msg) (h : m.ok) (hm : mayM m = true) (k : Nat) (hk : k < (putB m).size) : getM ((toL (putB m)).take k) = none := by
  obtain ⟨h1, h2⟩ := secs_fine m h hm
  have hl := toL_len (putB m)
  rw [toL_putB] at hl ⊢
  unfold getM
  exact getF_cut (secsS m) h1 h2 _ _ _ k (by omega)
set_option maxHeartbeats 8000000 in
theorem MessageWhole_c (m : Msg) (hm : m.ok) (cut : Nat) (hcut : cut < 65536) (more : ByteArray) : EL 9 [m.d, .sc (.int .u16 cut), .ro false (bytesD more)] [] = some (.ret (B true), []) := by
  have hW := worksL
  have hlg := el_ev (f := 10) rfl rfl rfl (large_c m)
  refine (ev_body ⟨[3], [(0, [2, 7, 9, 10, 11])], [], false, [(3000020, [20])], noIt⟩ [.tmp 6] rfl Tryz.func9 rfl rfl rfl (by kernel_rfl) (by show 3 ≤ 117; decide) (by kernel_rfl)).trans ?_
  by_cases h1 : decide ((4096 : Int) < m.id.size) = true
  · rw [h1] at hlg
    unfold Msg.d at hlg ⊢
    simp +contextual (maxSteps := 10000000) only [go_sem, hlg, hW]
  by_cases h2 : decide ((8192 : Int) < m.body.size) = true
  · rw [h2] at hlg
    unfold Msg.d at hlg ⊢
    simp +contextual (maxSteps := 10000000) only [go_sem, hlg, hW, Bool.or_true]
  rw [Bool.not_eq_true] at h1 h2
  rw [h1, h2] at hlg
  by_cases h3 : (1024 : Int) < more.size
  · have g3 : decide ((1024 : Int) < more.size) = true := decide_eq_true h3
    unfold Msg.d at hlg ⊢
    simp +contextual (maxSteps := 10000000) only [go_sem, hlg, hW, g3]
  have g3 : decide ((1024 : Int) < more.size) = false := decide_eq_false h3
  have h1' := of_decide_eq_false h1
  cases hp : mayM m with
  | false =>
    have q1 := el_ev (f := 13) rfl rfl rfl (put_bad m hm hp (by omega))
    unfold Msg.d at *
    simp +contextual (maxSteps := 10000000) only [go_sem, hlg, hW, g3, q1]
  | true =>
    have q1 := el_ev (f := 13) rfl rfl rfl (put_ok m hm hp)
    have hbz := putB_sz m hp
    have hgp := get_put m hm hp
    have hgb := fun r hr e he => @get_put_bad m hm hp r hr e he
    have hgc := getM_cut m hm hp
    rw [← toL_putB] at hgp
    simp only [← toL_putB] at hgb
    obtain ⟨b, hb⟩ : ∃ b, b = putB m := ⟨_, rfl⟩
    rw [← hb] at q1 hbz hgp hgb hgc
    obtain ⟨k, hk⟩ : ∃ k, k = cut % (b.size + 1) := ⟨_, rfl⟩
    have hkb : k ≤ b.size := by rw [hk]; have := Nat.mod_lt cut (show 0 < b.size + 1 by omega); omega
    have hkt : ((cut : Int)).tmod ((b.size : Int) + 1) = (k : Int) := by rw [Int.tmod_eq_emod_of_nonneg (by omega), hk]; rfl
    obtain ⟨f1, f2, f3, f4⟩ := part_facts b
    have hne0 : ((b.size : Int) + 1 = 0) = False := eq_false (by omega)
    have f4k := f4 k hkb
    have hpz : (b.extract 0 k).size = k := by rw [ByteArray.size_extract]; omega
    obtain ⟨e1, e2, e3, e4⟩ := part_facts (b.extract 0 k)
    have hpl : toL (b.extract 0 k) = (toL b).take k := by rw [toL_ext]; simp
    generalize b.extract 0 k = pt at *
    unfold Msg.d at hlg q1 ⊢
    simp +contextual (maxSteps := 10000000) only [go_sem, hlg, hW, g3, q1, wrap_i64 (n := (cut : Int)) (by omega) (by omega), wrap_i64 (n := (b.size : Int) + 1) (by omega) (by omega), hkt, hne0, f1, f2, f4k, hkb]
    -- what the calls behind the loop answer
    obtain ⟨gm, ge, hG, hX⟩ : ∃ (gm : Msg) (ge : Int), EL 18 [.ro false (bytesD pt)] [] = some (.ret (.tup [gm.d, I ge]), []) ∧ ((ge == 0) == ((k : Int) == (b.size : Int))) = true := by
      have hg := getL_r pt (by omega)
      rw [hpl] at hg
      by_cases hkk : k = b.size
      · rw [hkk, List.take_of_length_le (by rw [toL_len]; omega), hgp] at hg
        exact ⟨m, 0, hg, by rw [hkk]; simp⟩
      · rw [hgc k (by omega)] at hg
        exact ⟨mZ, 6, hg, by have : ((k : Int) == (b.size : Int)) = false := by rw [beq_eq_false_iff_ne]; omega
                             rw [this]; rfl⟩
    obtain ⟨dv, dn, de, hD, hde⟩ : ∃ (dv : Val) (dn : Int) (de : Int), EL 31 [.ro false (bytesD more)] [] = some (.ret (.tup [dv.d, I dn, I de]), []) ∧ (¬ de = 0 → ∃ e, decS (toL more) = .error e) := by
      have hd := decL more (by omega)
      cases hdd : decS (toL more) with
      | error e => rw [hdd] at hd; exact ⟨_, _, _, hd, fun _ => ⟨e, rfl⟩⟩
      | ok vn => obtain ⟨v, n⟩ := vn; rw [hdd] at hd; exact ⟨_, _, _, hd, fun h => absurd rfl h⟩
    obtain ⟨am, ae, hA, hA2, hfin⟩ : ∃ (am : Msg) (ae : Int), (more.size = 0 → EL 18 [.ro false (bytesD b)] [] = some (.ret (.tup [am.d, I ae]), [])) ∧ (¬ more.size = 0 → EL 18 [.ro false (bytesD (b ++ more))] [] = some (.ret (.tup [am.d, I ae]), [])) ∧ (¬ more.size = 0 → ¬ de = 0 → ae = 6) := by
      by_cases hz : more.size = 0
      · have hg := getL_r b (by omega)
        rw [hgp] at hg
        exact ⟨m, 0, fun _ => hg, fun h => absurd hz h, fun h => absurd hz h⟩
      · have hg := getL_r (b ++ more) (by rw [ByteArray.size_append]; omega)
        rw [toL_app] at hg
        cases hgg : getM (toL b ++ toL more) with
        | none => rw [hgg] at hg; exact ⟨mZ, 6, fun h => absurd h hz, fun _ => hg, fun _ _ => rfl⟩
        | some x =>
          rw [hgg] at hg
          refine ⟨x, 0, fun h => absurd h hz, fun _ => hg, fun _ h => ?_⟩
          obtain ⟨e, he⟩ := hde h
          have := hgb (toL more) (fun hh => hz (by rw [← toL_len, hh]; rfl)) e he
          rw [hgg] at this; cases this
    have hbs : ¬ b.size = 0 := by rw [hb]; unfold putB; rw [ByteArray.size_append]; have := wr_pos (datV m.body); omega
    have hbn : b.size ≤ 140737488355328 := by omega
    have hbm : b.size + more.size ≤ 140737488355328 := by omega
    unfold Msg.d at hG hA hA2
    refine lpK_inv (fun m' f es => ∃ (at_ : Nat) (j : Int), j = at_ ∧ at_ ≤ k ∧ k - at_ = m' ∧ f = [(2, .ro false (bytesD more)), (7, .ro false (bytesD b)), (9, I k), (10, .ro false (bytesD pt)), (11, I j)] ∧ es = []) k ⟨0, 0, rfl, by omega, by omega, rfl, rfl⟩ ?_
    rintro m' _ _ ⟨at_, _, rfl, hak, hm', rfl, rfl⟩ ih
    by_cases hlt : at_ < k
    · have hlt' : decide ((at_ : Int) < k) = true := decide_eq_true (by omega)
      have e3a := e3 at_ (by omega)
      have hrz : (pt.extract at_ pt.size).size = k - at_ := by rw [ByteArray.size_extract]; omega
      generalize pt.extract at_ pt.size = rs at *
      have hd := decL rs (by omega)
      have hap : (at_ ≤ pt.size) = True := eq_true (by omega)
      cases hdd : decS (toL rs) with
      | error e =>
        have he : (e == 0) = false := by rw [beq_eq_false_iff_ne]; exact decS_e hdd
        rw [hdd] at hd
        unfold decR at hd
        dsimp only at hd
        by_cases hz : more.size = 0
        · have z1 : ((more.size : Int) == 0) = true := by rw [hz]; rfl
          have z3 := (hA hz)
          simp +contextual (maxSteps := 10000000) only [go_sem, hlt', e1, e2, e3a, hap, Bool.false_and, hd, he, hG, hX, hD, hz, hbs, hbn, z3, hW]
        · have z1 : ((more.size : Int) == 0) = false := by rw [beq_eq_false_iff_ne]; omega
          have z3 := (hA2 hz)
          by_cases hde : de = 0
          · have z4 : (de == 0) = true := by rw [hde]; rfl
            simp +contextual (maxSteps := 10000000) only [go_sem, hlt', e1, e2, e3a, hap, Bool.false_and, hd, he, hG, hX, hD, hz, z1, z4, hbs, hbn, hbm, bytesD_one, z3, hW]
          · have z4 : (de == 0) = false := by rw [beq_eq_false_iff_ne]; exact hde
            have z5 : (ae == 6) = true := by rw [hfin hz hde]; rfl
            simp +contextual (maxSteps := 10000000) only [go_sem, hlt', e1, e2, e3a, hap, Bool.false_and, hd, he, hG, hX, hD, hz, z1, z4, z5, hbs, hbn, hbm, bytesD_one, z3, hW]
      | ok vn =>
        obtain ⟨v, n⟩ := vn
        obtain ⟨n1, n2, _⟩ := own_ok hdd
        rw [toL_len] at n2
        rw [hdd] at hd
        unfold decR at hd
        dsimp only at hd
        have hn1 : decide ((n : Int) < 1) = false := decide_eq_false (by omega)
        simp +contextual (maxSteps := 10000000) only [go_sem, hlt', e1, e2, e3a, hap, Bool.false_and, hd, hn1, wrap_i64 (n := (at_ : Int) + n) (by omega) (by omega)]
        exact ih (k - (at_ + n)) _ _ (by omega) ⟨at_ + n, (at_ : Int) + n, by omega, by omega, rfl, rfl, rfl⟩
    · have hlt' : decide ((at_ : Int) < k) = false := decide_eq_false (by omega)
      by_cases hz : more.size = 0
      · have z1 : ((more.size : Int) == 0) = true := by rw [hz]; rfl
        have z3 := (hA hz)
        simp +contextual (maxSteps := 10000000) only [go_sem, hlt', hG, hX, hD, hz, hbs, hbn, z3, hW]
      · have z1 : ((more.size : Int) == 0) = false := by rw [beq_eq_false_iff_ne]; omega
        have z3 := (hA2 hz)
        by_cases hde : de = 0
        · have z4 : (de == 0) = true := by rw [hde]; rfl
          simp +contextual (maxSteps := 10000000) only [go_sem, hlt', hG, hX, hD, hz, z1, z4, hbs, hbn, hbm, bytesD_one, z3, hW]
        · have z4 : (de == 0) = false := by rw [beq_eq_false_iff_ne]; exact hde
          have z5 : (ae == 6) = true := by rw [hfin hz hde]; rfl
          simp +contextual (maxSteps := 10000000) only [go_sem, hlt', hG, hX, hD, hz, z1, z4, z5, hbs, hbn, hbm, bytesD_one, z3, hW]
end Go.Bw.R1

/- MessageWhole -/
namespace Go.Proofs.YtffifncopceefaaGreatDoor.messageWhole
set_option maxRecDepth 5000
open Go.ChangeShapes Go.WideShapes Go.ChangeAt Go.RowKit Go.Bw Go.Bw.R1
theorem run (dl : List D) (h : Args Tryz.prog Tryz.f9.params.toList dl) : CallT Tryz.prog gl0 9 dl St.empty (fun r _ => r = .ret (.sc (.bool true))) := by
  obtain ⟨a, r, rfl, h1, h2⟩ := Args.cons h
  obtain ⟨b, r, rfl, h3, h4⟩ := Args.cons h2
  obtain ⟨c, r, rfl, h5, h6⟩ := Args.cons h4
  obtain rfl := Args.end_ h6
  obtain ⟨m, hm, hw1⟩ := msg_arg h1
  obtain ⟨n, hn, hw2⟩ := u16_argL h3
  obtain ⟨t, hw3⟩ := bytes_arg h5
  exact law_runL (.cons hw1 (.cons hw2 (.cons hw3 .nil))) (MessageWhole_c m hm n hn t)
theorem met (os : Os) : laidMet Tryz.prog Rows.messageWholeRow.laid ((laidWorld os).forCall (fun _ _ => 0) ⟨#[], #[.agg #[.int .u8 0, .int .u32 0, .int .u32 0, .string ⟨#[]⟩, .slice none 0 0], .int .u16 0, .slice none 0 0], []⟩).memory :=
  laidMet_of_run' 8 (by kernel_rfl) (by kernel_rfl)
theorem reads (os : Os) {H : Type} (enc : TypeId × Value → H) : ∃ places, DataW.whole enc Tryz.prog ((laidWorld os).forCall (fun _ _ => 0) ⟨#[], #[.agg #[.int .u8 0, .int .u32 0, .int .u32 0, .string ⟨#[]⟩, .slice none 0 0], .int .u16 0, .slice none 0 0], []⟩).memory Tryz.f9.params.toList Rows.messageWholeSpec.vars false (#[.agg #[.int .u8 0, .int .u32 0, .int .u32 0, .string ⟨#[]⟩, .slice none 0 0], .int .u16 0, .slice none 0 0] : Array Value).toList 8 = some ([.agg [.lit (.int .u8 0), .lit (.int .u32 0), .lit (.int .u32 0), .lit (.string []), .nil], .lit (.int .u16 0), .nil], [], places) :=
  ⟨[], by kernel_rfl⟩
set_option maxRecDepth 100000 in
theorem lifted (os : Os) (started : os.Started) (H : Type) (enc : TypeId × Value → H) (F : Stop.Interp) :
    ReturnsInHanded {} Tryz.checked os 9 .any ((OpenSpec.ofChange Rows.messageWholeSpec).preRow enc Tryz.prog Tryz.f9 Rows.messageWholeRow.domain false Rows.messageWholeRow.laid) (((OpenSpec.ofChange Rows.messageWholeSpec).at F).post enc Tryz.prog Tryz.f9 false true false false) := by
  obtain ⟨places, hx⟩ := reads os enc
  refine returnsInHanded_of_row (C := Tryz.checked) (s := (OpenSpec.ofChange Rows.messageWholeSpec)) own started (by kernel_rfl) Tryz.func9
    (witness_row_at (enc := enc) (C := Tryz.checked) false (laidWorld os) #[.agg #[.int .u8 0, .int .u32 0, .int .u32 0, .string ⟨#[]⟩, .slice none 0 0], .int .u16 0, .slice none 0 0] rfl (by kernel_rfl) (by kernel_rfl) (by kernel_rfl)
      (OpenSpec.preRow_of_cond 8 hx (by kernel_rfl) (fun k hk => by cases hk) (by kernel_rfl) (met os))) ?_
  intro W base args ds gs before hval0 hW _ hk _ hL _ _
  exact law_contractG (glob_laid hL) tyok kids laid (by decide +kernel) rfl rfl Tryz.underlying4 (by
    intro ds hds
    match ds, hds with
    | [d0, d1, d2], _ => rfl) (fun dl hb ha => run dl ha) hval0 hW
theorem over : Rows.messageWholeRow.holds Tryz.pinned (OpenSpec.ofChange Rows.messageWholeSpec) :=
  OpenClaim.holds_of_cond 9 Tryz.f9 rfl rfl rfl rfl rfl rfl rfl ⟨rfl, rfl, rfl, rfl, rfl⟩ rfl rfl rfl rfl rfl (by kernel_rfl) Tryz.func9 (by kernel_rfl)
    (of_decide_eq_true (by kernel_rfl)) (by unfold Func.isWrapper; first | (rw [if_pos (by decide +kernel)]; kernel_rfl) | (rw [if_neg (by decide +kernel)]; exact ⟨rfl, rfl⟩))
    (fun os started H enc _ F => by rw [OpenClaim.pre_eq_preRow]; exact lifted os started H enc F)
theorem plain (f : FuncId) (fn : Func) (hf : Tryz.pinned.checked.prog.funcNamed "bellwether/bellwetherlaw10.MessageWhole" = some f) (hfn : Tryz.pinned.checked.prog.funcs[f]? = some fn) :
    true = Tryz.pinned.checked.prog.looks [] ∧ ∀ (j : Nat) t, fn.params[j]? = some t → Tryz.pinned.checked.prog.wantsStandIn t = false := by
  obtain rfl : f = 9 := Option.some.inj ((show Tryz.prog.funcNamed "bellwether/bellwetherlaw10.MessageWhole" = some 9 by kernel_rfl).symm.trans hf) |>.symm
  obtain rfl : fn = Tryz.f9 := (Option.some.inj (Tryz.func9.symm.trans hfn)).symm
  refine ⟨by kernel_rfl, fun j t ht => ?_⟩
  have hm : t ∈ Tryz.f9.params.toList := by simpa using Array.mem_of_getElem? ht
  have hall : (Tryz.f9.params.toList.all fun u => !Tryz.prog.wantsStandIn u) = true := by kernel_rfl
  exact (show Tryz.prog.wantsStandIn t = false by simpa using List.all_eq_true.1 hall t hm)
/-- the card -/
theorem proved : Rows.MessageWholeCardSaid :=
  Claim7.holds_tied_plain_at .later [] _ _ _ _ over (fun _ h => by cases h) (by kernel_rfl) (fun _ h => by cases h) messageWhole_row_tie rfl ⟨rfl, rfl⟩ (by kernel_rfl) rfl plain (by kernel_rfl)
#print axioms proved
end Go.Proofs.YtffifncopceefaaGreatDoor.messageWhole
