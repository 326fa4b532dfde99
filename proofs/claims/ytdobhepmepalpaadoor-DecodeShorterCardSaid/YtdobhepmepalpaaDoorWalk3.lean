/- What the functions answer. -/
import Derived.Test.YtdobhepmepalpaaDoorWalk2
set_option linter.unusedSimpArgs false
set_option linter.unusedVariables false
namespace Go.Bw.R1
set_option maxRecDepth 5000
open Go Go.Bw Go.Proofs
theorem catW_one (x : Val) : catW [encV x] = wrV x := by simp only [catW]; rw [app_e0]; rfl
theorem catD_one (c : Int) (s : Sh) : catD c [s] = dataS c s := by simp only [catD]; rw [app_e0]
theorem al_fam {v : Val} (hm : mayS v = true) (hk : v.kind = 24) {x : Val} (hx : v.kids[0]? = some x) : Al v.kids := by
  rw [mayS_eq] at hm
  simp only [Bool.and_eq_true] at hm
  obtain ⟨⟨_, h1⟩, _, h2⟩ := hm
  rw [mayL_all, List.all_eq_true] at h1
  rw [hk] at h2
  have h2 : (v.kids.all fun x => match v.kids with | [] => true | y :: _ => alike y x) = true := h2
  rw [List.all_eq_true] at h2
  cases hl : v.kids with
  | nil => rw [hl] at hx; simp at hx
  | cons y r =>
    refine ⟨y, rfl, fun z hz => ⟨h1 z (by rw [hl]; exact hz), y.sz, ?_⟩⟩
    have := h2 z (by rw [hl]; exact hz)
    rw [hl] at this
    exact this
set_option maxHeartbeats 40000000 in
theorem ins_step {n : Nat} (hi : InsOk n) (hp : PutOk n) (hn : n + 1 ≤ 40000000) : InsOk (n + 1) := by
  intro v hv hm hk25
  have hl := szL_len v.kids
  have hz := Val.sz_eq v
  have hms : ∀ x ∈ v.kids, mayS x = true := by
    rw [mayS_eq] at hm
    simp only [Bool.and_eq_true] at hm
    have := hm.1.2
    rw [mayL_all, List.all_eq_true] at this
    exact this
  have hbnd : ∀ i, (catW ((v.kids.take i).map encV)).size ≤ 10 * Val.szL (v.kids.take i) := fun i => by
    have h1 := catW_size ((v.kids.take i).map encV)
    have h2 := mx_szL (v.kids.take i)
    rw [encL_map] at h2; omega
  by_cases hk : v.kind = 24
  case neg =>
    have hkt : (v.kind != 24) = true := by simpa using hk
    refine .inl ?_
    refine (ev_body ⟨[1], [(1, [2, 14, 15, 16]), (3, [2, 6, 40, 41, 42])], [], false, [], noIt⟩ [.tmp 2] rfl Tryd.func80 rfl rfl rfl (by kernel_rfl) (by show 1 ≤ 52; decide) (by kernel_rfl)).trans ?_
    unfold insS
    rw [if_neg hk]
    simp +contextual (maxSteps := 10000000) only [↓reduceIte, go_sem, Nat.reduceEqDiff, Nat.reduceAdd, Nat.reduceSub, Nat.reduceMul, Nat.reduceLeDiff, Nat.reduceLT, Nat.reduceBEq, Nat.reduceDiv, Nat.reduceMod, Int.reduceLE, Int.reduceLT, Int.reduceEq, Int.reduceBEq, Int.reduceBNe, Int.reduceAdd, Int.reduceSub, Int.reduceNeg, Int.reduceToNat, Int.reduceMul, Int.reducePow, Nat.reducePow, reduceCtorEq, hkt]
    refine lpK_inv (fun m f es => ∃ (i : Nat) (j : Int), j = i ∧ m + i = v.kids.length ∧ ((i = 0 ∧ f = [(2, .nils), (14, .ro false (v.kids.map Val.d)), (15, I v.kids.length), (16, I j)] ∧ es = []) ∨
      (0 < i ∧ f = [(2, .ref 0 0 1 0 (catW ((v.kids.take i).map encV)).size), (14, .ro false (v.kids.map Val.d)), (15, I v.kids.length), (16, I j)] ∧ es = [some ⟨0, bytesD (catW ((v.kids.take i).map encV))⟩]))) v.kids.length ⟨0, _, rfl, by omega, .inl ⟨rfl, rfl, rfl⟩⟩ ?_
    rintro m _ _ ⟨i, _, rfl, hmi, hst⟩ ih
    cases m with
    | succ m =>
      obtain ⟨x, hx⟩ := get_lt (l := v.kids) (i := i) (by omega)
      have hxm := List.mem_of_getElem? hx
      have hxs := szL_mem hx
      have hlt : decide ((i : Int) < v.kids.length) = true := by simp; omega
      have hix : (v.kids.map Val.d)[i]? = some x.d := by rw [List.getElem?_map, hx]; rfl
      have hsn : (v.kids.take (i + 1)).map encV = (v.kids.take i).map encV ++ [encV x] := by rw [take_snoc hx, List.map_append]; rfl
      have hcw : catW ((v.kids.take (i + 1)).map encV) = catW ((v.kids.take i).map encV) ++ wrV x := by rw [hsn, catW_app, catW_one]
      obtain ⟨hp1, hp2⟩ := hp x (by omega) (hms x hxm)
      rcases hst with ⟨rfl, rfl, rfl⟩ | ⟨hpos, rfl, rfl⟩
      · have hcw0 : catW ((v.kids.take 1).map encV) = wrV x := by rw [hcw]; exact e0_app _
        have hlt0 : decide ((0 : Int) < v.kids.length) = true := by simpa using hlt
        simp +contextual (maxSteps := 10000000) only [↓reduceIte, go_sem, Nat.reduceEqDiff, Nat.reduceAdd, Nat.reduceSub, Nat.reduceMul, Nat.reduceLeDiff, Nat.reduceLT, Nat.reduceBEq, Nat.reduceDiv, Nat.reduceMod, Int.reduceLE, Int.reduceLT, Int.reduceEq, Int.reduceBEq, Int.reduceBNe, Int.reduceAdd, Int.reduceSub, Int.reduceNeg, Int.reduceToNat, Int.reduceMul, Int.reducePow, Nat.reducePow, reduceCtorEq, hix, hlt0, hp1, wrap_i64 (n := 1) (by omega) (by omega)]
        refine ih m _ _ (by omega) ?_
        exact ⟨1, 1, rfl, by omega, .inr ⟨by omega, by rw [hcw0], by rw [hcw0]⟩⟩
      · have hb1 := hbnd i
        have hb2 := hbnd (i + 1)
        have hs1 := szL_app (v.kids.take i) [x]
        rw [← take_snoc hx] at hs1
        have hs2 := szL_take v.kids (i + 1)
        simp only [Val.szL] at hs1
        have hne : (catW ((v.kids.take i).map encV)).size ≠ 0 := by
          obtain ⟨y, hy⟩ := get_lt (l := v.kids) (i := 0) (by omega)
          have : v.kids.take i = y :: (v.kids.take i).drop 1 := by
            cases hkk : v.kids with
            | nil => rw [hkk] at hy; simp at hy
            | cons a r => rw [hkk] at hy; simp at hy; subst hy; cases i with
              | zero => omega
              | succ i => simp
          rw [this]
          simp only [List.map_cons, catW, ByteArray.size_append]
          have := wr_pos y
          unfold wrV shV hdV at this; omega
        have hput := hp2 (catW ((v.kids.take i).map encV)) hne (by omega)
        simp +contextual (maxSteps := 10000000) only [↓reduceIte, go_sem, Nat.reduceEqDiff, Nat.reduceAdd, Nat.reduceSub, Nat.reduceMul, Nat.reduceLeDiff, Nat.reduceLT, Nat.reduceBEq, Nat.reduceDiv, Nat.reduceMod, Int.reduceLE, Int.reduceLT, Int.reduceEq, Int.reduceBEq, Int.reduceBNe, Int.reduceAdd, Int.reduceSub, Int.reduceNeg, Int.reduceToNat, Int.reduceMul, Int.reducePow, Nat.reducePow, reduceCtorEq, hix, hlt, hput, wrap_i64 (n := (i : Int) + 1) (by omega) (by omega)]
        refine ih m _ _ (by omega) ?_
        exact ⟨i + 1, (i : Int) + 1, by omega, by omega, .inr ⟨by omega, by rw [hcw, ByteArray.size_append], by rw [hcw]⟩⟩
    | zero =>
      have hlt : decide ((i : Int) < v.kids.length) = false := by simp; omega
      obtain rfl : i = v.kids.length := by omega
      rcases hst with ⟨h0, rfl, rfl⟩ | ⟨hpos, rfl, rfl⟩
      · have hk0 : v.kids = [] := List.length_eq_zero_iff.1 h0
        rw [hk0] at hlt ⊢
        simp only [List.length_nil, List.map_nil, Int.natCast_zero, Int.cast_ofNat_Int] at hlt ⊢
        simp +contextual (maxSteps := 10000000) only [↓reduceIte, go_sem, Nat.reduceEqDiff, Nat.reduceAdd, Nat.reduceSub, Nat.reduceMul, Nat.reduceLeDiff, Nat.reduceLT, Nat.reduceBEq, Nat.reduceDiv, Nat.reduceMod, Int.reduceLE, Int.reduceLT, Int.reduceEq, Int.reduceBEq, Int.reduceBNe, Int.reduceAdd, Int.reduceSub, Int.reduceNeg, Int.reduceToNat, Int.reduceMul, Int.reducePow, Nat.reducePow, reduceCtorEq, hlt]
        rfl
      · rw [List.take_length]
        have hw : insR (catW (v.kids.map encV)) = (.ret (.ref 0 0 1 0 (catW (v.kids.map encV)).size), [some ⟨0, bytesD (catW (v.kids.map encV))⟩]) := by
          unfold insR
          rw [if_neg]
          obtain ⟨y, hy⟩ := get_lt (l := v.kids) (i := 0) (by omega)
          cases hkk : v.kids with
          | nil => rw [hkk] at hy; simp at hy
          | cons a r =>
            simp only [List.map_cons, catW, ByteArray.size_append]
            have := wr_pos a
            unfold wrV shV hdV at this; omega
        rw [hw]
        simp +contextual (maxSteps := 10000000) only [↓reduceIte, go_sem, Nat.reduceEqDiff, Nat.reduceAdd, Nat.reduceSub, Nat.reduceMul, Nat.reduceLeDiff, Nat.reduceLT, Nat.reduceBEq, Nat.reduceDiv, Nat.reduceMod, Int.reduceLE, Int.reduceLT, Int.reduceEq, Int.reduceBEq, Int.reduceBNe, Int.reduceAdd, Int.reduceSub, Int.reduceNeg, Int.reduceToNat, Int.reduceMul, Int.reducePow, Nat.reducePow, reduceCtorEq, hlt]
  case pos =>
  have hkf : (v.kind != 24) = false := by simpa using hk
  cases hkk : v.kids with
  | nil =>
    refine .inr ?_
    unfold insS
    rw [if_pos hk, hkk]
    refine (ev_body ⟨[1], [(1, [2, 14, 15, 16]), (3, [2, 6, 40, 41, 42])], [], false, [], noIt⟩ [.tmp 2] rfl Tryd.func80 rfl rfl rfl (by kernel_rfl) (by show 1 ≤ 52; decide) (by kernel_rfl)).trans ?_
    simp +contextual (maxSteps := 10000000) only [↓reduceIte, go_sem, Nat.reduceEqDiff, Nat.reduceAdd, Nat.reduceSub, Nat.reduceMul, Nat.reduceLeDiff, Nat.reduceLT, Nat.reduceBEq, Nat.reduceDiv, Nat.reduceMod, Int.reduceLE, Int.reduceLT, Int.reduceEq, Int.reduceBEq, Int.reduceBNe, Int.reduceAdd, Int.reduceSub, Int.reduceNeg, Int.reduceToNat, Int.reduceMul, Int.reducePow, Nat.reducePow, reduceCtorEq, hkf, hkk, List.map_nil, List.length_nil, one_b1]
    rfl
  | cons k0 r =>
    have h0 : v.kids[0]? = some k0 := by rw [hkk]; rfl
    have hA := al_fam hm hk h0
    have hks : ∀ x ∈ v.kids, x.sz ≤ n ∧ x.sz ≤ 40000000 := fun x hx => by have := szL_in hx; omega
    have hstrip := strip_c v.kids (by omega) hA
    have hcode := code_al hi v.kids k0 h0 hA (by omega) hks
    obtain ⟨c1, c2, c3⟩ := codeOf_of h0 (hms k0 (List.mem_of_getElem? h0))
    have hr := code_range c3 c1
    have hk0 := hks k0 (List.mem_of_getElem? h0)
    have hcons := cons_nils hp v.kids k0 h0 hA (by omega) (by omega) (codeOf (v.kids.map shV)) hr.1 hr.2 hcode (by omega)
    have hne : ((v.kids.length : Int) == 0) = false := by rw [hkk]; simp; omega
    have hins : insS v = hdV k0 ++ b1 (codeOf (v.kids.map shV)) ++ catD (codeOf (v.kids.map shV)) (v.kids.map shV) := by
      have e1 : (v.kids.map encV).map Prod.fst = v.kids.map shV := by rw [List.map_map]; rfl
      unfold insS
      rw [if_pos hk]
      rw [hkk] at e1 ⊢
      simp only [List.map_cons] at e1 ⊢
      simp only [arrS, List.map_cons]
      rw [e1]; rfl
    generalize hC : codeOf (v.kids.map shV) = C at hcode c1 c2 hr hcons hins
    have hpsz : insR (insS v) = (.ret (.ref 0 0 1 0 (insS v).size), [some ⟨0, bytesD (insS v)⟩]) := by
      unfold insR
      rw [if_neg]
      rw [hins]; simp only [ByteArray.size_append, b1_size]; omega
    refine .inl ?_
    rw [hpsz]
    have hmx := ins_sz k0
    refine (ev_body ⟨[1], [(1, [2, 14, 15, 16]), (3, [2, 6, 40, 41, 42])], [], false, [], noIt⟩ [.tmp 2] rfl Tryd.func80 rfl rfl rfl (by kernel_rfl) (by show 1 ≤ 52; decide) (by kernel_rfl)).trans ?_
    simp +contextual (maxSteps := 10000000) only [↓reduceIte, go_sem, Nat.reduceEqDiff, Nat.reduceAdd, Nat.reduceSub, Nat.reduceMul, Nat.reduceLeDiff, Nat.reduceLT, Nat.reduceBEq, Nat.reduceDiv, Nat.reduceMod, Int.reduceLE, Int.reduceLT, Int.reduceEq, Int.reduceBEq, Int.reduceBNe, Int.reduceAdd, Int.reduceSub, Int.reduceNeg, Int.reduceToNat, Int.reduceMul, Int.reducePow, Nat.reducePow, reduceCtorEq, hkf, hcons, hstrip, hcode, hne]
    refine lpK_inv (fun m f es => ∃ (i : Nat) (j : Int) (acc : ByteArray), j = i ∧ m + i = v.kids.length ∧ acc = hdV k0 ++ b1 C ++ catD C ((v.kids.take i).map shV) ∧ f = [(2, .ref 0 0 1 0 acc.size), (6, .sc (.int .u8 C)), (40, .ro false ((v.kids.map bareV).map Val.d)), (41, I v.kids.length), (42, I j)] ∧ es = [some ⟨0, bytesD acc⟩]) v.kids.length ⟨0, _, hdV k0 ++ b1 C, rfl, by omega, (app_e0 _).symm, by rw [ByteArray.size_append, b1_size]; rfl, rfl⟩ ?_
    rintro m _ _ ⟨i, _, acc, rfl, hmi, hacc, rfl, rfl⟩ ih
    cases m with
    | succ m =>
      obtain ⟨x, hx⟩ := get_lt (l := v.kids) (i := i) (by omega)
      have hxm := List.mem_of_getElem? hx
      have hxs := szL_mem hx
      have hlt : decide ((i : Int) < v.kids.length) = true := by simp; omega
      obtain ⟨q1, q2, q3, q4⟩ := sh_bare _ x (Nat.le_refl _) (hms x hxm)
      have hix : ((v.kids.map bareV).map Val.d)[i]? = some (bareV x).d := by rw [List.getElem?_map, List.getElem?_map, hx]; rfl
      have hsn : (v.kids.take (i + 1)).map shV = (v.kids.take i).map shV ++ [shV x] := by rw [take_snoc hx, List.map_append]; rfl
      have hnx : acc ++ dataS C (shV x) = hdV k0 ++ b1 C ++ catD C ((v.kids.take (i + 1)).map shV) := by rw [hsn, catD_app, catD_one, hacc, ByteArray.append_assoc]
      have hal : ∀ y ∈ v.kids, (bareV y).kind = (bareV k0).kind := al_kind hA h0
      have hasz : acc.size ≤ 450000000 := by
        have h3 := szL_take v.kids i
        rw [hacc]; simp only [ByteArray.size_append, b1_size]
        cases i with
        | zero =>
          have := szL_in (List.mem_of_getElem? h0)
          simp only [List.take_zero, List.map_nil, catD, e0_size]; omega
        | succ i =>
          have h1 := catD_size2 C (encV k0) ((r.take i).map encV)
          have h2 := mx_szL (v.kids.take (i + 1))
          rw [encL_map, hkk, List.take_succ_cons, List.map_cons] at h2
          have e1 : (encV k0 :: (r.take i).map encV).map Prod.fst = (v.kids.take (i + 1)).map shV := by rw [hkk, List.take_succ_cons, List.map_cons, List.map_cons, List.map_map]; rfl
          rw [e1] at h1
          have e2 : (encV k0).2 = hdV k0 := rfl
          rw [e2] at h1
          rw [hkk, List.take_succ_cons] at h3
          rw [hkk] at hz
          omega
      have hdata := data_c acc (bareV x) C (by rw [hacc]; simp only [ByteArray.size_append, b1_size]; omega) hasz (by omega) q3 q2 (by rw [hal x hxm]; exact c1) (by rw [q1]; exact c2 x hxm) (hi (bareV x) (by omega) q3 q2)
      rw [q1] at hdata
      simp +contextual (maxSteps := 10000000) only [↓reduceIte, go_sem, Nat.reduceEqDiff, Nat.reduceAdd, Nat.reduceSub, Nat.reduceMul, Nat.reduceLeDiff, Nat.reduceLT, Nat.reduceBEq, Nat.reduceDiv, Nat.reduceMod, Int.reduceLE, Int.reduceLT, Int.reduceEq, Int.reduceBEq, Int.reduceBNe, Int.reduceAdd, Int.reduceSub, Int.reduceNeg, Int.reduceToNat, Int.reduceMul, Int.reducePow, Nat.reducePow, reduceCtorEq, hix, hlt, hdata, wrap_i64 (n := (i : Int) + 1) (by omega) (by omega)]
      refine ih m _ _ (by omega) ?_
      exact ⟨i + 1, (i : Int) + 1, acc ++ dataS C (shV x), by omega, by omega, hnx, by rw [ByteArray.size_append], rfl⟩
    | zero =>
      have hlt : decide ((i : Int) < v.kids.length) = false := by simp; omega
      obtain rfl : i = v.kids.length := by omega
      rw [List.take_length, ← hins] at hacc
      subst hacc
      simp +contextual (maxSteps := 10000000) only [↓reduceIte, go_sem, Nat.reduceEqDiff, Nat.reduceAdd, Nat.reduceSub, Nat.reduceMul, Nat.reduceLeDiff, Nat.reduceLT, Nat.reduceBEq, Nat.reduceDiv, Nat.reduceMod, Int.reduceLE, Int.reduceLT, Int.reduceEq, Int.reduceBEq, Int.reduceBNe, Int.reduceAdd, Int.reduceSub, Int.reduceNeg, Int.reduceToNat, Int.reduceMul, Int.reducePow, Nat.reducePow, reduceCtorEq, hlt]
theorem enc_ok : ∀ n, n ≤ 40000000 → InsOk n ∧ PutOk n
  | 0, _ => ⟨fun v hv => by rw [Val.sz_eq] at hv; omega, fun v hv => by rw [Val.sz_eq] at hv; omega⟩
  | n + 1, hn => by
    obtain ⟨h1, h2⟩ := enc_ok n (by omega)
    have h3 := ins_step h1 h2 hn
    exact ⟨h3, put_step h3 h2 hn⟩
/-- WHAT encode.Value ANSWERS -/
theorem encode_c (v : Val) (h : v.sz ≤ 40000000) (hw : v.wf) : EV 20 [v.d] [] = some (if rightS v = true then (.ret (.tup [.ref 0 0 1 0 (wrV v).size, I 0]), [some ⟨0, bytesD (wrV v)⟩]) else (.ret (.tup [.nils, I 1]), [])) := by
  have hr := right_c v (by omega) hw
  refine (ev_body ⟨[1], [], [], false, [], noIt⟩ [.tmp 2, .tmp 3] rfl Tryd.func20 rfl rfl rfl (by kernel_rfl) (by show 1 ≤ 9; decide) (by kernel_rfl)).trans ?_
  cases hb : rightS v with
  | true =>
    have hm : mayS v = true := by unfold rightS at hb; simp only [Bool.and_eq_true] at hb; exact hb.2
    have hp := ((enc_ok v.sz h).2 v (Nat.le_refl _) hm).1
    rw [hb] at hr
    simp +contextual (maxSteps := 10000000) only [↓reduceIte, go_sem, Nat.reduceEqDiff, Nat.reduceAdd, Nat.reduceSub, Nat.reduceMul, Nat.reduceLeDiff, Nat.reduceLT, Nat.reduceBEq, Nat.reduceDiv, Nat.reduceMod, Int.reduceLE, Int.reduceLT, Int.reduceEq, Int.reduceBEq, Int.reduceBNe, Int.reduceAdd, Int.reduceSub, Int.reduceNeg, Int.reduceToNat, Int.reduceMul, Int.reducePow, Nat.reducePow, reduceCtorEq, hr, hp]
  | false =>
    rw [hb] at hr
    simp +contextual (maxSteps := 10000000) only [↓reduceIte, go_sem, Nat.reduceEqDiff, Nat.reduceAdd, Nat.reduceSub, Nat.reduceMul, Nat.reduceLeDiff, Nat.reduceLT, Nat.reduceBEq, Nat.reduceDiv, Nat.reduceMod, Int.reduceLE, Int.reduceLT, Int.reduceEq, Int.reduceBEq, Int.reduceBNe, Int.reduceAdd, Int.reduceSub, Int.reduceNeg, Int.reduceToNat, Int.reduceMul, Int.reducePow, Nat.reducePow, reduceCtorEq, hr]
end Go.Bw.R1

/- law06: what was encoded is decoded. -/
namespace Go.Bw.R1
set_option maxRecDepth 5000
open Go Go.Bw Go.Proofs
end Go.Bw.R1

/- Plain: first bytes. -/
namespace Go.Bw.R1
set_option maxRecDepth 5000
open Go Go.Bw
end Go.Bw.R1

/- Plain: encode tells no more bytes than were decoded. -/
namespace Go.Bw.R1
set_option maxRecDepth 5000
open Go Go.Bw
theorem dataS_sz (c : Int) (s : Sh) : (dataS c s).size = if c / 16 = 4 then 0 else if c / 16 = 5 ∨ c / 16 = 6 ∨ c / 16 = 7 ∨ c / 16 = 8 then (if s.text = e0 then widQ (c / 16) else s.text.size)
    else if c / 16 = 9 then s.text.size else if c / 16 = 10 then 1 + s.text.size else if c / 16 = 11 then 4 + s.text.size else if c / 16 = 12 ∨ c / 16 = 14 then 1 + (1 + s.ins.size) else 4 + (4 + s.ins.size) := by
  unfold dataS
  rw [Int.fdiv_eq_ediv_of_nonneg _ (by decide)]
  repeat' split
  all_goals try simp only [ByteArray.size_append, e0_size, be_size (wOk_wid _), be_size (w := 1) (by simp [wOk]), be_size (w := 4) (by simp [wOk])]
theorem find_min {R : Int → Int → Prop} (hr : ∀ a, R a a) {p : Int → Bool} : ∀ {l : List Int}, l.Pairwise R → ∀ {c : Int}, c ∈ l → p c = true → ∃ c0, l.find? p = some c0 ∧ R c0 c
  | a :: l, hp, c, hc, h => by
    rw [List.pairwise_cons] at hp
    cases ha : p a with
    | true =>
      refine ⟨a, by simp [List.find?, ha], ?_⟩
      rcases List.mem_cons.1 hc with rfl | hc
      · exact hr _
      · exact hp.1 _ hc
    | false =>
      rcases List.mem_cons.1 hc with rfl | hc
      · rw [ha] at h; cases h
      · obtain ⟨c0, h1, h2⟩ := find_min hr hp.2 hc h
        exact ⟨c0, by simp [List.find?, ha, h1], h2⟩
def NoMore (a b : Int) : Prop := ∀ s, (dataS a s).size ≤ (dataS b s).size
theorem noMore_of {a b : Int} (h : (a / 16 = 4) ∨ (a / 16 = b / 16) ∨ (a / 16 = 5 ∧ (b / 16 = 7 ∨ b / 16 = 8)) ∨ (a / 16 = 10 ∧ b / 16 = 11) ∨ (a / 16 = 12 ∧ b / 16 = 13) ∨ (a / 16 = 14 ∧ b / 16 = 15)) : NoMore a b := by
  intro s
  rw [dataS_sz, dataS_sz]
  rcases h with h | h | ⟨h, g | g⟩ | ⟨h, g⟩ | ⟨h, g⟩ | ⟨h, g⟩
  · rw [h]; simp
  · rw [h]; exact Nat.le_refl _
  all_goals
    rw [h, g]
    simp [widQ]
  all_goals try (split <;> omega)
  all_goals omega
theorem codes_pw (k : Int) : (codesOf k).Pairwise NoMore := by
  unfold codesOf
  repeat' split
  all_goals
    simp only [List.pairwise_cons, List.mem_cons, List.not_mem_nil, or_false, forall_eq_or_imp, forall_eq, List.Pairwise.nil, and_true, false_implies, implies_true]
  all_goals
    repeat' apply And.intro
  all_goals
    exact noMore_of (by decide)
/-- the first code that tells all tells it in the fewest bytes -/
theorem codeOf_min {ls : List Sh} {k c : Int} (hk : (ls.headD default).kind = k) (hc : c ∈ codesOf k) (h : ls.all (fitS c) = true) : NoMore (codeOf ls) c := by
  obtain ⟨c0, h1, h2⟩ := find_min (R := NoMore) (fun a s => Nat.le_refl _) (p := fun c => ls.all (fitS c)) (codes_pw k) hc h
  unfold codeOf
  rw [hk, h1]
  exact h2
theorem code_has {c : Int} (h : kindC c ≠ 0) : c ∈ codesOf (kindC c) ∧ kindC c ≠ 25 := by
  have : ∀ c ∈ ([64, 65, 66, 67, 68, 69, 80, 81, 82, 83, 84, 85, 86, 96, 97, 112, 113, 114, 115, 116, 128, 129, 130, 131, 132, 148, 152, 160, 161, 163, 176, 177, 179, 192, 193, 208, 209, 224, 240] : List Int), c ∈ codesOf (kindC c) ∧ kindC c ≠ 25 := by decide
  exact this c (code_in h)
/-- what names ahead of a value tell -/
def hsz (ns : List Val) : Nat := (ns.map fun n => 1 + (wrV n).size).sum
theorem call_enc (w : Val) (hw : w.kind ≠ 25) : ∀ ns, shV (callV ns w) = shV w ∧ (hdV (callV ns w)).size = hsz ns
  | [] => ⟨rfl, by show (hdV w).size = 0; rw [hd_ne hw]; rfl⟩
  | n :: ns => by
    obtain ⟨h1, h2⟩ := call_enc w hw ns
    have e : callV (n :: ns) w = .mk 25 0 e0 [n, callV ns w] := rfl
    obtain ⟨q1, q2⟩ := enc_desc (v := callV (n :: ns) w) (a := n) (x := callV ns w) rfl rfl
    refine ⟨q1.trans h1, ?_⟩
    rw [q2, ByteArray.size_append, ByteArray.size_append, h2, b1_size]
    simp only [hsz, List.map_cons, List.sum_cons]
theorem wr_size (v : Val) : (wrV v).size = (hdV v).size + 1 + (dataS (codeOf [shV v]) (shV v)).size := by
  unfold wrV Wd
  rw [ByteArray.size_append, ByteArray.size_append, b1_size]
theorem wr_call {w : Val} {C : Int} {m : Nat} (hC : kindC C ≠ 0) (hk : w.kind = kindC C) (hf : fitS C (shV w) = true) (hd : (dataS C (shV w)).size ≤ m) (ns : List Val) : (wrV (callV ns w)).size ≤ hsz ns + 1 + m := by
  obtain ⟨c1, c2⟩ := code_has hC
  have hw : w.kind ≠ 25 := by rw [hk]; exact c2
  obtain ⟨h1, h2⟩ := call_enc w hw ns
  rw [wr_size, h1, h2]
  have := codeOf_min (ls := [shV w]) (k := kindC C) (c := C) (by rw [← hk]; show (shV w).kind = _; rw [sh_ne hw]) c1 (by simp [hf]) (shV w)
  omega
/-- the data of a code, as it was cut -/
def OkD (C : Int) (d : List UInt8) : Prop := (C < 160 → d.length = fixC C) ∧ (160 ≤ C → wideC C ≤ d.length) ∧ (160 ≤ C → wideC C = 1 → d.length ≤ 256)
theorem dataL_ok {C : Int} {l d r : List UInt8} (h : dataL C l = .ok (d, r)) : OkD C d ∧ d.length + r.length = l.length := by
  obtain ⟨h1, h2, h3, _⟩ := dataL_len h
  refine ⟨⟨h1, h2, fun hc hw => ?_⟩, h3⟩
  unfold dataL at h
  rw [if_neg (by omega), hw] at h
  unfold takeL at h
  by_cases ha : l.length < 1
  · rw [if_pos ha] at h; cases h
  · rw [if_neg ha] at h
    dsimp only at h
    split at h
    · cases h
    · rename_i d' r' hd
      split at hd
      · cases hd
      · injection hd with hd
        injection hd with hd1 hd2
        injection h with h
        injection h with h4 h5
        rw [← h4, ← hd1, List.length_append]
        have hb := beN_lt _ (l.take 1) rfl
        have hl : (l.take 1).length = 1 := by rw [List.length_take]; omega
        rw [hl] at hb ⊢
        rw [List.length_take]
        omega
def RdM (w : Val) (C : Int) (d : List UInt8) : Prop := w.kind = kindC C ∧ fitS C (shV w) = true ∧ (dataS C (shV w)).size ≤ d.length
theorem sh_leaf (k n : Int) (t : ByteArray) (h : k ≠ 25) (h2 : k ≠ 24) : shV (.mk k n t []) = ⟨k, n, t, 0, e0⟩ := by
  rw [sh_ne (v := .mk k n t []) h]
  unfold insS
  rw [if_neg (by exact h2)]
  rfl
theorem sgn8_all : ∀ x : Fin 256, sgn8 (sgnX x.val 1) = true := by decide +kernel
theorem leaf_min {C : Int} {d : List UInt8} (hk : kindC C ≠ 0) (hx : C < 192) (hd : OkD C d) : RdM (leafV C d) C d := by
  obtain ⟨d1, d2, d3⟩ := hd
  have hb := beN_lt _ d rfl
  have hc := code_in hk
  simp only [List.mem_cons, List.not_mem_nil, or_false] at hc
  rcases hc with rfl | rfl | rfl | rfl | rfl | rfl | rfl | rfl | rfl | rfl | rfl | rfl | rfl | rfl | rfl | rfl | rfl | rfl | rfl | rfl | rfl | rfl | rfl | rfl | rfl | rfl | rfl | rfl | rfl | rfl | rfl | rfl | rfl | rfl | rfl | rfl | rfl | rfl | rfl
  · have hl : d.length = 0 := d1 (by decide)
    rw [show leafV 64 d = .mk 1 0 e0 [] from rfl]
    refine ⟨rfl, rfl, ?_⟩
    rw [sh_leaf _ _ _ (by decide) (by decide), dataS_sz, hl]
    first | decide | (simp [widQ]; done) | simp [widQ, e0_size]
  · have hl : d.length = 0 := d1 (by decide)
    rw [show leafV 65 d = .mk 2 1 e0 [] from rfl]
    refine ⟨rfl, rfl, ?_⟩
    rw [sh_leaf _ _ _ (by decide) (by decide), dataS_sz, hl]
    first | decide | (simp [widQ]; done) | simp [widQ, e0_size]
  · have hl : d.length = 0 := d1 (by decide)
    rw [show leafV 66 d = .mk 2 0 e0 [] from rfl]
    refine ⟨rfl, rfl, ?_⟩
    rw [sh_leaf _ _ _ (by decide) (by decide), dataS_sz, hl]
    first | decide | (simp [widQ]; done) | simp [widQ, e0_size]
  · have hl : d.length = 0 := d1 (by decide)
    rw [show leafV 67 d = .mk 5 0 e0 [] from rfl]
    refine ⟨rfl, rfl, ?_⟩
    rw [sh_leaf _ _ _ (by decide) (by decide), dataS_sz, hl]
    first | decide | (simp [widQ]; done) | simp [widQ, e0_size]
  · have hl : d.length = 0 := d1 (by decide)
    rw [show leafV 68 d = .mk 6 0 e0 [] from rfl]
    refine ⟨rfl, rfl, ?_⟩
    rw [sh_leaf _ _ _ (by decide) (by decide), dataS_sz, hl]
    first | decide | (simp [widQ]; done) | simp [widQ, e0_size]
  · have hl : d.length = 0 := d1 (by decide)
    rw [show leafV 69 d = .mk 22 0 e0 [] from rfl]
    refine ⟨rfl, rfl, ?_⟩
    rw [sh_leaf _ _ _ (by decide) (by decide), dataS_sz, hl]
    first | decide | (simp [widQ]; done) | simp [widQ, e0_size]
  · have hl : d.length = 1 := d1 (by decide)
    rw [show leafV 80 d = .mk 3 (beN d) e0 [] from rfl]
    refine ⟨rfl, rfl, ?_⟩
    rw [sh_leaf _ _ _ (by decide) (by decide), dataS_sz, hl]
    first | decide | (simp [widQ]; done) | simp [widQ, e0_size]
  · have hl : d.length = 1 := d1 (by decide)
    rw [show leafV 81 d = .mk 7 (sgnX (beN d) d.length) e0 [] from rfl]
    refine ⟨rfl, rfl, ?_⟩
    rw [sh_leaf _ _ _ (by decide) (by decide), dataS_sz, hl]
    first | decide | (simp [widQ]; done) | simp [widQ, e0_size]
  · have hl : d.length = 1 := d1 (by decide)
    rw [show leafV 82 d = .mk 5 (beN d) e0 [] from rfl]
    refine ⟨rfl, by
      rw [sh_leaf _ _ _ (by decide) (by decide)]
      show decide ((beN d : Int) ≤ 255) = true
      rw [hl] at hb
      rw [decide_eq_true_eq]; omega, ?_⟩
    rw [sh_leaf _ _ _ (by decide) (by decide), dataS_sz, hl]
    first | decide | (simp [widQ]; done) | simp [widQ, e0_size]
  · have hl : d.length = 1 := d1 (by decide)
    rw [show leafV 83 d = .mk 6 (beN d) e0 [] from rfl]
    refine ⟨rfl, by
      rw [sh_leaf _ _ _ (by decide) (by decide)]
      show decide ((beN d : Int) ≤ 255) = true
      rw [hl] at hb
      rw [decide_eq_true_eq]; omega, ?_⟩
    rw [sh_leaf _ _ _ (by decide) (by decide), dataS_sz, hl]
    first | decide | (simp [widQ]; done) | simp [widQ, e0_size]
  · have hl : d.length = 1 := d1 (by decide)
    rw [show leafV 84 d = .mk 9 (sgnX (beN d) d.length) e0 [] from rfl]
    refine ⟨rfl, by
      rw [sh_leaf _ _ _ (by decide) (by decide)]
      show sgn8 (sgnX (beN d) d.length) = true
      rw [hl] at hb ⊢
      exact sgn8_all ⟨beN d, by omega⟩, ?_⟩
    rw [sh_leaf _ _ _ (by decide) (by decide), dataS_sz, hl]
    first | decide | (simp [widQ]; done) | simp [widQ, e0_size]
  · have hl : d.length = 1 := d1 (by decide)
    rw [show leafV 85 d = .mk 10 (sgnX (beN d) d.length) e0 [] from rfl]
    refine ⟨rfl, by
      rw [sh_leaf _ _ _ (by decide) (by decide)]
      show sgn8 (sgnX (beN d) d.length) = true
      rw [hl] at hb ⊢
      exact sgn8_all ⟨beN d, by omega⟩, ?_⟩
    rw [sh_leaf _ _ _ (by decide) (by decide), dataS_sz, hl]
    first | decide | (simp [widQ]; done) | simp [widQ, e0_size]
  · have hl : d.length = 1 := d1 (by decide)
    rw [show leafV 86 d = .mk 2 (beN d) e0 [] from rfl]
    refine ⟨rfl, rfl, ?_⟩
    rw [sh_leaf _ _ _ (by decide) (by decide), dataS_sz, hl]
    first | decide | (simp [widQ]; done) | simp [widQ, e0_size]
  · have hl : d.length = 2 := d1 (by decide)
    rw [show leafV 96 d = .mk 4 (beN d) e0 [] from rfl]
    refine ⟨rfl, rfl, ?_⟩
    rw [sh_leaf _ _ _ (by decide) (by decide), dataS_sz, hl]
    first | decide | (simp [widQ]; done) | simp [widQ, e0_size]
  · have hl : d.length = 2 := d1 (by decide)
    rw [show leafV 97 d = .mk 8 (sgnX (beN d) d.length) e0 [] from rfl]
    refine ⟨rfl, rfl, ?_⟩
    rw [sh_leaf _ _ _ (by decide) (by decide), dataS_sz, hl]
    first | decide | (simp [widQ]; done) | simp [widQ, e0_size]
  · have hl : d.length = 4 := d1 (by decide)
    rw [show leafV 112 d = .mk 5 (beN d) e0 [] from rfl]
    refine ⟨rfl, rfl, ?_⟩
    rw [sh_leaf _ _ _ (by decide) (by decide), dataS_sz, hl]
    first | decide | (simp [widQ]; done) | simp [widQ, e0_size]
  · have hl : d.length = 4 := d1 (by decide)
    rw [show leafV 113 d = .mk 9 (sgnX (beN d) d.length) e0 [] from rfl]
    refine ⟨rfl, rfl, ?_⟩
    rw [sh_leaf _ _ _ (by decide) (by decide), dataS_sz, hl]
    first | decide | (simp [widQ]; done) | simp [widQ, e0_size]
  · have hl : d.length = 4 := d1 (by decide)
    rw [show leafV 114 d = .mk 11 (beN d) e0 [] from rfl]
    refine ⟨rfl, rfl, ?_⟩
    rw [sh_leaf _ _ _ (by decide) (by decide), dataS_sz, hl]
    first | decide | (simp [widQ]; done) | simp [widQ, e0_size]
  · have hl : d.length = 4 := d1 (by decide)
    rw [show leafV 115 d = .mk 13 (beN d) e0 [] from rfl]
    refine ⟨rfl, rfl, ?_⟩
    rw [sh_leaf _ _ _ (by decide) (by decide), dataS_sz, hl]
    first | decide | (simp [widQ]; done) | simp [widQ, e0_size]
  · have hl : d.length = 4 := d1 (by decide)
    rw [show leafV 116 d = .mk 16 0 (mkT d) [] from rfl]
    refine ⟨rfl, rfl, ?_⟩
    rw [sh_leaf _ _ _ (by decide) (by decide), dataS_sz, hl]
    have hz : (mkT d).size = 4 := by rw [show (mkT d).size = d.length from rfl, hl]
    rw [if_neg (by decide), if_pos (by decide)]
    split
    · decide
    · show (mkT d).size ≤ _; omega
  · have hl : d.length = 8 := d1 (by decide)
    rw [show leafV 128 d = .mk 6 (beN d) e0 [] from rfl]
    refine ⟨rfl, rfl, ?_⟩
    rw [sh_leaf _ _ _ (by decide) (by decide), dataS_sz, hl]
    first | decide | (simp [widQ]; done) | simp [widQ, e0_size]
  · have hl : d.length = 8 := d1 (by decide)
    rw [show leafV 129 d = .mk 10 (sgnX (beN d) d.length) e0 [] from rfl]
    refine ⟨rfl, rfl, ?_⟩
    rw [sh_leaf _ _ _ (by decide) (by decide), dataS_sz, hl]
    first | decide | (simp [widQ]; done) | simp [widQ, e0_size]
  · have hl : d.length = 8 := d1 (by decide)
    rw [show leafV 130 d = .mk 12 (beN d) e0 [] from rfl]
    refine ⟨rfl, rfl, ?_⟩
    rw [sh_leaf _ _ _ (by decide) (by decide), dataS_sz, hl]
    first | decide | (simp [widQ]; done) | simp [widQ, e0_size]
  · have hl : d.length = 8 := d1 (by decide)
    rw [show leafV 131 d = .mk 14 (sgnX (beN d) d.length) e0 [] from rfl]
    refine ⟨rfl, rfl, ?_⟩
    rw [sh_leaf _ _ _ (by decide) (by decide), dataS_sz, hl]
    first | decide | (simp [widQ]; done) | simp [widQ, e0_size]
  · have hl : d.length = 8 := d1 (by decide)
    rw [show leafV 132 d = .mk 17 0 (mkT d) [] from rfl]
    refine ⟨rfl, rfl, ?_⟩
    rw [sh_leaf _ _ _ (by decide) (by decide), dataS_sz, hl]
    have hz : (mkT d).size = 8 := by rw [show (mkT d).size = d.length from rfl, hl]
    rw [if_neg (by decide), if_pos (by decide)]
    split
    · decide
    · show (mkT d).size ≤ _; omega
  · have hl : d.length = 16 := d1 (by decide)
    rw [show leafV 148 d = .mk 18 0 (mkT d) [] from rfl]
    refine ⟨rfl, rfl, ?_⟩
    rw [sh_leaf _ _ _ (by decide) (by decide), dataS_sz, hl]
    have hz : (mkT d).size = 16 := by rw [show (mkT d).size = d.length from rfl, hl]
    rw [if_neg (by decide), if_neg (by decide), if_pos (by decide)]
    show (mkT d).size ≤ _; omega
  · have hl : d.length = 16 := d1 (by decide)
    rw [show leafV 152 d = .mk 15 0 (mkT d) [] from rfl]
    refine ⟨rfl, rfl, ?_⟩
    rw [sh_leaf _ _ _ (by decide) (by decide), dataS_sz, hl]
    have hz : (mkT d).size = 16 := by rw [show (mkT d).size = d.length from rfl, hl]
    rw [if_neg (by decide), if_neg (by decide), if_pos (by decide)]
    show (mkT d).size ≤ _; omega
  · have hw : wideC 160 = 1 := rfl
    have h2 := d2 (by decide)
    have h3 := d3 (by decide)
    rw [hw] at h2 h3
    have hz : (mkT (d.drop 1)).size = d.length - 1 := by rw [show (mkT (d.drop 1)).size = (d.drop 1).length from rfl, List.length_drop]
    rw [show leafV 160 d = .mk 19 0 (mkT (d.drop 1)) [] from rfl]
    refine ⟨rfl, by
      rw [sh_leaf _ _ _ (by decide) (by decide)]
      show decide ((mkT (d.drop 1)).size ≤ 255) = true
      rw [hz, decide_eq_true_eq]
      have := h3 rfl
      omega, ?_⟩
    rw [sh_leaf _ _ _ (by decide) (by decide), dataS_sz]
    rw [if_neg (by decide), if_neg (by decide), if_neg (by decide)]
    rw [if_pos (by decide)]
    show 1 + (mkT (d.drop 1)).size ≤ d.length
    rw [hz]; omega
  · have hw : wideC 161 = 1 := rfl
    have h2 := d2 (by decide)
    have h3 := d3 (by decide)
    rw [hw] at h2 h3
    have hz : (mkT (d.drop 1)).size = d.length - 1 := by rw [show (mkT (d.drop 1)).size = (d.drop 1).length from rfl, List.length_drop]
    rw [show leafV 161 d = .mk 20 0 (mkT (d.drop 1)) [] from rfl]
    refine ⟨rfl, by
      rw [sh_leaf _ _ _ (by decide) (by decide)]
      show decide ((mkT (d.drop 1)).size ≤ 255) = true
      rw [hz, decide_eq_true_eq]
      have := h3 rfl
      omega, ?_⟩
    rw [sh_leaf _ _ _ (by decide) (by decide), dataS_sz]
    rw [if_neg (by decide), if_neg (by decide), if_neg (by decide)]
    rw [if_pos (by decide)]
    show 1 + (mkT (d.drop 1)).size ≤ d.length
    rw [hz]; omega
  · have hw : wideC 163 = 1 := rfl
    have h2 := d2 (by decide)
    have h3 := d3 (by decide)
    rw [hw] at h2 h3
    have hz : (mkT (d.drop 1)).size = d.length - 1 := by rw [show (mkT (d.drop 1)).size = (d.drop 1).length from rfl, List.length_drop]
    rw [show leafV 163 d = .mk 21 0 (mkT (d.drop 1)) [] from rfl]
    refine ⟨rfl, by
      rw [sh_leaf _ _ _ (by decide) (by decide)]
      show decide ((mkT (d.drop 1)).size ≤ 255) = true
      rw [hz, decide_eq_true_eq]
      have := h3 rfl
      omega, ?_⟩
    rw [sh_leaf _ _ _ (by decide) (by decide), dataS_sz]
    rw [if_neg (by decide), if_neg (by decide), if_neg (by decide)]
    rw [if_pos (by decide)]
    show 1 + (mkT (d.drop 1)).size ≤ d.length
    rw [hz]; omega
  · have hw : wideC 176 = 4 := rfl
    have h2 := d2 (by decide)
    have h3 := d3 (by decide)
    rw [hw] at h2 h3
    have hz : (mkT (d.drop 4)).size = d.length - 4 := by rw [show (mkT (d.drop 4)).size = (d.drop 4).length from rfl, List.length_drop]
    rw [show leafV 176 d = .mk 19 0 (mkT (d.drop 4)) [] from rfl]
    refine ⟨rfl, rfl, ?_⟩
    rw [sh_leaf _ _ _ (by decide) (by decide), dataS_sz]
    rw [if_neg (by decide), if_neg (by decide), if_neg (by decide)]
    rw [if_neg (by decide), if_pos (by decide)]
    show 4 + (mkT (d.drop 4)).size ≤ d.length
    rw [hz]; omega
  · have hw : wideC 177 = 4 := rfl
    have h2 := d2 (by decide)
    have h3 := d3 (by decide)
    rw [hw] at h2 h3
    have hz : (mkT (d.drop 4)).size = d.length - 4 := by rw [show (mkT (d.drop 4)).size = (d.drop 4).length from rfl, List.length_drop]
    rw [show leafV 177 d = .mk 20 0 (mkT (d.drop 4)) [] from rfl]
    refine ⟨rfl, rfl, ?_⟩
    rw [sh_leaf _ _ _ (by decide) (by decide), dataS_sz]
    rw [if_neg (by decide), if_neg (by decide), if_neg (by decide)]
    rw [if_neg (by decide), if_pos (by decide)]
    show 4 + (mkT (d.drop 4)).size ≤ d.length
    rw [hz]; omega
  · have hw : wideC 179 = 4 := rfl
    have h2 := d2 (by decide)
    have h3 := d3 (by decide)
    rw [hw] at h2 h3
    have hz : (mkT (d.drop 4)).size = d.length - 4 := by rw [show (mkT (d.drop 4)).size = (d.drop 4).length from rfl, List.length_drop]
    rw [show leafV 179 d = .mk 21 0 (mkT (d.drop 4)) [] from rfl]
    refine ⟨rfl, rfl, ?_⟩
    rw [sh_leaf _ _ _ (by decide) (by decide), dataS_sz]
    rw [if_neg (by decide), if_neg (by decide), if_neg (by decide)]
    rw [if_neg (by decide), if_pos (by decide)]
    show 4 + (mkT (d.drop 4)).size ≤ d.length
    rw [hz]; omega
  · exfalso; omega
  · exfalso; omega
  · exfalso; omega
  · exfalso; omega
  · exfalso; omega
  · exfalso; omega
theorem cons_min : ∀ (n : Nat) (l : List UInt8) (ns : List Val) (C : Int) (r : List UInt8), consL n l = .ok ((ns, C), r) → hsz ns + 1 + r.length ≤ l.length ∧ kindC C ≠ 0
  | 0, _, _, _, _, h => by cases h
  | n + 1, l, ns, C, r, h => by
    have hk := (consL_len _ _ _ _ _ h).2
    refine ⟨?_, hk⟩
    rw [consL_succ] at h
    unfold consS at h
    match l, h with
    | [], h => cases h
    | c :: [], h =>
      dsimp only at h
      split at h
      · cases h
      · split at h
        · cases h
        · injection h with h
          injection h with h1 h2
          injection h1 with h1 h3
          subst h1 h2
          exact Nat.le_refl _
    | c :: k :: r2, h =>
      dsimp only at h
      split at h
      · unfold nameS at h
        split at h
        · cases h
        · rename_i hn
          cases hd : dataL (u8I k) r2 with
          | error e => rw [hd] at h; cases h
          | ok y =>
            obtain ⟨d, r3⟩ := y
            rw [hd] at h
            dsimp only at h
            cases hc : consL n r3 with
            | error e => rw [hc] at h; cases h
            | ok z =>
              obtain ⟨⟨ms, D⟩, r4⟩ := z
              rw [hc] at h
              dsimp only at h
              injection h with h
              injection h with h1 h2
              injection h1 with h1 h3
              subst h1 h2
              have ih := (cons_min n r3 ms D r4 hc).1
              obtain ⟨o1, o2⟩ := dataL_ok hd
              have hkk : kindC (u8I k) ≠ 0 := by omega
              have hlt : u8I k < 192 := by
                have : ∀ c ∈ ([64, 65, 66, 67, 68, 69, 80, 81, 82, 83, 84, 85, 86, 96, 97, 112, 113, 114, 115, 116, 128, 129, 130, 131, 132, 148, 152, 160, 161, 163, 176, 177, 179, 192, 193, 208, 209, 224, 240] : List Int), (kindC c = 6 ∨ kindC c = 21) → c < 192 := by decide
                exact this _ (code_in hkk) (by omega)
              obtain ⟨m1, m2, m3⟩ := leaf_min hkk hlt o1
              have hw := wr_call hkk m1 m2 m3 []
              have e : callV [] (leafV (u8I k) d) = leafV (u8I k) d := rfl
              rw [e] at hw
              simp only [hsz, List.map_cons, List.sum_cons, List.map_nil, List.sum_nil, List.length_cons] at hw ih ⊢
              omega
      · split at h
        · cases h
        · injection h with h
          injection h with h1 h2
          injection h1 with h1 h3
          subst h1 h2
          show 0 + 1 + (k :: r2).length ≤ (k :: r2).length + 1
          omega
theorem item_min {rd : Int → List UInt8 → Except Int Val} (hrd : ∀ C d w, kindC C ≠ 0 → OkD C d → rd C d = .ok w → RdM w C d) {ns : List Val} {C : Int} (hC : kindC C ≠ 0) {l r : List UInt8} {v : Val} (h : itemF rd ns C l = .ok (v, r)) :
    ∃ w, v = callV ns w ∧ w.kind = kindC C ∧ fitS C (shV w) = true ∧ (dataS C (shV w)).size + r.length ≤ l.length := by
  obtain ⟨d, w, h1, h2, rfl⟩ := itemF_len h
  obtain ⟨o1, o2⟩ := dataL_ok h1
  obtain ⟨m1, m2, m3⟩ := hrd C d w hC o1 h2
  exact ⟨w, rfl, m1, m2, by omega⟩
theorem val_min {rd : Int → List UInt8 → Except Int Val} (hrd : ∀ C d w, kindC C ≠ 0 → OkD C d → rd C d = .ok w → RdM w C d) {l r : List UInt8} {v : Val} (h : valF rd l = .ok (v, r)) : (wrV v).size + r.length ≤ l.length := by
  unfold valF at h
  cases hc : consL (l.length + 1) l with
  | error e => rw [hc] at h; cases h
  | ok y =>
    obtain ⟨⟨ns, C⟩, r2⟩ := y
    rw [hc] at h
    obtain ⟨c1, c2⟩ := cons_min _ _ _ _ _ hc
    obtain ⟨w, rfl, w1, w2, w3⟩ := item_min hrd c2 h
    have := wr_call c2 w1 w2 (Nat.le_refl _) ns
    omega
theorem many_min {rd : Int → List UInt8 → Except Int Val} (hrd : ∀ C d w, kindC C ≠ 0 → OkD C d → rd C d = .ok w → RdM w C d) : ∀ (n : Nat) {l r : List UInt8} {vs : List Val}, manyF (valF rd) n l = .ok (vs, r) → (catW (vs.map encV)).size + r.length ≤ l.length ∧ vs.length = n
  | 0, l, r, vs, h => by
    injection h with h
    injection h with h1 h2
    subst h1 h2
    exact ⟨by simp [catW, e0_size], rfl⟩
  | n + 1, l, r, vs, h => by
    simp only [manyF] at h
    cases hs : valF rd l with
    | error e => rw [hs] at h; cases h
    | ok y =>
      obtain ⟨v, l1⟩ := y
      rw [hs] at h
      dsimp only at h
      cases hm : manyF (valF rd) n l1 with
      | error e => rw [hm] at h; cases h
      | ok z =>
        obtain ⟨ws, l2⟩ := z
        rw [hm] at h
        dsimp only at h
        injection h with h
        injection h with h1 h2
        subst h1 h2
        obtain ⟨i1, i2⟩ := many_min hrd n hm
        have h3 := val_min hrd hs
        refine ⟨?_, by rw [List.length_cons, i2]⟩
        simp only [List.map_cons, catW, ByteArray.size_append]
        have : Wd (encV v).1 (encV v).2 = wrV v := rfl
        rw [this]; omega
theorem items_min {rd : Int → List UInt8 → Except Int Val} (hrd : ∀ C d w, kindC C ≠ 0 → OkD C d → rd C d = .ok w → RdM w C d) {ns : List Val} {C : Int} (hC : kindC C ≠ 0) : ∀ (n : Nat) {l r : List UInt8} {vs : List Val}, manyF (itemF rd ns C) n l = .ok (vs, r) →
    (catD C (vs.map shV)).size + r.length ≤ l.length ∧ vs.length = n ∧ ∀ v ∈ vs, (shV v).kind = kindC C ∧ fitS C (shV v) = true ∧ (hdV v).size = hsz ns
  | 0, l, r, vs, h => by
    injection h with h
    injection h with h1 h2
    subst h1 h2
    exact ⟨by simp [catD, e0_size], rfl, fun v hv => by cases hv⟩
  | n + 1, l, r, vs, h => by
    simp only [manyF] at h
    cases hs : itemF rd ns C l with
    | error e => rw [hs] at h; cases h
    | ok y =>
      obtain ⟨v, l1⟩ := y
      rw [hs] at h
      dsimp only at h
      cases hm : manyF (itemF rd ns C) n l1 with
      | error e => rw [hm] at h; cases h
      | ok z =>
        obtain ⟨ws, l2⟩ := z
        rw [hm] at h
        dsimp only at h
        injection h with h
        injection h with h1 h2
        subst h1 h2
        obtain ⟨i1, i2, i3⟩ := items_min hrd hC n hm
        obtain ⟨w, rfl, w1, w2, w3⟩ := item_min hrd hC hs
        have hw : w.kind ≠ 25 := by rw [w1]; exact (code_has hC).2
        obtain ⟨q1, q2⟩ := call_enc w hw ns
        refine ⟨?_, by rw [List.length_cons, i2], fun v hv => ?_⟩
        · simp only [List.map_cons, catD, ByteArray.size_append, q1]; omega
        · rcases List.mem_cons.1 hv with rfl | hv
          · rw [q1, q2]
            exact ⟨by rw [sh_ne hw]; exact w1, w2, rfl⟩
          · exact i3 v hv
theorem catD_mono {a b : Int} (h : NoMore a b) : ∀ l : List Sh, (catD a l).size ≤ (catD b l).size
  | [] => Nat.le_refl _
  | s :: l => by have := catD_mono h l; have := h s; simp only [catD, ByteArray.size_append]; omega
theorem arr_min {rd : Int → List UInt8 → Except Int Val} (hrd : ∀ C d w, kindC C ≠ 0 → OkD C d → rd C d = .ok w → RdM w C d) {l r2 r : List UInt8} {ns vs : List Val} {C : Int} {m n : Nat} (hc : consL n l = .ok ((ns, C), r2)) (hm : manyF (itemF rd ns C) m r2 = .ok (vs, r)) : (arrS (vs.map encV)).size + r.length ≤ l.length ∧ vs.length = m := by
  obtain ⟨c1, c2⟩ := cons_min _ _ _ _ _ hc
  obtain ⟨i1, i2, i3⟩ := items_min hrd c2 m hm
  refine ⟨?_, i2⟩
  cases vs with
  | nil =>
    simp only [List.map_nil, catD, e0_size] at i1
    show (b1 64).size + _ ≤ _
    rw [b1_size]; omega
  | cons v vs =>
    have hmap : (encV v :: vs.map encV).map Prod.fst = (v :: vs).map shV := by simp only [List.map_cons, List.map_map]; rfl
    show ((encV v).2 ++ b1 (codeOf ((encV v :: vs.map encV).map Prod.fst)) ++ catD (codeOf ((encV v :: vs.map encV).map Prod.fst)) ((encV v :: vs.map encV).map Prod.fst)).size + r.length ≤ l.length
    rw [hmap, ByteArray.size_append, ByteArray.size_append, b1_size]
    have hle := catD_mono (codeOf_min (ls := (v :: vs).map shV) (k := kindC C) (c := C) (i3 v (by simp)).1 (code_has c2).1 (by
      rw [List.all_eq_true]
      intro s hs
      obtain ⟨x, hx, rfl⟩ := List.mem_map.1 hs
      exact (i3 x hx).2.1)) ((v :: vs).map shV)
    have h1 := (i3 v (by simp)).2.2
    have e : (encV v).2 = hdV v := rfl
    rw [e, h1]
    omega
theorem read_min : ∀ (n : Nat) (C : Int) (d : List UInt8) (w : Val), kindC C ≠ 0 → OkD C d → readF n C d = .ok w → RdM w C d
  | 0, _, _, _, _, _, h => by cases h
  | n + 1, C, d, w, hk, hd, h => by
    have ih := read_min n
    rw [readF_succ] at h
    unfold readS at h
    split at h
    · rename_i hlt
      injection h with h
      subst h
      exact leaf_min hk hlt hd
    · rename_i hge
      obtain ⟨_, d2, d3⟩ := hd
      have d2 := d2 (by omega)
      have d3 := d3 (by omega)
      unfold takeL at h
      by_cases ha : d.length < wideC C
      · rw [if_pos ha] at h; cases h
      · rw [if_neg ha] at h
        dsimp only at h
        by_cases hb : (d.drop (wideC C)).length < wideC C
        · rw [if_pos hb] at h; cases h
        · rw [if_neg hb] at h
          dsimp only at h
          have hm1 : wideC C = 1 → beN ((d.drop (wideC C)).take (wideC C)) ≤ 255 := fun hw => by
            have hbb := beN_lt _ ((d.drop (wideC C)).take (wideC C)) rfl
            have hl : ((d.drop (wideC C)).take (wideC C)).length = 1 := by
              rw [hw] at hb ⊢
              rw [List.length_take]; omega
            rw [hl] at hbb; omega
          have hr : ((d.drop (wideC C)).drop (wideC C)).length + 2 * wideC C = d.length := by
            simp only [List.length_drop] at hb ⊢; omega
          generalize beN ((d.drop (wideC C)).take (wideC C)) = m at h hm1
          generalize (d.drop (wideC C)).drop (wideC C) = r1 at h hr
          have hks : kindC C = 22 ∨ kindC C = 23 ∨ kindC C = 24 := by
            have : ∀ c ∈ ([64, 65, 66, 67, 68, 69, 80, 81, 82, 83, 84, 85, 86, 96, 97, 112, 113, 114, 115, 116, 128, 129, 130, 131, 132, 148, 152, 160, 161, 163, 176, 177, 179, 192, 193, 208, 209, 224, 240] : List Int), ¬ c < 192 → kindC c = 22 ∨ kindC c = 23 ∨ kindC c = 24 := by decide
            exact this C (code_in hk) hge
          have hcs : (wideC C = 1 ∧ (C = 192 ∨ C = 193 ∨ C = 224)) ∨ (wideC C = 4 ∧ (C = 208 ∨ C = 209 ∨ C = 240)) := by
            have : ∀ c ∈ ([64, 65, 66, 67, 68, 69, 80, 81, 82, 83, 84, 85, 86, 96, 97, 112, 113, 114, 115, 116, 128, 129, 130, 131, 132, 148, 152, 160, 161, 163, 176, 177, 179, 192, 193, 208, 209, 224, 240] : List Int), ¬ c < 192 → (wideC c = 1 ∧ (c = 192 ∨ c = 193 ∨ c = 224)) ∨ (wideC c = 4 ∧ (c = 208 ∨ c = 209 ∨ c = 240)) := by decide
            exact this C (code_in hk) hge
          have fin : ∀ {x : Except Int (List Val × List UInt8)}, endF (kindC C) x = .ok w → (∀ vs r', x = .ok (vs, r') → (if kindC C = 24 then arrS (vs.map encV) else catW (vs.map encV)).size + r'.length ≤ r1.length ∧ vs.length = m) → RdM w C d := fun {x} he hx => by
            cases x with
            | error e => cases he
            | ok y =>
              obtain ⟨vs, r'⟩ := y
              obtain rfl := endF_ok he
              obtain ⟨x1, x2⟩ := hx vs r' rfl
              have hs : shV (.mk (kindC C) 0 e0 vs) = ⟨kindC C, 0, e0, vs.length, if kindC C = 24 then arrS (vs.map encV) else catW (vs.map encV)⟩ := by
                rw [sh_ne (by show kindC C ≠ 25; omega)]; rfl
              generalize (if kindC C = 24 then arrS (vs.map encV) else catW (vs.map encV)) = ins at hs x1
              unfold RdM
              rw [hs, dataS_sz]
              refine ⟨rfl, ?_, ?_⟩
              · rcases hcs with ⟨hw, rfl | rfl | rfl⟩ | ⟨hw, rfl | rfl | rfl⟩
                all_goals first
                  | rfl
                  | (show (decide (vs.length ≤ 255) && decide (ins.size < 255)) = true
                     rw [Bool.and_eq_true, decide_eq_true_eq, decide_eq_true_eq]
                     have := hm1 hw
                     have := d3 hw
                     omega)
              · rcases hcs with ⟨hw, rfl | rfl | rfl⟩ | ⟨hw, rfl | rfl | rfl⟩
                all_goals (rw [if_neg (by decide), if_neg (by decide), if_neg (by decide), if_neg (by decide), if_neg (by decide)])
                all_goals first
                  | (rw [if_pos (by decide)]; show 1 + (1 + ins.size) ≤ _; omega)
                  | (rw [if_neg (by decide)]; show 4 + (4 + ins.size) ≤ _; omega)
          unfold bodyF at h
          split at h
          · cases h
          · split at h
            · rename_i h24
              cases hc : consL (r1.length + 1) r1 with
              | error e => rw [hc] at h; cases h
              | ok y =>
                obtain ⟨⟨ns, C'⟩, r2⟩ := y
                rw [hc] at h
                dsimp only at h
                exact fin h fun vs r' hx => by rw [if_pos h24]; exact arr_min ih hc hx
            · rename_i h24
              exact fin h fun vs r' hx => by rw [if_neg h24]; exact many_min ih m hx
theorem dec_min {l : List UInt8} {v : Val} {n : Nat} (h : decS l = .ok (v, n)) : (wrV v).size ≤ n := by
  cases hh : headL l with
  | error e => rw [decS_err hh] at h; cases h
  | ok r =>
    obtain ⟨p, p1, _⟩ := headL_pre hh
    rw [decS_ok hh p1] at h
    unfold tailS at h
    split at h
    · cases h
    · rename_i w r' hv
      split at h
      · injection h with h
        injection h with h1 h2
        subst h1 h2
        have := val_min (read_min _) hv
        omega
      · cases h
end Go.Bw.R1

/- law06: of what is decoded encode tells no more. -/
namespace Go.Bw.R1
set_option maxRecDepth 5000
open Go Go.Bw Go.Proofs
theorem err_67 {l : List UInt8} {e : Int} (h : decS l = .error e) : e = 6 ∨ e = 7 := by
  rcases own_err h with ⟨h, _⟩ | ⟨h, _⟩
  · exact .inl h
  · exact .inr h
set_option maxHeartbeats 8000000 in
theorem DecodeShorter_c (b : ByteArray) : EW 12 [.ro false (bytesD b)] [] = some (.ret (B true), []) := by
  refine (ev_body ⟨[], [], [], false, [(3000007, [6])], noIt⟩ [.tmp 2] rfl Tryd.func12 rfl rfl rfl (by kernel_rfl) (by show 1 ≤ 87; decide) (by kernel_rfl)).trans ?_
  by_cases hb : 8192 < b.size
  · have g1 : decide ((8192 : Int) < b.size) = true := decide_eq_true (by omega)
    simp +contextual (maxSteps := 10000000) only [↓reduceIte, go_sem, Nat.reduceEqDiff, Nat.reduceAdd, Nat.reduceSub, Nat.reduceMul, Nat.reduceLeDiff, Nat.reduceLT, Nat.reduceBEq, Nat.reduceDiv, Nat.reduceMod, Int.reduceLE, Int.reduceLT, Int.reduceEq, Int.reduceBEq, Int.reduceBNe, Int.reduceAdd, Int.reduceSub, Int.reduceNeg, Int.reduceToNat, Int.reduceMul, Int.reducePow, Nat.reducePow, reduceCtorEq, g1, works6]
  have g1 : decide ((8192 : Int) < b.size) = false := decide_eq_false (by omega)
  have c1 := decode_c b (by omega)
  have s2 : EW 16 [(Val.mk 0 0 e0 []).d, (Val.mk 0 0 ⟨#[]⟩ []).d] [] = some (.ret (B true), []) := by
    have s2 := ew_of rfl (same_c _ (Val.mk 0 0 ⟨#[]⟩ []) (Val.mk 0 0 ⟨#[]⟩ []) (Nat.le_refl _) (by decide))
    rw [same_refl] at s2
    exact s2
  cases hd : decS (toL b) with
  | error e =>
    rw [hd] at c1
    unfold decR at c1
    dsimp only at c1
    rcases err_67 hd with rfl | rfl
    · simp +contextual (maxSteps := 10000000) only [↓reduceIte, go_sem, Nat.reduceEqDiff, Nat.reduceAdd, Nat.reduceSub, Nat.reduceMul, Nat.reduceLeDiff, Nat.reduceLT, Nat.reduceBEq, Nat.reduceDiv, Nat.reduceMod, Int.reduceLE, Int.reduceLT, Int.reduceEq, Int.reduceBEq, Int.reduceBNe, Int.reduceAdd, Int.reduceSub, Int.reduceNeg, Int.reduceToNat, Int.reduceMul, Int.reducePow, Nat.reducePow, reduceCtorEq, g1, c1, s2, works6]
    · simp +contextual (maxSteps := 10000000) only [↓reduceIte, go_sem, Nat.reduceEqDiff, Nat.reduceAdd, Nat.reduceSub, Nat.reduceMul, Nat.reduceLeDiff, Nat.reduceLT, Nat.reduceBEq, Nat.reduceDiv, Nat.reduceMod, Int.reduceLE, Int.reduceLT, Int.reduceEq, Int.reduceBEq, Int.reduceBNe, Int.reduceAdd, Int.reduceSub, Int.reduceNeg, Int.reduceToNat, Int.reduceMul, Int.reducePow, Nat.reducePow, reduceCtorEq, g1, c1, s2, works6]
  | ok y =>
    obtain ⟨v, n⟩ := y
    obtain ⟨n1, n2, _, _, _, hr⟩ := own_ok hd
    rw [toL_len] at n2
    obtain ⟨hw, hz, _⟩ := decS_val hd
    have hmin := dec_min hd
    have p1 := wr_pos v
    have he := ew_of rfl (encode_c v (by omega) hw)
    rw [hr, if_pos rfl] at he
    have hrc := ew_of rfl (right_c v (by omega) hw)
    rw [hr] at hrc
    have c2 := decode_c (wrV v) (by omega)
    have hrt := dec_rt v (by omega) hr hw []
    rw [List.append_nil] at hrt
    rw [hrt] at c2
    rw [hd] at c1
    unfold decR at c1 c2
    dsimp only at c1 c2
    have s1 := ew_of rfl (same_c _ v v (Nat.le_refl _) (by omega))
    rw [same_refl] at s1
    have l1 : decide ((n : Int) < (wrV v).size) = false := decide_eq_false (by omega)
    have l2 : decide ((b.size : Int) < n) = false := decide_eq_false (by omega)
    simp +contextual (maxSteps := 10000000) only [↓reduceIte, go_sem, Nat.reduceEqDiff, Nat.reduceAdd, Nat.reduceSub, Nat.reduceMul, Nat.reduceLeDiff, Nat.reduceLT, Nat.reduceBEq, Nat.reduceDiv, Nat.reduceMod, Int.reduceLE, Int.reduceLT, Int.reduceEq, Int.reduceBEq, Int.reduceBNe, Int.reduceAdd, Int.reduceSub, Int.reduceNeg, Int.reduceToNat, Int.reduceMul, Int.reducePow, Nat.reducePow, reduceCtorEq, g1, c1, he, hrc, c2, s1, l1, l2, works6, beq_self_eq_true, fsE_bytesn]
end Go.Bw.R1
