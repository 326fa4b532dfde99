/- What the functions answer. -/
import Derived.Test.YtdobhepmepalpaaDoorWalk2
set_option linter.unusedSimpArgs false
set_option linter.unusedVariables false
namespace Go.Bw.R1
set_option maxRecDepth 5000
open Go Go.Bw Go.Proofs
theorem eq_ll (a b : ByteArray) : EV 22 [.ro false (bytesD a), .ro false (bytesD b)] [] = some (.ret (B (decide (a = b))), []) := by
  refine (ev_body ⟨[], [], [], false, [], noIt⟩ [.tmp 4] rfl Tryd.func22 rfl rfl rfl (by kernel_rfl) (by show 2 ≤ 17; decide) (by kernel_rfl)).trans ?_
  simp +contextual (maxSteps := 10000000) only [↓reduceIte, go_sem, Nat.reduceEqDiff, Nat.reduceAdd, Nat.reduceSub, Nat.reduceMul, Nat.reduceLeDiff, Nat.reduceLT, Nat.reduceBEq, Nat.reduceDiv, Nat.reduceMod, Int.reduceLE, Int.reduceLT, Int.reduceEq, Int.reduceBEq, Int.reduceBNe, Int.reduceAdd, Int.reduceSub, Int.reduceNeg, Int.reduceToNat, Int.reduceMul, Int.reducePow, Nat.reducePow, reduceCtorEq, txtLe_eq]
abbrev u64s (l : List Int) : D := .ro false (l.map fun n => .sc (.int .u64 n))
theorem u64s_refs (l : List Int) : D.refsL (l.map fun n => .sc (.int .u64 n)) = [] := refsL_map (fun _ => rfl) l
theorem u64s_can (l : List Int) : D.canL (l.map fun n => .sc (.int .u64 n)) = l.map fun n => .sc (.int .u64 n) := by
  induction l with
  | nil => rfl
  | cons a l ih => simp only [List.map_cons, D.canL, ih]; rfl
attribute [go_sem] u64s_refs u64s_can
abbrev KN (k : Int) (l : List Int) : List Val := l.map (NV k)
abbrev KD (k m : Int) (l : List Int) : List Val := l.map fun n => DV (NV 6 m) (NV k n)
theorem wfL_of : ∀ {l : List Val}, (∀ x ∈ l, x.wf) → Val.wfL l
  | [], _ => trivial
  | a :: l, h => ⟨h a (by simp), wfL_of fun x hx => h x (by simp [hx])⟩
theorem szL_of {b : Nat} : ∀ {l : List Val}, (∀ x ∈ l, x.sz ≤ b) → Val.szL l ≤ l.length * b
  | [], _ => by simp [Val.szL]
  | a :: l, h => by have := szL_of (l := l) fun x hx => h x (by simp [hx]); have := h a (by simp); simp only [Val.szL, List.length_cons, Nat.add_mul]; omega
/-- the bytes of an array of numbers, and of one whose numbers are called something: their ends are the same -/
theorem arr_two (k : Int) (l : List Int) (m : Int) (h0 : 3 ≤ k) (h1 : k ≤ 14) (hl : l ≠ []) (hn : ∀ n ∈ l, 0 ≤ n) : ∃ (cat HA HD : ByteArray), cat.size = mostS k l * l.length ∧ wrV (AV (KN k l)) = HA ++ cat ∧ wrV (AV (KD k m l)) = HD ++ cat ∧
    HA.size = (if l.length ≤ 255 ∧ (0 + 1 + mostS k l * l.length) < 255 then 3 else 9) + 0 + 1 ∧ HD.size = (if l.length ≤ 255 ∧ (1 + (wrV (NV 6 m)).size + 1 + mostS k l * l.length) < 255 then 3 else 9) + (1 + (wrV (NV 6 m)).size) + 1 := by
  obtain ⟨a, r, rfl⟩ := List.exists_cons_of_ne_nil hl
  have hsh : (KN k (a :: r)).map shV = (a :: r).map fun n => shV (NV k n) := List.map_map
  have hsd : (KD k m (a :: r)).map shV = (a :: r).map fun n => shV (NV k n) := by
    rw [KD, List.map_map]
    exact List.map_congr_left fun n _ => (enc_desc (v := DV (NV 6 m) (NV k n)) rfl rfl).1
  have hcat : (catD (cA k (a :: r)) ((a :: r).map fun n => shV (NV k n))).size = mostS k (a :: r) * (a :: r).length := by
    rw [catD_const (W := mostS k (a :: r)) (fun s hs => by obtain ⟨n, hm, rfl⟩ := List.mem_map.1 hs; exact data_A k (a :: r) h0 h1 hl hn n hm), List.length_map]
  have hdd : (hdV (DV (NV 6 m) (NV k a))).size = 1 + (wrV (NV 6 m)).size := by
    rw [(enc_desc (v := DV (NV 6 m) (NV k a)) rfl rfl).2, hd_num k a h1, app_e0, ByteArray.size_append, b1_size]
  have w1 := wr_arr (v := NV k a) (r := KN k r) (C := cA k (a :: r)) (by rw [show NV k a :: KN k r = KN k (a :: r) from rfl, hsh]; rfl)
  have w2 := wr_arr (v := DV (NV 6 m) (NV k a)) (r := KD k m r) (C := cA k (a :: r)) (by rw [show DV (NV 6 m) (NV k a) :: KD k m r = KD k m (a :: r) from rfl, hsd]; rfl)
  rw [show NV k a :: KN k r = KN k (a :: r) from rfl, hsh] at w1
  rw [show DV (NV 6 m) (NV k a) :: KD k m r = KD k m (a :: r) from rfl, hsd] at w2
  refine ⟨_, _, _, hcat, w1, w2, ?_, ?_⟩
  · rw [hdA_size, hcat, hd_num k a h1, e0_size, List.length_map]
  · rw [hdA_size, hcat, hdd, List.length_map]
set_option maxHeartbeats 20000000 in
theorem EncodeArrays_c (k : Int) (l : List Int) (m : Int) (hk : 0 ≤ k ∧ k < 256) (hl : ∀ n ∈ l, 0 ≤ n ∧ n < 18446744073709551616) (h0 : 0 ≤ m) (h1 : m < 18446744073709551616) : EV 9 [.sc (.int .u8 k), u64s l, .sc (.int .u64 m)] [] = some (.ret (B true), []) := by
  refine (ev_body ⟨[], [(0, [0, 1, 2, 7, 8, 9, 10])], [(16, [(0, 0, false), (1, 0, false), (2, 0, false), (3, 0, false), (4, 0, false), (5, 0, false), (6, 0, true), (7, 1, false)]), (27, [(0, 0, false), (1, 0, false), (2, 0, false), (3, 0, false), (4, 0, false), (5, 0, false), (6, 0, false), (7, 0, false), (8, 0, false), (9, 0, false), (10, 0, false), (11, 0, false), (12, 0, false), (13, 0, false), (14, 0, false), (15, 0, false), (16, 0, false), (17, 0, false), (18, 0, false), (19, 0, false), (20, 0, false), (21, 0, false), (22, 0, false), (23, 0, false), (24, 0, false), (25, 0, false), (26, 0, false), (27, 0, false), (28, 0, false), (29, 0, false), (30, 0, false), (31, 0, false), (32, 0, false), (33, 0, false), (34, 0, false), (35, 0, false), (36, 0, false), (37, 0, false), (38, 0, false), (39, 0, false), (40, 0, false), (41, 0, false), (42, 0, false), (43, 0, false), (44, 0, false), (45, 0, false), (46, 0, false), (47, 0, false), (48, 0, false), (49, 0, false), (50, 0, false), (51, 0, false), (52, 0, false), (53, 0, false), (54, 0, false)])], false, [(3000017, [7, 8])], noIt⟩ [.tmp 6] rfl Tryd.func9 rfl rfl rfl (by kernel_rfl) (by show 3 ≤ 164; decide) (by kernel_rfl)).trans ?_
  by_cases k3 : k < 3
  · simp +contextual (maxSteps := 10000000) only [↓reduceIte, go_sem, Nat.reduceEqDiff, Nat.reduceAdd, Nat.reduceSub, Nat.reduceMul, Nat.reduceLeDiff, Nat.reduceLT, Nat.reduceBEq, Nat.reduceDiv, Nat.reduceMod, Int.reduceLE, Int.reduceLT, Int.reduceEq, Int.reduceBEq, Int.reduceBNe, Int.reduceAdd, Int.reduceSub, Int.reduceNeg, Int.reduceToNat, Int.reduceMul, Int.reducePow, Nat.reducePow, reduceCtorEq, works5, decide_eq_true k3]
  by_cases k14 : 14 < k
  · simp +contextual (maxSteps := 10000000) only [↓reduceIte, go_sem, Nat.reduceEqDiff, Nat.reduceAdd, Nat.reduceSub, Nat.reduceMul, Nat.reduceLeDiff, Nat.reduceLT, Nat.reduceBEq, Nat.reduceDiv, Nat.reduceMod, Int.reduceLE, Int.reduceLT, Int.reduceEq, Int.reduceBEq, Int.reduceBNe, Int.reduceAdd, Int.reduceSub, Int.reduceNeg, Int.reduceToNat, Int.reduceMul, Int.reducePow, Nat.reducePow, reduceCtorEq, works5, decide_eq_false k3, decide_eq_true k14]
  by_cases h200 : (200 : Int) < l.length
  · simp +contextual (maxSteps := 10000000) only [↓reduceIte, go_sem, Nat.reduceEqDiff, Nat.reduceAdd, Nat.reduceSub, Nat.reduceMul, Nat.reduceLeDiff, Nat.reduceLT, Nat.reduceBEq, Nat.reduceDiv, Nat.reduceMod, Int.reduceLE, Int.reduceLT, Int.reduceEq, Int.reduceBEq, Int.reduceBNe, Int.reduceAdd, Int.reduceSub, Int.reduceNeg, Int.reduceToNat, Int.reduceMul, Int.reducePow, Nat.reducePow, reduceCtorEq, works5, decide_eq_false k3, decide_eq_false k14, decide_eq_true h200]
  by_cases hz : l.length = 0
  · obtain rfl := List.length_eq_zero_iff.1 hz
    simp +contextual (maxSteps := 10000000) only [↓reduceIte, go_sem, Nat.reduceEqDiff, Nat.reduceAdd, Nat.reduceSub, Nat.reduceMul, Nat.reduceLeDiff, Nat.reduceLT, Nat.reduceBEq, Nat.reduceDiv, Nat.reduceMod, Int.reduceLE, Int.reduceLT, Int.reduceEq, Int.reduceBEq, Int.reduceBNe, Int.reduceAdd, Int.reduceSub, Int.reduceNeg, Int.reduceToNat, Int.reduceMul, Int.reducePow, Nat.reducePow, reduceCtorEq, works5, decide_eq_false k3, decide_eq_false k14]
  have hz' : ((l.length : Int) == 0) = false := by simpa using hz
  have hnm := number_c 6 m
  simp +contextual (maxSteps := 10000000) only [↓reduceIte, go_sem, Nat.reduceEqDiff, Nat.reduceAdd, Nat.reduceSub, Nat.reduceMul, Nat.reduceLeDiff, Nat.reduceLT, Nat.reduceBEq, Nat.reduceDiv, Nat.reduceMod, Int.reduceLE, Int.reduceLT, Int.reduceEq, Int.reduceBEq, Int.reduceBNe, Int.reduceAdd, Int.reduceSub, Int.reduceNeg, Int.reduceToNat, Int.reduceMul, Int.reducePow, Nat.reducePow, reduceCtorEq, works5, decide_eq_false k3, decide_eq_false k14, decide_eq_false h200, hz']
  refine lpK_inv (fun m0 f es => ∃ (i : Nat) (mo : Int), i + m0 = l.length ∧ (∀ n ∈ l.take i, rightS (NV k n) = true) ∧ mo = mostS k (l.take i) ∧ ((i = 0 ∧ f = [(0, .sc (.int .u8 k)), (1, u64s l), (2, .sc (.int .u64 m)), (7, .nils), (8, .nils), (9, I mo), (10, I i)] ∧ es = []) ∨ (0 < i ∧ f = [(0, .sc (.int .u8 k)), (1, u64s l), (2, .sc (.int .u64 m)), (7, .ref 0 0 4 0 i), (8, .ref 1 0 4 0 i), (9, I mo), (10, I i)] ∧ es = [some ⟨0, rowE Val.d (KN k (l.take i))⟩, some ⟨0, rowE Val.d (KD k m (l.take i))⟩]))) l.length ⟨0, 0, Nat.zero_add _, by simp, rfl, .inl ⟨rfl, rfl, rfl⟩⟩ ?_
  rintro m0 _ _ ⟨i, mo, hi, hrt, hmo, hst⟩ ih
  rcases Nat.lt_or_ge i l.length with hlt | hge
  · obtain ⟨n, hn⟩ := get_lt hlt
    have hnl := hl n (List.mem_of_getElem? hn)
    have hlt' : decide ((i : Int) < l.length) = true := by simp; omega
    have hlt2 : ((i : Int) < l.length) = True := by simp; omega
    have hl0 : decide ((0 : Int) < l.length) = true := decide_eq_true (by omega)
    have hl00 : ((0 : Int) < l.length) = True := eq_true (by omega)
    have hnv := number_c k n
    have hwf : (NV k n).wf := ⟨⟨hk.1, by omega, hnl.1, by omega⟩, trivial⟩
    have hsz : (NV k n).sz ≤ 4000000 := by show 0 + 0 + 1 ≤ _; omega
    have hr := right_c (NV k n) hsz hwf
    have he := encode_c (NV k n) hsz hwf
    have hd := desc_c (NV 6 m) (NV k n) (by show 0 + 0 + 1 + (0 + 0 + 1) ≤ _; omega)
    have hsn := take_snoc hn
    cases hR : rightS (NV k n)
    · rw [hR] at hr
      rcases hst with ⟨rfl, rfl, rfl⟩ | ⟨hpos, rfl, rfl⟩
      · simp +contextual (maxSteps := 10000000) only [↓reduceIte, go_sem, Nat.reduceEqDiff, Nat.reduceAdd, Nat.reduceSub, Nat.reduceMul, Nat.reduceLeDiff, Nat.reduceLT, Nat.reduceBEq, Nat.reduceDiv, Nat.reduceMod, Int.reduceLE, Int.reduceLT, Int.reduceEq, Int.reduceBEq, Int.reduceBNe, Int.reduceAdd, Int.reduceSub, Int.reduceNeg, Int.reduceToNat, Int.reduceMul, Int.reducePow, Nat.reducePow, reduceCtorEq, hlt', hlt2, hl0, hl00, hn, hnv, hr, works5]
      · simp +contextual (maxSteps := 10000000) only [↓reduceIte, go_sem, Nat.reduceEqDiff, Nat.reduceAdd, Nat.reduceSub, Nat.reduceMul, Nat.reduceLeDiff, Nat.reduceLT, Nat.reduceBEq, Nat.reduceDiv, Nat.reduceMod, Int.reduceLE, Int.reduceLT, Int.reduceEq, Int.reduceBEq, Int.reduceBNe, Int.reduceAdd, Int.reduceSub, Int.reduceNeg, Int.reduceToNat, Int.reduceMul, Int.reducePow, Nat.reducePow, reduceCtorEq, hlt', hlt2, hl0, hl00, hn, hnv, hr, works5]
    · rw [hR] at hr he
      rw [if_pos rfl, wr_num k n (by omega) (by omega) hnl.1] at he
      have hbz : (b1 (cK k n) ++ beW (wK k n) n).size = 1 + wK k n := by
        rw [ByteArray.size_append, b1_size]
        unfold beW
        split
        · rename_i h; rw [h]; rfl
        · rw [be_size]
          unfold wK szK wOk at *
          repeat' split
          all_goals simp_all
      have hw8 : wK k n ≤ 8 := by have := most_le k [n]; simp only [mostS] at this; omega
      have hm8 := most_le k (l.take i)
      have hKN : KN k (l.take (i + 1)) = KN k (l.take i) ++ [NV k n] := by rw [hsn, KN, List.map_append]; rfl
      have hKD : KD k m (l.take (i + 1)) = KD k m (l.take i) ++ [DV (NV 6 m) (NV k n)] := by rw [hsn, KD, List.map_append]; rfl
      have hlen : (l.take i).length = i := by rw [List.length_take]; omega
      have r1 : (rowE Val.d (KN k (l.take i))).length = i * 4 := by rw [valOk.row_len, List.length_map, hlen]
      have r2 : (rowE Val.d (KD k m (l.take i))).length = i * 4 := by rw [valOk.row_len, List.length_map, hlen]
      have s1 : rowE Val.d (KN k (l.take i)) ++ [.sc (.int .u8 k), .sc (.int .u64 n), .sc (.string ⟨#[]⟩), .ro false []] = rowE Val.d (KN k (l.take (i + 1))) := by rw [hKN]; exact rowV_snoc _ (NV k n)
      have s2 : rowE Val.d (KD k m (l.take i)) ++ [.sc (.int .u8 25), .sc (.int .u64 0), .sc (.string ⟨#[]⟩), .ro false [(NV 6 m).d, (NV k n).d]] = rowE Val.d (KD k m (l.take (i + 1))) := by rw [hKD]; exact rowV_snoc _ (DV (NV 6 m) (NV k n))
      have hb56 : ((i + 1) * 56 ≤ 140737488355328) = True := eq_true (by omega)
      have hmx : (if (wK k n : Int) > mo then (wK k n : Int) else mo) = mostS k (l.take (i + 1)) := by
        rw [hsn, most_app, hmo]; simp only [mostS]; split <;> omega
      have hrt' : ∀ x ∈ l.take (i + 1), rightS (NV k x) = true := fun x hx => by
        rw [hsn, List.mem_append] at hx
        rcases hx with hx | hx
        · exact hrt x hx
        · rw [List.mem_singleton.1 hx]; exact hR
      rw [hbz] at he
      rcases hst with ⟨rfl, rfl, rfl⟩ | ⟨hpos, rfl, rfl⟩
      · rw [show l.take 0 = [] from rfl] at s1 s2
        rw [show (rowE Val.d (KN k []) : List D) = [] from rfl, List.nil_append] at s1
        rw [show (rowE Val.d (KD k m []) : List D) = [] from rfl, List.nil_append] at s2
        simp +contextual (maxSteps := 10000000) only [↓reduceIte, go_sem, Nat.reduceEqDiff, Nat.reduceAdd, Nat.reduceSub, Nat.reduceMul, Nat.reduceLeDiff, Nat.reduceLT, Nat.reduceBEq, Nat.reduceDiv, Nat.reduceMod, Int.reduceLE, Int.reduceLT, Int.reduceEq, Int.reduceBEq, Int.reduceBNe, Int.reduceAdd, Int.reduceSub, Int.reduceNeg, Int.reduceToNat, Int.reduceMul, Int.reducePow, Nat.reducePow, reduceCtorEq, hlt', hlt2, hl0, hl00, hn, hnv, hr, he, hnm, hd, show (1 + (wK k n : Int) - 1) = wK k n by omega, wrap_i64 (n := (wK k n : Int)) (by omega) (by omega), hmx]
        exact ih (m0 - 1) _ _ (by omega) ⟨1, _, by omega, hrt', rfl, .inr ⟨by omega, rfl, by rw [← s1, ← s2]⟩⟩
      · simp +contextual (maxSteps := 10000000) only [↓reduceIte, go_sem, Nat.reduceEqDiff, Nat.reduceAdd, Nat.reduceSub, Nat.reduceMul, Nat.reduceLeDiff, Nat.reduceLT, Nat.reduceBEq, Nat.reduceDiv, Nat.reduceMod, Int.reduceLE, Int.reduceLT, Int.reduceEq, Int.reduceBEq, Int.reduceBNe, Int.reduceAdd, Int.reduceSub, Int.reduceNeg, Int.reduceToNat, Int.reduceMul, Int.reducePow, Nat.reducePow, reduceCtorEq, hlt', hlt2, hl0, hl00, hn, hnv, hr, he, hnm, hd, show (1 + (wK k n : Int) - 1) = wK k n by omega, wrap_i64 (n := (wK k n : Int)) (by omega) (by omega), wrap_i64 (n := (i : Int) + 1) (by omega) (by omega), r1, r2, s1, s2, hb56, hmx]
        exact ih (m0 - 1) _ _ (by omega) ⟨i + 1, _, by omega, hrt', rfl, .inr ⟨by omega, rfl, rfl⟩⟩
  · have hlt' : decide ((i : Int) < l.length) = false := by simp; omega
    clear ih
    rw [List.take_of_length_le hge] at hrt hmo hst
    obtain rfl : i = l.length := by omega
    have hne : l ≠ [] := fun h => hz (by rw [h]; rfl)
    have h14 : k ≤ 14 := by omega
    obtain ⟨cat, HA, HD, c1, c2, c3, c4, c5⟩ := arr_two k l m (by omega) h14 hne (fun n hn => (hl n hn).1)
    have hmay : ∀ n ∈ l, mayS (NV k n) = true := fun n hn => right_num (hrt n hn)
    have ra : rightS (AV (KN k l)) = true := right_arr (d := 1) (i := 1) (fun x hx => by obtain ⟨n, hn, rfl⟩ := List.mem_map.1 hx; exact hmay n hn) (fun x hx y hy => by obtain ⟨n, hn, rfl⟩ := List.mem_map.1 hx; obtain ⟨p, hp, rfl⟩ := List.mem_map.1 hy; exact alike_nv k n p h14) (fun x hx => by obtain ⟨n, hn, rfl⟩ := List.mem_map.1 hx; exact nv_depth k n) (fun x hx => by obtain ⟨n, hn, rfl⟩ := List.mem_map.1 hx; exact nv_items k n) (by decide) (by rw [List.length_map]; omega)
    have rd : rightS (AV (KD k m l)) = true := right_arr (d := 2) (i := 3) (fun x hx => by obtain ⟨n, hn, rfl⟩ := List.mem_map.1 hx; exact may_dv (hmay n hn)) (fun x hx y hy => by obtain ⟨n, hn, rfl⟩ := List.mem_map.1 hx; obtain ⟨p, hp, rfl⟩ := List.mem_map.1 hy; exact alike_dv m k n p h14) (fun x hx => by obtain ⟨n, hn, rfl⟩ := List.mem_map.1 hx; exact dv_depth m k n) (fun x hx => by obtain ⟨n, hn, rfl⟩ := List.mem_map.1 hx; exact dv_items m k n) (by decide) (by rw [List.length_map]; omega)
    have wn : (NV 6 m).wf := ⟨⟨by decide, by decide, h0, by omega⟩, trivial⟩
    have wk : ∀ n ∈ l, (NV k n).wf := fun n hn => ⟨⟨hk.1, by omega, (hl n hn).1, by have := (hl n hn).2; omega⟩, trivial⟩
    have wa : (AV (KN k l)).wf := ⟨⟨by decide, by decide, by decide, by decide⟩, wfL_of fun x hx => by obtain ⟨n, hn, rfl⟩ := List.mem_map.1 hx; exact wk n hn⟩
    have wd : (AV (KD k m l)).wf := ⟨⟨by decide, by decide, by decide, by decide⟩, wfL_of fun x hx => by obtain ⟨n, hn, rfl⟩ := List.mem_map.1 hx; exact ⟨⟨by decide, by decide, by decide, by decide⟩, wn, wk n hn, trivial⟩⟩
    have za : Val.szL (KN k l) ≤ l.length * 1 := by have := szL_of (b := 1) (l := KN k l) fun x hx => by obtain ⟨n, hn, rfl⟩ := List.mem_map.1 hx; exact Nat.le_refl _
                                                    rwa [List.length_map] at this
    have zd : Val.szL (KD k m l) ≤ l.length * 3 := by have := szL_of (b := 3) (l := KD k m l) fun x hx => by obtain ⟨n, hn, rfl⟩ := List.mem_map.1 hx; exact Nat.le_refl _
                                                      rwa [List.length_map] at this
    have ma := many_c 24 (KN k l) (by omega)
    have md := many_c 24 (KD k m l) (by omega)
    have ea := encode_c (AV (KN k l)) (by show 0 + Val.szL (KN k l) + 1 ≤ _; omega) wa
    have ed := encode_c (AV (KD k m l)) (by show 0 + Val.szL (KD k m l) + 1 ≤ _; omega) wd
    have en := encode_c (NV 6 m) (by show 0 + 0 + 1 ≤ _; omega) wn
    have rn : rightS (NV 6 m) = true := by unfold rightS; rw [may_name, nv_depth, nv_items]; rfl
    rw [if_pos ra, c2, ByteArray.size_append, c1] at ea
    rw [if_pos rd, c3, ByteArray.size_append, c1] at ed
    rw [if_pos rn] at en
    have hNz : (wrV (NV 6 m)).size ≤ 10 := by have := wr_sz (NV 6 m); have : (NV 6 m).sz = 1 := rfl; omega
    have hW := most_le k l
    have hP : mostS k l * l.length ≤ 8 * 200 := Nat.mul_le_mul hW (by omega)
    generalize hwd : mostS k l = W at *
    rcases hst with ⟨h, _⟩ | ⟨hpos, rfl, rfl⟩
    · omega
    subst hmo
    have lk : (KN k l).length = l.length := List.length_map ..
    have ld : (KD k m l).length = l.length := List.length_map ..
    have hmul : (W : Int) * (l.length : Int) = ((W * l.length : Nat) : Int) := (Int.natCast_mul ..).symm
    generalize hpp : W * l.length = p at *
    generalize hnz : (wrV (NV 6 m)).size = nz at *
    have w1 := wrap_i64 (n := (p : Int)) (by omega) (by omega)
    have w2 := wrap_i64 (n := 1 + (p : Int)) (by omega) (by omega)
    have w3 := wrap_i64 (n := 1 + (p : Int) + 1) (by omega) (by omega)
    have w4 := wrap_i64 (n := 1 + (p : Int) + 1 + nz) (by omega) (by omega)
    by_cases hA : (254 : Int) < 1 + p
    · have hB : (254 : Int) < 1 + p + 1 + nz := by omega
      have z1 : HA.size = 10 := by rw [c4, if_neg (by omega)]
      have z2 : HD.size = 11 + nz := by rw [c5, if_neg (by omega)]; omega
      rw [z1] at ea
      rw [z2] at ed
      have x1 : (HA ++ cat).extract 10 (10 + p) = cat := by rw [← z1]; exact ext_tail HA cat p c1.symm
      have x2 : (HD ++ cat).extract (11 + nz) (11 + nz + p) = cat := by rw [← z2]; exact ext_tail HD cat p c1.symm
      have t1 : ((10 : Int) + p == IntKind.i64.wrap (9 + (1 + (p : Int)))) = true := by rw [wrap_i64 (by omega) (by omega)]; simp only [beq_iff_eq]; omega
      have t2 : ((11 : Int) + nz + p == IntKind.i64.wrap (IntKind.i64.wrap (IntKind.i64.wrap (9 + (1 + (p : Int))) + 1) + nz)) = true := by rw [wrap_i64 (n := 9 + (1 + (p : Int))) (by omega) (by omega), wrap_i64 (n := 9 + (1 + (p : Int)) + 1) (by omega) (by omega), wrap_i64 (by omega) (by omega)]; simp only [beq_iff_eq]; omega
      have t3 : IntKind.i64.wrap ((10 : Int) + p - p) = 10 := by rw [wrap_i64 (by omega) (by omega)]; omega
      have t4 : IntKind.i64.wrap ((11 : Int) + nz + p - p) = 11 + nz := by rw [wrap_i64 (by omega) (by omega)]; omega
      have t5 : ((11 : Int) + nz).toNat = 11 + nz := by omega
      have t6 : (0 ≤ (11 : Int) + nz) = True := eq_true (by omega)
      have t7 : (10 ≤ 10 + p) = True := eq_true (by omega)
      have t8 : (11 + nz ≤ 11 + nz + p) = True := eq_true (by omega)
      have t9 : (11 + nz = 0) = False := eq_false (by omega)
      have t10 : 10 + p - 10 = p := by omega
      have t11 : 11 + nz + p - (11 + nz) = p := by omega
      by_cases hp0 : p = 0
      · have u1 : (10 = 10 + p) = True := eq_true (by omega)
        have u2 : (11 + nz = 11 + nz + p) = True := eq_true (by omega)
        have q := eq_ll e0 e0
        rw [decide_eq_true rfl, show bytesD e0 = [] from rfl] at q
        simp +contextual (maxSteps := 10000000) only [↓reduceIte, go_sem, Nat.reduceEqDiff, Nat.reduceAdd, Nat.reduceSub, Nat.reduceMul, Nat.reduceLeDiff, Nat.reduceLT, Nat.reduceBEq, Nat.reduceDiv, Nat.reduceMod, Int.reduceLE, Int.reduceLT, Int.reduceEq, Int.reduceBEq, Int.reduceBNe, Int.reduceAdd, Int.reduceSub, Int.reduceNeg, Int.reduceToNat, Int.reduceMul, Int.reducePow, Nat.reducePow, reduceCtorEq, hlt', ma, md, ea, ed, hnm, en, fsE_rowE valOk lk, fsE_rowE valOk ld, hmul, w1, w2, w3, w4, decide_eq_true hA, decide_eq_true hB, t1, t2, t3, t4, t5, t6, t7, t8, t9, t10, t11, u1, u2, q, works5]
      · have u1 : (10 = 10 + p) = False := eq_false (by omega)
        have u2 : (11 + nz = 11 + nz + p) = False := eq_false (by omega)
        have q := eq_rr (HA ++ cat) (HD ++ cat) 10 p (11 + nz) p (by rw [ByteArray.size_append]; omega) (by rw [ByteArray.size_append]; omega)
        rw [x1, x2, decide_eq_true rfl] at q
        simp +contextual (maxSteps := 10000000) only [↓reduceIte, go_sem, Nat.reduceEqDiff, Nat.reduceAdd, Nat.reduceSub, Nat.reduceMul, Nat.reduceLeDiff, Nat.reduceLT, Nat.reduceBEq, Nat.reduceDiv, Nat.reduceMod, Int.reduceLE, Int.reduceLT, Int.reduceEq, Int.reduceBEq, Int.reduceBNe, Int.reduceAdd, Int.reduceSub, Int.reduceNeg, Int.reduceToNat, Int.reduceMul, Int.reducePow, Nat.reducePow, reduceCtorEq, hlt', ma, md, ea, ed, hnm, en, fsE_rowE valOk lk, fsE_rowE valOk ld, hmul, w1, w2, w3, w4, decide_eq_true hA, decide_eq_true hB, t1, t2, t3, t4, t5, t6, t7, t8, t9, t10, t11, u1, u2, q, works5]
    · by_cases hB : (254 : Int) < 1 + p + 1 + nz
      · have z1 : HA.size = 4 := by rw [c4, if_pos (by omega)]
        have z2 : HD.size = 11 + nz := by rw [c5, if_neg (by omega)]; omega
        rw [z1] at ea
        rw [z2] at ed
        have x1 : (HA ++ cat).extract 4 (4 + p) = cat := by rw [← z1]; exact ext_tail HA cat p c1.symm
        have x2 : (HD ++ cat).extract (11 + nz) (11 + nz + p) = cat := by rw [← z2]; exact ext_tail HD cat p c1.symm
        have t1 : ((4 : Int) + p == IntKind.i64.wrap (3 + (1 + (p : Int)))) = true := by rw [wrap_i64 (by omega) (by omega)]; simp only [beq_iff_eq]; omega
        have t2 : ((11 : Int) + nz + p == IntKind.i64.wrap (IntKind.i64.wrap (IntKind.i64.wrap (9 + (1 + (p : Int))) + 1) + nz)) = true := by rw [wrap_i64 (n := 9 + (1 + (p : Int))) (by omega) (by omega), wrap_i64 (n := 9 + (1 + (p : Int)) + 1) (by omega) (by omega), wrap_i64 (by omega) (by omega)]; simp only [beq_iff_eq]; omega
        have t3 : IntKind.i64.wrap ((4 : Int) + p - p) = 4 := by rw [wrap_i64 (by omega) (by omega)]; omega
        have t4 : IntKind.i64.wrap ((11 : Int) + nz + p - p) = 11 + nz := by rw [wrap_i64 (by omega) (by omega)]; omega
        have t5 : ((11 : Int) + nz).toNat = 11 + nz := by omega
        have t6 : (0 ≤ (11 : Int) + nz) = True := eq_true (by omega)
        have t7 : (4 ≤ 4 + p) = True := eq_true (by omega)
        have t8 : (11 + nz ≤ 11 + nz + p) = True := eq_true (by omega)
        have t9 : (11 + nz = 0) = False := eq_false (by omega)
        have t10 : 4 + p - 4 = p := by omega
        have t11 : 11 + nz + p - (11 + nz) = p := by omega
        by_cases hp0 : p = 0
        · have u1 : (4 = 4 + p) = True := eq_true (by omega)
          have u2 : (11 + nz = 11 + nz + p) = True := eq_true (by omega)
          have q := eq_ll e0 e0
          rw [decide_eq_true rfl, show bytesD e0 = [] from rfl] at q
          simp +contextual (maxSteps := 10000000) only [↓reduceIte, go_sem, Nat.reduceEqDiff, Nat.reduceAdd, Nat.reduceSub, Nat.reduceMul, Nat.reduceLeDiff, Nat.reduceLT, Nat.reduceBEq, Nat.reduceDiv, Nat.reduceMod, Int.reduceLE, Int.reduceLT, Int.reduceEq, Int.reduceBEq, Int.reduceBNe, Int.reduceAdd, Int.reduceSub, Int.reduceNeg, Int.reduceToNat, Int.reduceMul, Int.reducePow, Nat.reducePow, reduceCtorEq, hlt', ma, md, ea, ed, hnm, en, fsE_rowE valOk lk, fsE_rowE valOk ld, hmul, w1, w2, w3, w4, decide_eq_false hA, decide_eq_true hB, t1, t2, t3, t4, t5, t6, t7, t8, t9, t10, t11, u1, u2, q, works5]
        · have u1 : (4 = 4 + p) = False := eq_false (by omega)
          have u2 : (11 + nz = 11 + nz + p) = False := eq_false (by omega)
          have q := eq_rr (HA ++ cat) (HD ++ cat) 4 p (11 + nz) p (by rw [ByteArray.size_append]; omega) (by rw [ByteArray.size_append]; omega)
          rw [x1, x2, decide_eq_true rfl] at q
          simp +contextual (maxSteps := 10000000) only [↓reduceIte, go_sem, Nat.reduceEqDiff, Nat.reduceAdd, Nat.reduceSub, Nat.reduceMul, Nat.reduceLeDiff, Nat.reduceLT, Nat.reduceBEq, Nat.reduceDiv, Nat.reduceMod, Int.reduceLE, Int.reduceLT, Int.reduceEq, Int.reduceBEq, Int.reduceBNe, Int.reduceAdd, Int.reduceSub, Int.reduceNeg, Int.reduceToNat, Int.reduceMul, Int.reducePow, Nat.reducePow, reduceCtorEq, hlt', ma, md, ea, ed, hnm, en, fsE_rowE valOk lk, fsE_rowE valOk ld, hmul, w1, w2, w3, w4, decide_eq_false hA, decide_eq_true hB, t1, t2, t3, t4, t5, t6, t7, t8, t9, t10, t11, u1, u2, q, works5]
      · have z1 : HA.size = 4 := by rw [c4, if_pos (by omega)]
        have z2 : HD.size = 5 + nz := by rw [c5, if_pos (by omega)]; omega
        rw [z1] at ea
        rw [z2] at ed
        have x1 : (HA ++ cat).extract 4 (4 + p) = cat := by rw [← z1]; exact ext_tail HA cat p c1.symm
        have x2 : (HD ++ cat).extract (5 + nz) (5 + nz + p) = cat := by rw [← z2]; exact ext_tail HD cat p c1.symm
        have t1 : ((4 : Int) + p == IntKind.i64.wrap (3 + (1 + (p : Int)))) = true := by rw [wrap_i64 (by omega) (by omega)]; simp only [beq_iff_eq]; omega
        have t2 : ((5 : Int) + nz + p == IntKind.i64.wrap (IntKind.i64.wrap (IntKind.i64.wrap (3 + (1 + (p : Int))) + 1) + nz)) = true := by rw [wrap_i64 (n := 3 + (1 + (p : Int))) (by omega) (by omega), wrap_i64 (n := 3 + (1 + (p : Int)) + 1) (by omega) (by omega), wrap_i64 (by omega) (by omega)]; simp only [beq_iff_eq]; omega
        have t3 : IntKind.i64.wrap ((4 : Int) + p - p) = 4 := by rw [wrap_i64 (by omega) (by omega)]; omega
        have t4 : IntKind.i64.wrap ((5 : Int) + nz + p - p) = 5 + nz := by rw [wrap_i64 (by omega) (by omega)]; omega
        have t5 : ((5 : Int) + nz).toNat = 5 + nz := by omega
        have t6 : (0 ≤ (5 : Int) + nz) = True := eq_true (by omega)
        have t7 : (4 ≤ 4 + p) = True := eq_true (by omega)
        have t8 : (5 + nz ≤ 5 + nz + p) = True := eq_true (by omega)
        have t9 : (5 + nz = 0) = False := eq_false (by omega)
        have t10 : 4 + p - 4 = p := by omega
        have t11 : 5 + nz + p - (5 + nz) = p := by omega
        by_cases hp0 : p = 0
        · have u1 : (4 = 4 + p) = True := eq_true (by omega)
          have u2 : (5 + nz = 5 + nz + p) = True := eq_true (by omega)
          have q := eq_ll e0 e0
          rw [decide_eq_true rfl, show bytesD e0 = [] from rfl] at q
          simp +contextual (maxSteps := 10000000) only [↓reduceIte, go_sem, Nat.reduceEqDiff, Nat.reduceAdd, Nat.reduceSub, Nat.reduceMul, Nat.reduceLeDiff, Nat.reduceLT, Nat.reduceBEq, Nat.reduceDiv, Nat.reduceMod, Int.reduceLE, Int.reduceLT, Int.reduceEq, Int.reduceBEq, Int.reduceBNe, Int.reduceAdd, Int.reduceSub, Int.reduceNeg, Int.reduceToNat, Int.reduceMul, Int.reducePow, Nat.reducePow, reduceCtorEq, hlt', ma, md, ea, ed, hnm, en, fsE_rowE valOk lk, fsE_rowE valOk ld, hmul, w1, w2, w3, w4, decide_eq_false hA, decide_eq_false hB, t1, t2, t3, t4, t5, t6, t7, t8, t9, t10, t11, u1, u2, q, works5]
        · have u1 : (4 = 4 + p) = False := eq_false (by omega)
          have u2 : (5 + nz = 5 + nz + p) = False := eq_false (by omega)
          have q := eq_rr (HA ++ cat) (HD ++ cat) 4 p (5 + nz) p (by rw [ByteArray.size_append]; omega) (by rw [ByteArray.size_append]; omega)
          rw [x1, x2, decide_eq_true rfl] at q
          simp +contextual (maxSteps := 10000000) only [↓reduceIte, go_sem, Nat.reduceEqDiff, Nat.reduceAdd, Nat.reduceSub, Nat.reduceMul, Nat.reduceLeDiff, Nat.reduceLT, Nat.reduceBEq, Nat.reduceDiv, Nat.reduceMod, Int.reduceLE, Int.reduceLT, Int.reduceEq, Int.reduceBEq, Int.reduceBNe, Int.reduceAdd, Int.reduceSub, Int.reduceNeg, Int.reduceToNat, Int.reduceMul, Int.reducePow, Nat.reducePow, reduceCtorEq, hlt', ma, md, ea, ed, hnm, en, fsE_rowE valOk lk, fsE_rowE valOk ld, hmul, w1, w2, w3, w4, decide_eq_false hA, decide_eq_false hB, t1, t2, t3, t4, t5, t6, t7, t8, t9, t10, t11, u1, u2, q, works5]
end Go.Bw.R1
