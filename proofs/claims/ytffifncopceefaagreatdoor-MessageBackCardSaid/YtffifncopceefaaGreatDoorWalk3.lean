/- What the functions answer. -/
import Derived.Test.YtffifncopceefaaGreatDoorWalk2
set_option linter.unusedSimpArgs false
set_option linter.unusedVariables false
/- Messages: what a section tells. -/
namespace Go.Bw.R1
set_option maxRecDepth 5000
open Go Go.Bw Go.Proofs
/-- how often the body's row was appended to -/
def takeW (m : Msg) (c : Int) (v : Val) : Nat := if c = 5 ∧ ¬ m.body.size = 0 ∧ ¬ (snd' v).text.size = 0 then 1 else 0
def takeX (m : Msg) (c : Int) (v : Val) : Msg := if c = 0 then hdrX m v else if c = 3 then prpX m v else if c = 5 then { m with body := m.body ++ (snd' v).text } else m
theorem hdrX_body (m : Msg) (v : Val) : (hdrX m v).body = m.body := by unfold hdrX; split <;> rfl
theorem prpX_body (m : Msg) (v : Val) : (prpX m v).body = m.body := by unfold prpX; split <;> rfl
theorem hdrX_nil {m : Msg} {w : Nat} {v : Val} (h : m.body.size = 0) : mS (hdrX m v) w = [mR (hdrX m v) .nils] := mS_nil (by rw [hdrX_body]; exact h)
theorem prpX_nil {m : Msg} {w : Nat} {v : Val} (h : m.body.size = 0) : mS (prpX m v) w = [mR (prpX m v) .nils] := mS_nil (by rw [prpX_body]; exact h)
theorem hdrX_row {m : Msg} {w : Nat} {v : Val} (h : ¬ m.body.size = 0) : mS (hdrX m v) w = [mR (hdrX m v) (.ref 1 w 1 0 m.body.size), some ⟨w, bytesD m.body⟩] := by
  have := mS_row (m := hdrX m v) (w := w) (by rw [hdrX_body]; exact h)
  rw [hdrX_body] at this; exact this
theorem prpX_row {m : Msg} {w : Nat} {v : Val} (h : ¬ m.body.size = 0) : mS (prpX m v) w = [mR (prpX m v) (.ref 1 w 1 0 m.body.size), some ⟨w, bytesD m.body⟩] := by
  have := mS_row (m := prpX m v) (w := w) (by rw [prpX_body]; exact h)
  rw [prpX_body] at this; exact this
set_option maxHeartbeats 8000000 in
theorem take_c (m : Msg) (c : Int) (v d x : Val) (hk : v.kids = [d, x]) (hw : v.wf) (hz : v.sz ≤ 40000000000) (hc0 : 0 ≤ c) (hc8 : c ≤ 8) (hb0 : m.body.size + x.text.size ≤ 40000000000) : EM 44 [.ptr 0 0 0, I c, v.d] (mS m 0) = some (.ret (B (takeS m c v).isSome), mS (takeX m c v) (takeW m c v)) := by
  refine (ev_body ⟨[5], [], [(7, [(1, 0, false), (2, 0, false), (3, 0, false), (4, 0, false), (5, 0, false), (6, 0, false), (7, 0, false), (8, 0, false), (9, 0, false), (10, 0, true), (0, 0, false), (11, 1, false), (12, 1, false), (13, 0, true)])], false, [], noIt⟩ [.tmp 6] rfl Tryz.func44 rfl rfl rfl (by kernel_rfl) (by show 3 ≤ 49; decide) (by kernel_rfl)).trans ?_
  unfold takeS takeX
  have hs : snd' v = x := by unfold snd'; rw [hk]
  have wc : IntKind.i64.wrap (c + 112) = c + 112 := wrap_i64 (by omega) (by omega)
  have hd1 : (v.kids.map Val.d)[1]? = some x.d := by rw [hk]; rfl
  by_cases h0 : c = 0
  · rw [if_pos h0, if_pos h0]
    have g0 : (c + 112 == 112) = true := by rw [h0]; rfl
    have h1 := header_c m 0 v hw hz
    have hw' : takeW m c v = 0 := by unfold takeW; rw [if_neg (by omega)]
    rw [hw']
    by_cases hb : m.body.size = 0
    · rw [mS_nil hb, hdrX_nil hb] at h1
      rw [mS_nil hb, hdrX_nil hb]
      unfold mR at h1 ⊢
      simp +contextual (maxSteps := 10000000) only [go_sem, wc, g0, h1]
    · rw [mS_row hb, hdrX_row hb] at h1
      rw [mS_row hb, hdrX_row hb]
      unfold mR at h1 ⊢
      simp +contextual (maxSteps := 10000000) only [go_sem, wc, g0, h1]
  · rw [if_neg h0, if_neg h0]
    have g0 : (c + 112 == 112) = false := by rw [beq_eq_false_iff_ne]; omega
    by_cases h3 : c = 3
    · rw [if_pos h3, if_pos h3]
      have g3 : (c + 112 == 115) = true := by rw [h3]; rfl
      have h1 := properties_c m 0 v hw hz
      have hw' : takeW m c v = 0 := by unfold takeW; rw [if_neg (by omega)]
      rw [hw']
      by_cases hb : m.body.size = 0
      · rw [mS_nil hb, prpX_nil hb] at h1
        rw [mS_nil hb, prpX_nil hb]
        unfold mR at h1 ⊢
        simp +contextual (maxSteps := 10000000) only [go_sem, wc, g0, g3, h1]
      · rw [mS_row hb, prpX_row hb] at h1
        rw [mS_row hb, prpX_row hb]
        unfold mR at h1 ⊢
        simp +contextual (maxSteps := 10000000) only [go_sem, wc, g0, g3, h1]
    · rw [if_neg h3, if_neg h3]
      have g3 : (c + 112 == 115) = false := by rw [beq_eq_false_iff_ne]; omega
      by_cases h5 : c = 5
      · rw [if_pos h5, if_pos h5, hs]
        have g5 : (c + 112 == 117) = true := by rw [h5]; rfl
        have e1 : (if x.kind = 19 then some { m with body := m.body ++ x.text } else none).isSome = (x.kind == 19) := by
          by_cases h : x.kind = 19
          · rw [if_pos h, h]; rfl
          · rw [if_neg h]; symm; rw [Option.isSome_none, beq_eq_false_iff_ne]; exact h
        rw [e1]
        have hle : x.text.size ≤ 140737488355328 := by omega
        have hle2 : m.body.size + x.text.size ≤ 140737488355328 := by omega
        by_cases hb : m.body.size = 0
        · rw [mS_nil hb]
          have he : m.body = e0 := ByteArray.ext (Array.eq_empty_of_size_eq_zero hb)
          by_cases ht : x.text.size = 0
          · rw [mS_nil (by show (m.body ++ x.text).size = 0; rw [ByteArray.size_append]; omega)]
            unfold mR
            simp +contextual (maxSteps := 10000000) only [go_sem, wc, g0, g3, g5, hd1, ht]
          · rw [mS_row (by show ¬ (m.body ++ x.text).size = 0; rw [ByteArray.size_append]; omega)]
            have hw' : takeW m c v = 0 := by unfold takeW; rw [if_neg (fun h => h.2.1 hb)]
            rw [hw']
            have he2 : m.body ++ x.text = x.text := by rw [he]; exact ByteArray.empty_append
            unfold mR
            dsimp only
            rw [he2]
            simp +contextual (maxSteps := 10000000) only [go_sem, wc, g0, g3, g5, hd1, ht, hle]
        · rw [mS_row hb]
          rw [mS_row (by show ¬ (m.body ++ x.text).size = 0; rw [ByteArray.size_append]; omega)]
          unfold mR
          dsimp only
          by_cases ht : x.text.size = 0
          · have he : x.text = e0 := ByteArray.ext (Array.eq_empty_of_size_eq_zero ht)
            have he2 : m.body ++ x.text = m.body := by rw [he]; exact ByteArray.append_empty
            have hw' : takeW m c v = 0 := by unfold takeW; rw [hs, if_neg (fun h => h.2.2 ht)]
            rw [he2, hw']
            simp +contextual (maxSteps := 10000000) only [go_sem, wc, g0, g3, g5, hd1, hle2, ht]
          · have hw' : takeW m c v = 1 := by unfold takeW; rw [hs, if_pos ⟨h5, hb, ht⟩]
            rw [hw']
            simp +contextual (maxSteps := 10000000) only [go_sem, wc, g0, g3, g5, hd1, hle2, ht, bytesD_one]
      · rw [if_neg h5, if_neg h5]
        have g5 : (c + 112 == 117) = false := by rw [beq_eq_false_iff_ne]; omega
        have hw' : takeW m c v = 0 := by unfold takeW; rw [if_neg (by omega)]
        rw [hw']
        by_cases h6 : c = 6 ∨ c = 7
        · rw [if_pos h6]
          by_cases hb : m.body.size = 0
          · rw [mS_nil hb]
            unfold mR
            rcases h6 with h6 | h6
            · have g6 : (c + 112 == 118) = true := by rw [h6]; rfl
              simp +contextual (maxSteps := 10000000) only [go_sem, wc, g0, g3, g5, g6]
              rfl
            · have g6 : (c + 112 == 118) = false := by rw [h6]; rfl
              have g7 : (c + 112 == 119) = true := by rw [h6]; rfl
              simp +contextual (maxSteps := 10000000) only [go_sem, wc, g0, g3, g5, g6, g7]
              rfl
          · rw [mS_row hb]
            unfold mR
            rcases h6 with h6 | h6
            · have g6 : (c + 112 == 118) = true := by rw [h6]; rfl
              simp +contextual (maxSteps := 10000000) only [go_sem, wc, g0, g3, g5, g6]
              rfl
            · have g6 : (c + 112 == 118) = false := by rw [h6]; rfl
              have g7 : (c + 112 == 119) = true := by rw [h6]; rfl
              simp +contextual (maxSteps := 10000000) only [go_sem, wc, g0, g3, g5, g6, g7]
              rfl
        · rw [if_neg h6, hs]
          have g6 : (c + 112 == 118) = false := by rw [beq_eq_false_iff_ne]; omega
          have g7 : (c + 112 == 119) = false := by rw [beq_eq_false_iff_ne]; omega
          have e1 : (if x.kind = 23 then some m else none).isSome = (x.kind == 23) := by
            by_cases h : x.kind = 23
            · rw [if_pos h, h]; rfl
            · rw [if_neg h]; symm; rw [Option.isSome_none, beq_eq_false_iff_ne]; exact h
          rw [e1]
          by_cases hb : m.body.size = 0
          · rw [mS_nil hb]
            unfold mR
            simp +contextual (maxSteps := 10000000) only [go_sem, wc, g0, g3, g5, g6, g7, hd1]
          · rw [mS_row hb]
            unfold mR
            simp +contextual (maxSteps := 10000000) only [go_sem, wc, g0, g3, g5, g6, g7, hd1]
end Go.Bw.R1

/- message.Put. -/
namespace Go.Bw.R1
set_option maxRecDepth 5000
open Go Go.Bw Go.Proofs
def Msg.d (m : Msg) : D := .agg [.sc (.int .u8 m.pri), .sc (.int .u32 m.ttl), .sc (.int .u32 m.cnt), .sc (.string m.id), .ro false (bytesD m.body)]
theorem unless_c (b : Bool) (k n : Int) : EV 33 [B b, .sc (.int .u8 k), .sc (.int .u64 n)] [] = some (.ret (if b = true then vN else Val.mk k n ⟨#[]⟩ []).d, []) := by
  refine (ev_body ⟨[], [], [], true, [], noIt⟩ [.cell 6 46] rfl Tryz.func33 rfl rfl rfl (by kernel_rfl) (by show 3 ≤ 12; decide) (by kernel_rfl)).trans ?_
  cases b
  · simp +contextual (maxSteps := 10000000) only [go_sem, number_c]
  · simp +contextual (maxSteps := 10000000) only [go_sem, null_c]
theorem wrap_u64_id {n : Int} (h0 : 0 ≤ n) (h1 : n < 18446744073709551616) : IntKind.u64.wrap n = n := fit_u64 h0 (by omega)
set_option maxHeartbeats 4000000 in
theorem put_bad (m : Msg) (hm : m.ok) (h : mayM m = false) (hi : m.id.size ≤ 30000000) : EV 13 [m.d] [] = some (.ret (.tup [.ro false [], I 1]), []) := by
  unfold Msg.d
  refine (ev_body ⟨[1], [(0, [5, 93, 94, 95])], [(5, [(0, 0, false), (1, 0, false), (2, 0, false), (3, 0, false), (4, 0, false), (5, 0, false), (6, 0, false), (7, 0, false), (8, 0, false), (9, 0, false), (10, 0, false), (11, 0, false), (12, 0, false), (13, 0, false), (14, 0, false), (15, 0, false), (16, 0, false), (17, 0, false), (18, 0, false), (19, 0, false), (20, 0, false), (21, 0, false), (22, 0, false), (23, 0, false), (24, 0, false), (25, 0, false), (26, 0, false), (27, 0, true), (28, 1, false)]), (8, [(0, 0, false), (1, 0, false), (2, 0, false), (3, 0, false), (4, 0, false), (5, 0, false), (6, 0, false), (7, 0, false), (8, 0, true), (9, 1, false)])], true, [], noIt⟩ [.tmp 2, .tmp 3] rfl Tryz.func13 rfl rfl rfl (by kernel_rfl) (by show 1 ≤ 112; decide) (by kernel_rfl)).trans ?_
  unfold mayM at h
  by_cases h1 : m.pri ≤ 9
  · have g1 : decide ((9 : Int) < m.pri) = false := decide_eq_false (by omega)
    by_cases h2 : m.id.size ≤ 64
    · have g2 : decide ((64 : Int) < m.id.size) = false := decide_eq_false (by omega)
      have hu := uright_c m.id (by omega)
      cases h3 : (charsA (bl m.id)).isSome with
      | false =>
        rw [h3] at hu
        simp +contextual (maxSteps := 10000000) only [go_sem, g1, g2, hu]
      | true =>
        rw [h3] at hu
        have g4 : decide ((2048 : Int) < m.body.size) = true := by
          rw [h3, decide_eq_true h1, decide_eq_true h2] at h
          simp only [Bool.true_and, decide_eq_false_iff_not] at h
          exact decide_eq_true (by omega)
        simp +contextual (maxSteps := 10000000) only [go_sem, g1, g2, hu, g4]
    · have g2 : decide ((64 : Int) < m.id.size) = true := decide_eq_true (by omega)
      simp +contextual (maxSteps := 10000000) only [go_sem, g1, g2]
  · have g1 : decide ((9 : Int) < m.pri) = true := decide_eq_true (by omega)
    simp +contextual (maxSteps := 10000000) only [go_sem, g1]
end Go.Bw.R1

/- message.Put of what may be. -/
namespace Go.Bw.R1
set_option maxRecDepth 5000
open Go Go.Bw Go.Proofs
theorem menc_ok (v : Val) (h : v.sz ≤ 40000000) (hw : v.wf) (hr : rightS v = true) : EV 25 [v.d] [] = some (.ret (.tup [.ref 0 0 1 0 (wrV v).size, I 0]), [some ⟨0, bytesD (wrV v)⟩]) := by
  rw [encode_c v h hw, if_pos hr]
theorem may_parts {m : Msg} (h : mayM m = true) : m.pri ≤ 9 ∧ m.id.size ≤ 64 ∧ (charsA (bl m.id)).isSome = true ∧ m.body.size ≤ 2048 := by
  unfold mayM at h
  simp only [Bool.and_eq_true, decide_eq_true_eq] at h
  exact ⟨h.1.1.1, h.1.1.2, h.1.2, h.2⟩
theorem hdr_args (m : Msg) : (hdrL m).map Val.d = [vN.d, (if (m.pri == 4) = true then vN else Val.mk 3 m.pri ⟨#[]⟩ []).d, (if (m.ttl == 0) = true then vN else Val.mk 5 m.ttl ⟨#[]⟩ []).d, vN.d, (if (m.cnt == 0) = true then vN else Val.mk 5 m.cnt ⟨#[]⟩ []).d] := by
  unfold hdrL
  simp only [List.map_cons, List.map_nil, beq_iff_eq]
theorem dat_sz0 (b : ByteArray) : (Val.mk 6 117 ⟨#[]⟩ []).sz + (Val.mk 19 0 b []).sz = b.size + 2 := by
  have e : (Val.mk 6 117 ⟨#[]⟩ []).sz = 0 + 0 + 1 := rfl
  have e2 : (Val.mk 19 0 b []).sz = b.size + 0 + 1 := rfl
  omega
set_option maxHeartbeats 8000000 in
theorem put_1 (m : Msg) (hm : m.ok) (h : mayM m = true) (hh : hasH m = false) (hi : m.id.size = 0) : EV 13 [m.d] [] = some (.ret (.tup [.ro false (bytesD (wrV (datV m.body))), I 0]), []) := by
  obtain ⟨p1, p2, p3, p4⟩ := may_parts h
  have g1 : decide ((9 : Int) < m.pri) = false := decide_eq_false (by omega)
  have g2 : decide ((64 : Int) < m.id.size) = false := decide_eq_false (by omega)
  have g4 : decide ((2048 : Int) < m.body.size) = false := decide_eq_false (by omega)
  have hu := uright_c m.id (by omega)
  rw [p3] at hu
  have n1 := number_c 6 117
  have t1 := text_c 19 m.body
  have d1 := desc_c (.mk 6 117 ⟨#[]⟩ []) (.mk 19 0 m.body []) (by have := dat_sz0 m.body; omega)
  have q1 : EV 25 [(Val.mk 25 0 ⟨#[]⟩ [.mk 6 117 ⟨#[]⟩ [], .mk 19 0 m.body []]).d] [] = some (.ret (.tup [.ref 0 0 1 0 (wrV (datV m.body)).size, I 0]), [some ⟨0, bytesD (wrV (datV m.body))⟩]) := menc_ok (datV m.body) (by rw [dat_sz]; omega) (dat_wf _) (dat_right _)
  have w1 : ¬ (wrV (datV m.body)).size = 0 := by have := wr_pos (datV m.body); omega
  have w2 : (wrV (datV m.body)).size ≤ 25000 := by have := wr_sz (datV m.body); have := dat_sz m.body; omega
  have w3 : (wrV (datV m.body)).size ≤ 140737488355328 := by omega
  have hid : m.id = e0 := ByteArray.ext (Array.eq_empty_of_size_eq_zero hi)
  have gi : decide (m.id = ⟨#[]⟩) = true := decide_eq_true hid
  unfold hasH at hh
  simp only [Bool.or_eq_false_iff, bne_eq_false_iff_eq] at hh
  have c1 : (m.pri != 4) = false := by rw [hh.1.1]; rfl
  have c2 : (m.ttl != 0) = false := by rw [hh.1.2]; rfl
  have c3 : (m.cnt != 0) = false := by rw [hh.2]; rfl
  generalize wrV (datV m.body) = W at *
  unfold Msg.d
  refine (ev_body ⟨[1], [(0, [5, 93, 94, 95])], [(5, [(0, 0, false), (1, 0, false), (2, 0, false), (3, 0, false), (4, 0, false), (5, 0, false), (6, 0, false), (7, 0, false), (8, 0, false), (9, 0, false), (10, 0, false), (11, 0, false), (12, 0, false), (13, 0, false), (14, 0, false), (15, 0, false), (16, 0, false), (17, 0, false), (18, 0, false), (19, 0, false), (20, 0, false), (21, 0, false), (22, 0, false), (23, 0, false), (24, 0, false), (25, 0, false), (26, 0, false), (27, 0, true), (28, 1, false)]), (8, [(0, 0, false), (1, 0, false), (2, 0, false), (3, 0, false), (4, 0, false), (5, 0, false), (6, 0, false), (7, 0, false), (8, 0, true), (9, 1, false)])], true, [], noIt⟩ [.tmp 2, .tmp 3] rfl Tryz.func13 rfl rfl rfl (by kernel_rfl) (by show 1 ≤ 112; decide) (by kernel_rfl)).trans ?_
  simp +contextual (maxSteps := 10000000) only [go_sem, g1, g2, hu, g4, gi, n1, t1, d1, c1, c2, c3]
  rw [lpK_go]
  simp +contextual (maxSteps := 10000000) only [go_sem, q1, w1, w3]
  rw [lpK_go]
  simp +contextual (maxSteps := 10000000) only [go_sem]
set_option maxHeartbeats 8000000 in
theorem put_2 (m : Msg) (hm : m.ok) (h : mayM m = true) (hh : hasH m = true) (hi : m.id.size = 0) : EV 13 [m.d] [] = some (.ret (.tup [.ro false (bytesD (wrV (putS 112 (hdrL m)) ++ wrV (datV m.body))), I 0]), []) := by
  obtain ⟨p1, p2, p3, p4⟩ := may_parts h
  have g1 : decide ((9 : Int) < m.pri) = false := decide_eq_false (by omega)
  have g2 : decide ((64 : Int) < m.id.size) = false := decide_eq_false (by omega)
  have g4 : decide ((2048 : Int) < m.body.size) = false := decide_eq_false (by omega)
  have hu := uright_c m.id (by omega)
  rw [p3] at hu
  have n1 := number_c 6 117
  have t1 := text_c 19 m.body
  have d1 := desc_c (.mk 6 117 ⟨#[]⟩ []) (.mk 19 0 m.body []) (by have := dat_sz0 m.body; omega)
  have q1 : EV 25 [(Val.mk 25 0 ⟨#[]⟩ [.mk 6 117 ⟨#[]⟩ [], .mk 19 0 m.body []]).d] [] = some (.ret (.tup [.ref 0 0 1 0 (wrV (datV m.body)).size, I 0]), [some ⟨0, bytesD (wrV (datV m.body))⟩]) := menc_ok (datV m.body) (by rw [dat_sz]; omega) (dat_wf _) (dat_right _)
  have w1 : ¬ (wrV (datV m.body)).size = 0 := by have := wr_pos (datV m.body); omega
  have w2 : (wrV (datV m.body)).size ≤ 25000 := by have := wr_sz (datV m.body); have := dat_sz m.body; omega
  have w3 : (wrV (datV m.body)).size ≤ 140737488355328 := by omega
  have hid : m.id = e0 := ByteArray.ext (Array.eq_empty_of_size_eq_zero hi)
  have gi : decide (m.id = ⟨#[]⟩) = true := decide_eq_true hid
  have hH := right_flat (code := 112) (hdr_flat m hm) (by simp [hdrL])
  have zH : (putS 112 (hdrL m)).sz ≤ 100 := by have := put_sz 112 (hdrL m); have := hdrL_sz m; omega
  have wH := putS_wf 112 (by decide) (hdrL_wf m hm)
  obtain ⟨hp, ht, hc⟩ := hm
  have x1 := wrap_u64_id (n := m.pri) (by omega) (by omega)
  have x2 := wrap_u64_id (n := m.ttl) (by omega) (by omega)
  have x3 := wrap_u64_id (n := m.cnt) (by omega) (by omega)
  have l1 := unless_c (m.pri == 4) 3 m.pri
  have l2 := unless_c (m.ttl == 0) 5 m.ttl
  have l3 := unless_c (m.cnt == 0) 5 m.cnt
  have f1 := fput_c 112 (hdrL m) (by have := hdrL_sz m; omega)
  rw [hdr_args] at f1
  have nl := null_c
  generalize (if (m.pri == 4) = true then vN else Val.mk 3 m.pri ⟨#[]⟩ []) = A at *
  generalize (if (m.ttl == 0) = true then vN else Val.mk 5 m.ttl ⟨#[]⟩ []) = B at *
  generalize (if (m.cnt == 0) = true then vN else Val.mk 5 m.cnt ⟨#[]⟩ []) = C at *
  have q0 := menc_ok (putS 112 (hdrL m)) (by omega) wH hH
  have u1 : ¬ (wrV (putS 112 (hdrL m))).size = 0 := by have := wr_pos (putS 112 (hdrL m)); omega
  have u2 : (wrV (putS 112 (hdrL m))).size ≤ 1000 := by have := wr_sz (putS 112 (hdrL m)); omega
  have u3 : (wrV (putS 112 (hdrL m))).size ≤ 140737488355328 := by omega
  generalize putS 112 (hdrL m) = H at *
  generalize wrV (datV m.body) = W at *
  have u5 : (wrV H).size + W.size ≤ 140737488355328 := by omega
  unfold Msg.d
  refine (ev_body ⟨[1], [(0, [5, 93, 94, 95])], [(5, [(0, 0, false), (1, 0, false), (2, 0, false), (3, 0, false), (4, 0, false), (5, 0, false), (6, 0, false), (7, 0, false), (8, 0, false), (9, 0, false), (10, 0, false), (11, 0, false), (12, 0, false), (13, 0, false), (14, 0, false), (15, 0, false), (16, 0, false), (17, 0, false), (18, 0, false), (19, 0, false), (20, 0, false), (21, 0, false), (22, 0, false), (23, 0, false), (24, 0, false), (25, 0, false), (26, 0, false), (27, 0, true), (28, 1, false)]), (8, [(0, 0, false), (1, 0, false), (2, 0, false), (3, 0, false), (4, 0, false), (5, 0, false), (6, 0, false), (7, 0, false), (8, 0, true), (9, 1, false)])], true, [], noIt⟩ [.tmp 2, .tmp 3] rfl Tryz.func13 rfl rfl rfl (by kernel_rfl) (by show 1 ≤ 112; decide) (by kernel_rfl)).trans ?_
  unfold hasH at hh
  by_cases c1 : m.pri = 4
  · have d1' : (m.pri != 4) = false := by rw [c1]; rfl
    by_cases c2 : m.ttl = 0
    · have d2 : (m.ttl != 0) = false := by rw [c2]; rfl
      have d3 : (m.cnt != 0) = true := by rw [d1', d2] at hh; simpa using hh
      simp +contextual (maxSteps := 10000000) only [go_sem, g1, g2, hu, g4, gi, n1, t1, d1, x1, x2, x3, l1, l2, l3, nl, f1, d1', d2, d3]
      rw [lpK_go]
      simp +contextual (maxSteps := 10000000) only [go_sem, q0, u1, u3]
      rw [lpK_go]
      simp +contextual (maxSteps := 10000000) only [go_sem, q1, w1, w3, u5, bytesD_one]
      rw [lpK_go]
      simp +contextual (maxSteps := 10000000) only [go_sem]
    · have d2 : (m.ttl != 0) = true := by simpa using c2
      simp +contextual (maxSteps := 10000000) only [go_sem, g1, g2, hu, g4, gi, n1, t1, d1, x1, x2, x3, l1, l2, l3, nl, f1, d1', d2]
      rw [lpK_go]
      simp +contextual (maxSteps := 10000000) only [go_sem, q0, u1, u3]
      rw [lpK_go]
      simp +contextual (maxSteps := 10000000) only [go_sem, q1, w1, w3, u5, bytesD_one]
      rw [lpK_go]
      simp +contextual (maxSteps := 10000000) only [go_sem]
  · have d1' : (m.pri != 4) = true := by simpa using c1
    simp +contextual (maxSteps := 10000000) only [go_sem, g1, g2, hu, g4, gi, n1, t1, d1, x1, x2, x3, l1, l2, l3, nl, f1, d1']
    rw [lpK_go]
    simp +contextual (maxSteps := 10000000) only [go_sem, q0, u1, u3]
    rw [lpK_go]
    simp +contextual (maxSteps := 10000000) only [go_sem, q1, w1, w3, u5, bytesD_one]
    rw [lpK_go]
    simp +contextual (maxSteps := 10000000) only [go_sem]
set_option maxHeartbeats 8000000 in
theorem put_3 (m : Msg) (hm : m.ok) (h : mayM m = true) (hh : hasH m = false) (hi : ¬ m.id.size = 0) : EV 13 [m.d] [] = some (.ret (.tup [.ro false (bytesD (wrV (putS 115 [.mk 20 0 m.id []]) ++ wrV (datV m.body))), I 0]), []) := by
  obtain ⟨p1, p2, p3, p4⟩ := may_parts h
  have g1 : decide ((9 : Int) < m.pri) = false := decide_eq_false (by omega)
  have g2 : decide ((64 : Int) < m.id.size) = false := decide_eq_false (by omega)
  have g4 : decide ((2048 : Int) < m.body.size) = false := decide_eq_false (by omega)
  have hu := uright_c m.id (by omega)
  rw [p3] at hu
  have n1 := number_c 6 117
  have t1 := text_c 19 m.body
  have d1 := desc_c (.mk 6 117 ⟨#[]⟩ []) (.mk 19 0 m.body []) (by have := dat_sz0 m.body; omega)
  have q1 : EV 25 [(Val.mk 25 0 ⟨#[]⟩ [.mk 6 117 ⟨#[]⟩ [], .mk 19 0 m.body []]).d] [] = some (.ret (.tup [.ref 0 0 1 0 (wrV (datV m.body)).size, I 0]), [some ⟨0, bytesD (wrV (datV m.body))⟩]) := menc_ok (datV m.body) (by rw [dat_sz]; omega) (dat_wf _) (dat_right _)
  have w1 : ¬ (wrV (datV m.body)).size = 0 := by have := wr_pos (datV m.body); omega
  have w2 : (wrV (datV m.body)).size ≤ 25000 := by have := wr_sz (datV m.body); have := dat_sz m.body; omega
  have w3 : (wrV (datV m.body)).size ≤ 140737488355328 := by omega
  have gi : decide (m.id = ⟨#[]⟩) = false := decide_eq_false (fun e => hi (by rw [e]; rfl))
  have hI := right_flat (code := 115) (prp_flat p3) (by simp)
  have zI : (putS 115 [.mk 20 0 m.id []]).sz ≤ 200 := by
    have := put_sz 115 [Val.mk 20 0 m.id []]
    have e : Val.szL [Val.mk 20 0 m.id []] = m.id.size + 0 + 1 + 0 := rfl
    omega
  have wI : (putS 115 [.mk 20 0 m.id []]).wf := putS_wf 115 (by decide) ⟨⟨by decide, trivial⟩, trivial⟩
  have t2 := text_c 20 m.id
  have f2 := fput_c 115 [.mk 20 0 m.id []] (by have e : Val.szL [Val.mk 20 0 m.id []] = m.id.size + 0 + 1 + 0 := rfl; omega)
  simp only [List.map_cons, List.map_nil] at f2
  have q2 := menc_ok (putS 115 [.mk 20 0 m.id []]) (by omega) wI hI
  have v1 : ¬ (wrV (putS 115 [.mk 20 0 m.id []])).size = 0 := by have := wr_pos (putS 115 [.mk 20 0 m.id []]); omega
  have v2 : (wrV (putS 115 [.mk 20 0 m.id []])).size ≤ 2500 := by have := wr_sz (putS 115 [.mk 20 0 m.id []]); omega
  have v3 : (wrV (putS 115 [.mk 20 0 m.id []])).size ≤ 140737488355328 := by omega
  unfold hasH at hh
  simp only [Bool.or_eq_false_iff, bne_eq_false_iff_eq] at hh
  have c1 : (m.pri != 4) = false := by rw [hh.1.1]; rfl
  have c2 : (m.ttl != 0) = false := by rw [hh.1.2]; rfl
  have c3 : (m.cnt != 0) = false := by rw [hh.2]; rfl
  generalize putS 115 [.mk 20 0 m.id []] = J at *
  generalize wrV (datV m.body) = W at *
  have u5 : (wrV J).size + W.size ≤ 140737488355328 := by omega
  unfold Msg.d
  refine (ev_body ⟨[1], [(0, [5, 93, 94, 95])], [(5, [(0, 0, false), (1, 0, false), (2, 0, false), (3, 0, false), (4, 0, false), (5, 0, false), (6, 0, false), (7, 0, false), (8, 0, false), (9, 0, false), (10, 0, false), (11, 0, false), (12, 0, false), (13, 0, false), (14, 0, false), (15, 0, false), (16, 0, false), (17, 0, false), (18, 0, false), (19, 0, false), (20, 0, false), (21, 0, false), (22, 0, false), (23, 0, false), (24, 0, false), (25, 0, false), (26, 0, false), (27, 0, true), (28, 1, false)]), (8, [(0, 0, false), (1, 0, false), (2, 0, false), (3, 0, false), (4, 0, false), (5, 0, false), (6, 0, false), (7, 0, false), (8, 0, true), (9, 1, false)])], true, [], noIt⟩ [.tmp 2, .tmp 3] rfl Tryz.func13 rfl rfl rfl (by kernel_rfl) (by show 1 ≤ 112; decide) (by kernel_rfl)).trans ?_
  simp +contextual (maxSteps := 10000000) only [go_sem, g1, g2, hu, g4, gi, n1, t1, d1, t2, f2, c1, c2, c3]
  rw [lpK_go]
  simp +contextual (maxSteps := 10000000) only [go_sem, q2, v1, v3]
  rw [lpK_go]
  simp +contextual (maxSteps := 10000000) only [go_sem, q1, w1, w3, u5, bytesD_one]
  rw [lpK_go]
  simp +contextual (maxSteps := 10000000) only [go_sem]
set_option maxHeartbeats 8000000 in
theorem put_4 (m : Msg) (hm : m.ok) (h : mayM m = true) (hh : hasH m = true) (hi : ¬ m.id.size = 0) : EV 13 [m.d] [] = some (.ret (.tup [.ro false (bytesD (wrV (putS 112 (hdrL m)) ++ wrV (putS 115 [.mk 20 0 m.id []]) ++ wrV (datV m.body))), I 0]), []) := by
  obtain ⟨p1, p2, p3, p4⟩ := may_parts h
  have g1 : decide ((9 : Int) < m.pri) = false := decide_eq_false (by omega)
  have g2 : decide ((64 : Int) < m.id.size) = false := decide_eq_false (by omega)
  have g4 : decide ((2048 : Int) < m.body.size) = false := decide_eq_false (by omega)
  have hu := uright_c m.id (by omega)
  rw [p3] at hu
  have n1 := number_c 6 117
  have t1 := text_c 19 m.body
  have d1 := desc_c (.mk 6 117 ⟨#[]⟩ []) (.mk 19 0 m.body []) (by have := dat_sz0 m.body; omega)
  have q1 : EV 25 [(Val.mk 25 0 ⟨#[]⟩ [.mk 6 117 ⟨#[]⟩ [], .mk 19 0 m.body []]).d] [] = some (.ret (.tup [.ref 0 0 1 0 (wrV (datV m.body)).size, I 0]), [some ⟨0, bytesD (wrV (datV m.body))⟩]) := menc_ok (datV m.body) (by rw [dat_sz]; omega) (dat_wf _) (dat_right _)
  have w1 : ¬ (wrV (datV m.body)).size = 0 := by have := wr_pos (datV m.body); omega
  have w2 : (wrV (datV m.body)).size ≤ 25000 := by have := wr_sz (datV m.body); have := dat_sz m.body; omega
  have w3 : (wrV (datV m.body)).size ≤ 140737488355328 := by omega
  have gi : decide (m.id = ⟨#[]⟩) = false := decide_eq_false (fun e => hi (by rw [e]; rfl))
  have hI := right_flat (code := 115) (prp_flat p3) (by simp)
  have zI : (putS 115 [.mk 20 0 m.id []]).sz ≤ 200 := by
    have := put_sz 115 [Val.mk 20 0 m.id []]
    have e : Val.szL [Val.mk 20 0 m.id []] = m.id.size + 0 + 1 + 0 := rfl
    omega
  have wI : (putS 115 [.mk 20 0 m.id []]).wf := putS_wf 115 (by decide) ⟨⟨by decide, trivial⟩, trivial⟩
  have t2 := text_c 20 m.id
  have f2 := fput_c 115 [.mk 20 0 m.id []] (by have e : Val.szL [Val.mk 20 0 m.id []] = m.id.size + 0 + 1 + 0 := rfl; omega)
  simp only [List.map_cons, List.map_nil] at f2
  have q2 := menc_ok (putS 115 [.mk 20 0 m.id []]) (by omega) wI hI
  have v1 : ¬ (wrV (putS 115 [.mk 20 0 m.id []])).size = 0 := by have := wr_pos (putS 115 [.mk 20 0 m.id []]); omega
  have v2 : (wrV (putS 115 [.mk 20 0 m.id []])).size ≤ 2500 := by have := wr_sz (putS 115 [.mk 20 0 m.id []]); omega
  have v3 : (wrV (putS 115 [.mk 20 0 m.id []])).size ≤ 140737488355328 := by omega
  have hH := right_flat (code := 112) (hdr_flat m hm) (by simp [hdrL])
  have zH : (putS 112 (hdrL m)).sz ≤ 100 := by have := put_sz 112 (hdrL m); have := hdrL_sz m; omega
  have wH := putS_wf 112 (by decide) (hdrL_wf m hm)
  obtain ⟨hp, ht, hc⟩ := hm
  have x1 := wrap_u64_id (n := m.pri) (by omega) (by omega)
  have x2 := wrap_u64_id (n := m.ttl) (by omega) (by omega)
  have x3 := wrap_u64_id (n := m.cnt) (by omega) (by omega)
  have l1 := unless_c (m.pri == 4) 3 m.pri
  have l2 := unless_c (m.ttl == 0) 5 m.ttl
  have l3 := unless_c (m.cnt == 0) 5 m.cnt
  have f1 := fput_c 112 (hdrL m) (by have := hdrL_sz m; omega)
  rw [hdr_args] at f1
  have nl := null_c
  generalize (if (m.pri == 4) = true then vN else Val.mk 3 m.pri ⟨#[]⟩ []) = A at *
  generalize (if (m.ttl == 0) = true then vN else Val.mk 5 m.ttl ⟨#[]⟩ []) = B at *
  generalize (if (m.cnt == 0) = true then vN else Val.mk 5 m.cnt ⟨#[]⟩ []) = C at *
  have q0 := menc_ok (putS 112 (hdrL m)) (by omega) wH hH
  have u1 : ¬ (wrV (putS 112 (hdrL m))).size = 0 := by have := wr_pos (putS 112 (hdrL m)); omega
  have u2 : (wrV (putS 112 (hdrL m))).size ≤ 1000 := by have := wr_sz (putS 112 (hdrL m)); omega
  have u3 : (wrV (putS 112 (hdrL m))).size ≤ 140737488355328 := by omega
  generalize putS 112 (hdrL m) = H at *
  generalize putS 115 [.mk 20 0 m.id []] = J at *
  generalize wrV (datV m.body) = W at *
  have u4 : (wrV H).size + (wrV J).size ≤ 140737488355328 := by omega
  have u5 : (wrV H).size + (wrV J).size + W.size ≤ 140737488355328 := by omega
  unfold Msg.d
  refine (ev_body ⟨[1], [(0, [5, 93, 94, 95])], [(5, [(0, 0, false), (1, 0, false), (2, 0, false), (3, 0, false), (4, 0, false), (5, 0, false), (6, 0, false), (7, 0, false), (8, 0, false), (9, 0, false), (10, 0, false), (11, 0, false), (12, 0, false), (13, 0, false), (14, 0, false), (15, 0, false), (16, 0, false), (17, 0, false), (18, 0, false), (19, 0, false), (20, 0, false), (21, 0, false), (22, 0, false), (23, 0, false), (24, 0, false), (25, 0, false), (26, 0, false), (27, 0, true), (28, 1, false)]), (8, [(0, 0, false), (1, 0, false), (2, 0, false), (3, 0, false), (4, 0, false), (5, 0, false), (6, 0, false), (7, 0, false), (8, 0, true), (9, 1, false)])], true, [], noIt⟩ [.tmp 2, .tmp 3] rfl Tryz.func13 rfl rfl rfl (by kernel_rfl) (by show 1 ≤ 112; decide) (by kernel_rfl)).trans ?_
  unfold hasH at hh
  by_cases c1 : m.pri = 4
  · have d1' : (m.pri != 4) = false := by rw [c1]; rfl
    by_cases c2 : m.ttl = 0
    · have d2 : (m.ttl != 0) = false := by rw [c2]; rfl
      have d3 : (m.cnt != 0) = true := by rw [d1', d2] at hh; simpa using hh
      simp +contextual (maxSteps := 10000000) only [go_sem, g1, g2, hu, g4, gi, n1, t1, d1, t2, f2, x1, x2, x3, l1, l2, l3, nl, f1, d1', d2, d3]
      rw [lpK_go]
      simp +contextual (maxSteps := 10000000) only [go_sem, q0, u1, u3]
      rw [lpK_go]
      simp +contextual (maxSteps := 10000000) only [go_sem, q2, v1, v3, u1, u4, bytesD_one]
      rw [lpK_go]
      simp +contextual (maxSteps := 10000000) only [go_sem, q1, w1, w3, u5, bytesD_one]
      rw [lpK_go]
      simp +contextual (maxSteps := 10000000) only [go_sem]
    · have d2 : (m.ttl != 0) = true := by simpa using c2
      simp +contextual (maxSteps := 10000000) only [go_sem, g1, g2, hu, g4, gi, n1, t1, d1, t2, f2, x1, x2, x3, l1, l2, l3, nl, f1, d1', d2]
      rw [lpK_go]
      simp +contextual (maxSteps := 10000000) only [go_sem, q0, u1, u3]
      rw [lpK_go]
      simp +contextual (maxSteps := 10000000) only [go_sem, q2, v1, v3, u1, u4, bytesD_one]
      rw [lpK_go]
      simp +contextual (maxSteps := 10000000) only [go_sem, q1, w1, w3, u5, bytesD_one]
      rw [lpK_go]
      simp +contextual (maxSteps := 10000000) only [go_sem]
  · have d1' : (m.pri != 4) = true := by simpa using c1
    simp +contextual (maxSteps := 10000000) only [go_sem, g1, g2, hu, g4, gi, n1, t1, d1, t2, f2, x1, x2, x3, l1, l2, l3, nl, f1, d1']
    rw [lpK_go]
    simp +contextual (maxSteps := 10000000) only [go_sem, q0, u1, u3]
    rw [lpK_go]
    simp +contextual (maxSteps := 10000000) only [go_sem, q2, v1, v3, u1, u4, bytesD_one]
    rw [lpK_go]
    simp +contextual (maxSteps := 10000000) only [go_sem, q1, w1, w3, u5, bytesD_one]
    rw [lpK_go]
    simp +contextual (maxSteps := 10000000) only [go_sem]
end Go.Bw.R1

/- message.Put told whole; message.Get. -/
namespace Go.Bw.R1
set_option maxRecDepth 5000
open Go Go.Bw Go.Proofs
def putB (m : Msg) : ByteArray := (if hasH m = true then wrV (putS 112 (hdrL m)) else ⟨#[]⟩) ++ (if m.id.size = 0 then ⟨#[]⟩ else wrV (putS 115 [.mk 20 0 m.id []])) ++ wrV (datV m.body)
theorem toL_putB (m : Msg) : toL (putB m) = bytesM (secsS m) := by
  unfold putB secsS bytesM
  rw [toL_app, toL_app]
  by_cases h1 : hasH m = true
  · by_cases h2 : m.id.size = 0
    · simp only [if_pos h1, if_pos h2, List.append_nil, List.flatMap_append, List.flatMap_cons, List.flatMap_nil, toL_e]
    · simp only [if_pos h1, if_neg h2, List.append_nil, List.flatMap_append, List.flatMap_cons, List.flatMap_nil, toL_e]
  · by_cases h2 : m.id.size = 0
    · simp only [if_neg h1, if_pos h2, List.append_nil, List.nil_append, List.flatMap_append, List.flatMap_cons, List.flatMap_nil, toL_e]
    · simp only [if_neg h1, if_neg h2, List.append_nil, List.nil_append, List.flatMap_append, List.flatMap_cons, List.flatMap_nil, toL_e]
theorem put_ok (m : Msg) (hm : m.ok) (h : mayM m = true) : EV 13 [m.d] [] = some (.ret (.tup [.ro false (bytesD (putB m)), I 0]), []) := by
  unfold putB
  cases hh : hasH m with
  | true =>
    by_cases hi : m.id.size = 0
    · rw [put_2 m hm h hh hi, if_pos rfl, if_pos hi, ba_app_nil]
    · rw [put_4 m hm h hh hi, if_pos rfl, if_neg hi]
  | false =>
    by_cases hi : m.id.size = 0
    · rw [put_1 m hm h hh hi, if_neg (by decide), if_pos hi, ba_app_nil, ba_nil_app]
    · rw [put_3 m hm h hh hi, if_neg (by decide), if_neg hi, ba_nil_app]
def GetR (o : Option Msg) : R := match o with | some m => .ret (.tup [m.d, I 0]) | none => .ret (.tup [.agg [.sc (.int .u8 0), .sc (.int .u32 0), .sc (.int .u32 0), .sc (.string ⟨#[]⟩), .ro false []], I 6])
theorem sect_rng (v : Val) : -1 ≤ sectS v ∧ sectS v ≤ 8 := by
  unfold sectS
  split
  · split
    · split
      · have := idxB_lt (Val.text ‹_›) nmT 0 (by omega)
        have hl9 : nmT.length = 9 := rfl
        omega
      · split <;> omega
    · omega
  · omega
theorem sect_kids {v : Val} (hr : rightS v = true) (h : 0 ≤ sectS v) : ∃ d x, v.kids = [d, x] := by
  by_cases hk : v.kind = 25
  · obtain ⟨d, x, hkk, _, _⟩ := may_desc (right_may hr) hk
    exact ⟨d, x, hkk⟩
  · unfold sectS at h; rw [if_neg hk] at h; omega
theorem hdr_x {m m' : Msg} {v : Val} (h : hdrS m v = some m') : hdrX m v = m' := by
  unfold hdrS at h
  unfold hdrX
  cases hn : newS v 112 nmB0 with
  | none => rw [hn] at h; cases h
  | some l =>
    rw [hn] at h
    dsimp only at h ⊢
    split at h
    · injection h
    · cases h
theorem prp_x {m m' : Msg} {v : Val} (h : prpS m v = some m') : prpX m v = m' := by
  unfold prpS at h
  unfold prpX
  cases hn : newS v 115 nmB3 with
  | none => rw [hn] at h; cases h
  | some l =>
    rw [hn] at h
    dsimp only at h ⊢
    split at h
    · injection h
    · cases h
theorem take_x {m m' : Msg} {c : Int} {v : Val} (h : takeS m c v = some m') : takeX m c v = m' := by
  unfold takeS at h
  unfold takeX
  by_cases h0 : c = 0
  · rw [if_pos h0] at h ⊢; exact hdr_x h
  rw [if_neg h0] at h ⊢
  by_cases h3 : c = 3
  · rw [if_pos h3] at h ⊢; exact prp_x h
  rw [if_neg h3] at h ⊢
  by_cases h5 : c = 5
  · rw [if_pos h5] at h ⊢
    split at h
    · injection h
    · cases h
  rw [if_neg h5] at h ⊢
  split at h
  · cases h
  · split at h
    · injection h
    · cases h
theorem takeX_body (m : Msg) (c : Int) (v : Val) : (takeX m c v).body = if c = 5 then m.body ++ (snd' v).text else m.body := by
  unfold takeX
  by_cases h0 : c = 0
  · rw [if_pos h0, hdrX_body, if_neg (by omega)]
  rw [if_neg h0]
  by_cases h3 : c = 3
  · rw [if_pos h3, prpX_body, if_neg (by omega)]
  rw [if_neg h3]
  by_cases h5 : c = 5
  · rw [if_pos h5, if_pos h5]
  · rw [if_neg h5, if_neg h5]
theorem snd_tsz (v : Val) : (snd' v).text.size ≤ v.sz := by
  unfold snd'
  have h1 := sz_kids v
  split
  · rename_i d x hk
    rw [hk] at h1
    simp only [Val.szL] at h1
    have h2 : x.text.size ≤ x.sz := by cases x with | mk k n t l => simp only [Val.text, Val.sz]; omega
    omega
  · cases v with | mk k n t l => simp only [Val.text, Val.sz]; omega
def zM : Option En := some ⟨0, [.sc (.int .u8 0), .sc (.int .u32 0), .sc (.int .u32 0), .sc (.string ⟨#[]⟩), .nils]⟩
def mT (m : Msg) (w : Nat) : Sto := if m.body.size = 0 then [zM, mR m .nils] else [zM, mR m (.ref 2 w 1 0 m.body.size), some ⟨w, bytesD m.body⟩]
theorem mT_nil {m : Msg} {w : Nat} (h : m.body.size = 0) : mT m w = [zM, mR m .nils] := if_pos h
theorem mT_row {m : Msg} {w : Nat} (h : ¬ m.body.size = 0) : mT m w = [zM, mR m (.ref 2 w 1 0 m.body.size), some ⟨w, bytesD m.body⟩] := if_neg h
def frG (b : ByteArray) (last : Int) (bd : Bool) : Fr := [(0, .ro false (bytesD b)), (2, .ptr 0 0 0), (4, .ptr 1 0 0), (5, I last), (6, B bd)]
def PG (s : ByteArray) (m0 : Nat) (f : Fr) (es : Sto) : Prop := ∃ (b : ByteArray) (mm : Msg) (last : Int) (bd : Bool) (w n : Nat), b.size ≤ m0 ∧ (-1 ≤ last ∧ last ≤ 8) ∧ mm.body.size + 1100 * b.size ≤ 39600000000 ∧ b.size < n ∧ getM (toL s) = getF n mm last bd (toL b) ∧ f = frG b last bd ∧ es = mT mm w
set_option maxHeartbeats 8000000 in
theorem get_c (s : ByteArray) (hs : s.size ≤ 36000000) : EM 18 [.ro false (bytesD s)] [] = some (GetR (getM (toL s)), []) := by
  refine (ev_body ⟨[], [(0, [0, 2, 4, 5, 6]), (1000000, [0, 2, 4, 5, 6])], [(15, [(0, 0, false), (1, 0, false), (2, 0, false), (3, 0, false), (4, 0, false), (5, 0, false)])], true, [], noIt⟩ [.cell 2 25, .tmp 3] rfl Tryz.func18 rfl rfl rfl (by kernel_rfl) (by show 1 ≤ 69; decide) (by kernel_rfl)).trans ?_
  simp +contextual (maxSteps := 10000000) only [go_sem]
  rw [run_scope 0 rfl rfl]
  simp +contextual (maxSteps := 10000000) only [go_sem]
  refine lpK_inv (PG s) s.size ⟨s, m0S, -1, false, 0, (toL s).length + 1, Nat.le_refl _, by omega, by show 0 + _ ≤ _; omega, by rw [toL_len]; omega, rfl, rfl, rfl⟩ ?_
  rintro m0 _ _ ⟨b, mm, last, bd, w, n, hbm, hlast, hB, hn, hg, rfl, rfl⟩ ih
  obtain ⟨n, rfl⟩ : ∃ k, n = k + 1 := ⟨n - 1, by omega⟩
  have hg0 := hg
  rw [hg]
  clear hg
  rw [getF]
  unfold frG
  by_cases hb : b.size = 0
  · have g0 : decide ((0 : Int) < b.size) = false := decide_eq_false (by omega)
    have ge : (toL b).isEmpty = true := by
      have := toL_len b
      cases h : toL b with
      | nil => rfl
      | cons x t => rw [h] at this; simp at this; omega
    rw [if_pos ge]
    by_cases hr : mm.body.size = 0
    · have hbn : bytesD mm.body = [] := by rw [show mm.body = e0 from ByteArray.ext (Array.eq_empty_of_size_eq_zero hr)]; rfl
      cases bd with
      | false =>
        rw [mT_nil hr, if_neg (fun h => Bool.false_ne_true h.1)]
        unfold mR zM
        simp +contextual (maxSteps := 10000000) only [go_sem, g0]
        rfl
      | true =>
        rw [mT_nil hr, if_pos ⟨rfl, by omega⟩]
        unfold mR zM GetR Msg.d
        dsimp only
        rw [hbn]
        simp +contextual (maxSteps := 10000000) only [go_sem, g0]
    · cases bd with
      | false =>
        rw [mT_row hr, if_neg (fun h => Bool.false_ne_true h.1)]
        unfold mR zM
        simp +contextual (maxSteps := 10000000) only [go_sem, g0]
        rfl
      | true =>
        rw [mT_row hr]
        by_cases hm : mm.body.size ≤ 2048
        · have g1 : decide ((2048 : Int) < mm.body.size) = false := decide_eq_false (by omega)
          rw [if_pos ⟨rfl, hm⟩]
          unfold mR zM GetR Msg.d
          simp +contextual (maxSteps := 10000000) only [go_sem, g0, g1]
        · have g1 : decide ((2048 : Int) < mm.body.size) = true := decide_eq_true (by omega)
          rw [if_neg (fun h => hm h.2)]
          unfold mR zM
          simp +contextual (maxSteps := 10000000) only [go_sem, g0, g1]
          rfl
  · have g0 : decide ((0 : Int) < b.size) = true := decide_eq_true (by omega)
    have ge : ¬ (toL b).isEmpty = true := by
      have := toL_len b
      cases h : toL b with
      | nil => rw [h] at this; simp at this; omega
      | cons x t => simp
    rw [if_neg ge]
    have q1 := em_of (f := 31) rfl (decode_c b (by omega))
    cases hd : decS (toL b) with
    | error e =>
      rw [hd] at q1
      unfold decR at q1
      have he : (e != 0) = true := by have := decS_e hd; simpa using this
      by_cases hr : mm.body.size = 0
      · rw [mT_nil hr]
        unfold mR zM
        simp +contextual (maxSteps := 10000000) only [go_sem, g0, q1, he]
        rfl
      · rw [mT_row hr]
        unfold mR zM
        simp +contextual (maxSteps := 10000000) only [go_sem, g0, q1, he]
        rfl
    | ok p =>
      obtain ⟨v, k⟩ := p
      rw [hd] at q1
      unfold decR at q1
      dsimp only at q1 ⊢
      obtain ⟨k1, k2, _, _, _, hright⟩ := own_ok hd
      obtain ⟨hwf, hsz, _⟩ := decS_val hd
      have q2 := em_ev (f := 43) rfl rfl (section_c v hright hwf)
      rw [toL_len] at k2
      have hrng := sect_rng v
      have hk2 : (k ≤ b.size) = True := eq_true k2
      have hall : ((bytesD b).all fun e => e.cells.length == 1) = true := List.all_eq_true.2 fun x hx => by
        unfold bytesD at hx
        obtain ⟨y, _, rfl⟩ := List.mem_map.1 hx
        rfl
      have htk : List.take b.size (bytesD b) = bytesD b := List.take_of_length_le (by rw [bytesD_len]; omega)
      have hdr : List.drop k (bytesD b) = bytesD (b.extract k b.size) := by
        have := bytesD_part b k (b.size - k)
        rw [show k + (b.size - k) = b.size by omega, List.take_of_length_le (by rw [List.length_drop, bytesD_len]; omega)] at this
        exact this
      have hdl : toL (b.extract k b.size) = (toL b).drop k := by rw [toL_ext]; exact List.take_of_length_le (by rw [List.length_drop, toL_len]; omega)
      have wc : IntKind.i64.wrap (sectS v + 112) = sectS v + 112 := wrap_i64 (by omega) (by omega)
      unfold stepM
      by_cases hc : last < sectS v ∨ (sectS v = last ∧ sectS v = 5)
      · rw [if_pos hc]
        obtain ⟨d, x, hk⟩ := sect_kids hright (by omega)
        have hsnd : snd' v = x := by unfold snd'; rw [hk]
        have hsx := snd_tsz v
        have t1 := take_c mm (sectS v) v d x hk hwf (by omega) (by omega) (by omega) (by rw [hsnd] at hsx; omega)
        have hY := takeX_body mm (sectS v) v
        have hX := fun m' => @take_x mm m' (sectS v) v
        generalize takeX mm (sectS v) v = Y at *
        generalize takeW mm (sectS v) v = tw at *
        have h13 : (decide (last < sectS v) = true ∧ (sectS v == last) = false) ∨ (decide (last < sectS v) = false ∧ (sectS v == last) = true ∧ (sectS v + 112 == 117) = true) := by
          rcases hc with hc | ⟨hc, hc'⟩
          · exact .inl ⟨decide_eq_true hc, by rw [beq_eq_false_iff_ne]; omega⟩
          · exact .inr ⟨decide_eq_false (by omega), by rw [beq_iff_eq]; exact hc, by rw [hc']; rfl⟩
        cases hT : takeS mm (sectS v) v with
        | none =>
          rw [hT] at t1
          dsimp only
          rw [Option.isSome_none] at t1
          by_cases hr : mm.body.size = 0
          · rw [mT_nil hr]
            rw [mS_nil hr] at t1
            by_cases hy : Y.body.size = 0
            · rw [mS_nil hy] at t1
              unfold mR at t1 ⊢
              unfold zM
              rcases h13 with ⟨h1, h3⟩ | ⟨h1, h3, h4⟩
              · simp +contextual (maxSteps := 10000000) only [go_sem, g0, q1, q2, wc, h1, h3, t1]
                rfl
              · simp +contextual (maxSteps := 10000000) only [go_sem, g0, q1, q2, wc, h1, h3, h4, t1]
                rfl
            · rw [mS_row hy] at t1
              unfold mR at t1 ⊢
              unfold zM
              rcases h13 with ⟨h1, h3⟩ | ⟨h1, h3, h4⟩
              · simp +contextual (maxSteps := 10000000) only [go_sem, g0, q1, q2, wc, h1, h3, t1]
                rfl
              · simp +contextual (maxSteps := 10000000) only [go_sem, g0, q1, q2, wc, h1, h3, h4, t1]
                rfl
          · have hy : ¬ Y.body.size = 0 := by
              rw [hY]
              split
              · rw [ByteArray.size_append]; omega
              · exact hr
            rw [mT_row hr]
            rw [mS_row hr, mS_row hy] at t1
            unfold mR at t1 ⊢
            unfold zM
            rcases h13 with ⟨h1, h3⟩ | ⟨h1, h3, h4⟩
            · simp +contextual (maxSteps := 10000000) only [go_sem, g0, q1, q2, wc, h1, h3, t1]
              rfl
            · simp +contextual (maxSteps := 10000000) only [go_sem, g0, q1, q2, wc, h1, h3, h4, t1]
              rfl
        | some m' =>
          rw [hT] at t1
          obtain rfl := hX m' hT
          dsimp only
          rw [Option.isSome_some] at t1
          have hg2 : getM (toL s) = getF n Y (sectS v) (bd || (sectS v == 5)) (List.drop k (toL b)) := by
            rw [hg0, getF, if_neg ge, hd]
            dsimp only
            unfold stepM
            rw [if_pos hc, hT]
          rw [← hg2]
          rw [← hdl] at hg2
          have hz1 : (b.extract k b.size).size = b.size - k := by rw [ByteArray.size_extract]; omega
          have hzY : Y.body.size + 1100 * (b.extract k b.size).size ≤ 39600000000 := by
            rw [hz1, hY]
            split
            · rw [ByteArray.size_append]; omega
            · omega
          have hq : (sectS v + 112 == 117) = (sectS v == 5) := by
            by_cases h : sectS v = 5
            · rw [h]; rfl
            · rw [beq_eq_false_iff_ne.2 h, beq_eq_false_iff_ne]; omega
          by_cases hr : mm.body.size = 0
          · rw [mT_nil hr]
            rw [mS_nil hr] at t1
            by_cases hy : Y.body.size = 0
            · rw [mS_nil hy] at t1
              unfold mR at t1 ⊢
              unfold zM
              rcases h13 with ⟨h1, h3⟩ | ⟨h1, h3, h4⟩
              · simp +contextual (maxSteps := 10000000) only [go_sem, g0, q1, q2, wc, h1, h3, t1, hk2, hall, htk, hdr, hq]
                exact ih (b.extract k b.size).size _ _ (by omega) ⟨b.extract k b.size, Y, sectS v, (bd || (sectS v == 5)), 0, n, Nat.le_refl _, hrng, hzY, by omega, hg2, rfl, (mT_nil hy).symm⟩
              · simp +contextual (maxSteps := 10000000) only [go_sem, g0, q1, q2, wc, h1, h3, h4, t1, hk2, hall, htk, hdr, hq]
                have hq5 : (sectS v == 5) = true := by rw [← hq]; exact h4
                exact ih (b.extract k b.size).size _ _ (by omega) ⟨b.extract k b.size, Y, sectS v, (bd || (sectS v == 5)), 0, n, Nat.le_refl _, hrng, hzY, by omega, hg2, (by unfold frG; rw [hq5, Bool.or_true]; rfl), (mT_nil hy).symm⟩
            · rw [mS_row hy] at t1
              unfold mR at t1 ⊢
              unfold zM
              rcases h13 with ⟨h1, h3⟩ | ⟨h1, h3, h4⟩
              · simp +contextual (maxSteps := 10000000) only [go_sem, g0, q1, q2, wc, h1, h3, t1, hk2, hall, htk, hdr, hq]
                exact ih (b.extract k b.size).size _ _ (by omega) ⟨b.extract k b.size, Y, sectS v, (bd || (sectS v == 5)), 0, n, Nat.le_refl _, hrng, hzY, by omega, hg2, rfl, (mT_row hy).symm⟩
              · simp +contextual (maxSteps := 10000000) only [go_sem, g0, q1, q2, wc, h1, h3, h4, t1, hk2, hall, htk, hdr, hq]
                have hq5 : (sectS v == 5) = true := by rw [← hq]; exact h4
                exact ih (b.extract k b.size).size _ _ (by omega) ⟨b.extract k b.size, Y, sectS v, (bd || (sectS v == 5)), 0, n, Nat.le_refl _, hrng, hzY, by omega, hg2, (by unfold frG; rw [hq5, Bool.or_true]; rfl), (mT_row hy).symm⟩
          · have hy : ¬ Y.body.size = 0 := by
              rw [hY]
              split
              · rw [ByteArray.size_append]; omega
              · exact hr
            rw [mT_row hr]
            rw [mS_row hr, mS_row hy] at t1
            unfold mR at t1 ⊢
            unfold zM
            rcases h13 with ⟨h1, h3⟩ | ⟨h1, h3, h4⟩
            · simp +contextual (maxSteps := 10000000) only [go_sem, g0, q1, q2, wc, h1, h3, t1, hk2, hall, htk, hdr, hq]
              exact ih (b.extract k b.size).size _ _ (by omega) ⟨b.extract k b.size, Y, sectS v, (bd || (sectS v == 5)), 0, n, Nat.le_refl _, hrng, hzY, by omega, hg2, rfl, (mT_row hy).symm⟩
            · simp +contextual (maxSteps := 10000000) only [go_sem, g0, q1, q2, wc, h1, h3, h4, t1, hk2, hall, htk, hdr, hq]
              have hq5 : (sectS v == 5) = true := by rw [← hq]; exact h4
              exact ih (b.extract k b.size).size _ _ (by omega) ⟨b.extract k b.size, Y, sectS v, (bd || (sectS v == 5)), 0, n, Nat.le_refl _, hrng, hzY, by omega, hg2, (by unfold frG; rw [hq5, Bool.or_true]; rfl), (mT_row hy).symm⟩
      · rw [if_neg hc]
        have h1 : decide (last < sectS v) = false := decide_eq_false (by omega)
        by_cases h2 : sectS v = last
        · have h3 : (sectS v == last) = true := by simpa using h2
          have h4 : (sectS v + 112 == 117) = false := by rw [beq_eq_false_iff_ne]; omega
          by_cases hr : mm.body.size = 0
          · rw [mT_nil hr]
            unfold mR zM
            simp +contextual (maxSteps := 10000000) only [go_sem, g0, q1, q2, wc, h1, h3, h4]
            rfl
          · rw [mT_row hr]
            unfold mR zM
            simp +contextual (maxSteps := 10000000) only [go_sem, g0, q1, q2, wc, h1, h3, h4]
            rfl
        · have h3 : (sectS v == last) = false := by simpa using h2
          by_cases hr : mm.body.size = 0
          · rw [mT_nil hr]
            unfold mR zM
            simp +contextual (maxSteps := 10000000) only [go_sem, g0, q1, q2, wc, h1, h3]
            rfl
          · rw [mT_row hr]
            unfold mR zM
            simp +contextual (maxSteps := 10000000) only [go_sem, g0, q1, q2, wc, h1, h3]
            rfl
end Go.Bw.R1

/- law10: same, works. -/
namespace Go.Bw.R1
set_option maxRecDepth 5000
open Go Go.Bw Go.Proofs
theorem eqb_ll (a b : ByteArray) : EV 15 [.ro false (bytesD a), .ro false (bytesD b)] [] = some (.ret (B (decide (a = b))), []) := by
  refine (ev_body ⟨[], [], [], false, [], noIt⟩ [.tmp 4] rfl Tryz.func15 rfl rfl rfl (by kernel_rfl) (by show 2 ≤ 17; decide) (by kernel_rfl)).trans ?_
  simp +contextual (maxSteps := 10000000) only [go_sem, txtLe_eq]
def sameM (a b : Msg) : Bool := a.pri == b.pri && a.ttl == b.ttl && a.cnt == b.cnt && decide (a.id = b.id) && decide (a.body = b.body)
theorem sameM_self (a : Msg) : sameM a a = true := by unfold sameM; simp
theorem same_m (a b : Msg) : EV 20 [a.d, b.d] [] = some (.ret (B (sameM a b)), []) := by
  unfold Msg.d sameM
  refine (ev_body ⟨[2, 3], [], [], false, [], noIt⟩ [.tmp 4] rfl Tryz.func20 rfl rfl rfl (by kernel_rfl) (by show 2 ≤ 38; decide) (by kernel_rfl)).trans ?_
  simp +contextual (maxSteps := 10000000) only [go_sem, eqb_ll]
abbrev M9 : Msg := ⟨9, 0, 0, ⟨#[109]⟩, ⟨#[104, 105]⟩⟩
theorem ok9 : M9.ok := ⟨by decide, by decide, by decide⟩
theorem put9 : putB M9 = ⟨#[0, 83, 112, 192, 4, 2, 64, 80, 9, 0, 83, 115, 192, 4, 1, 161, 1, 109, 0, 83, 117, 160, 2, 104, 105]⟩ := by kernel_rfl
theorem b9_2 : (bytesD (⟨#[0, 83, 112, 192, 4, 2, 64, 80, 9, 0, 83, 115, 192, 4, 1, 161, 1, 109, 0, 83, 117, 160, 2, 104, 105]⟩ : ByteArray))[2]? = some (.sc (.int .u8 112)) := rfl
theorem get9 : getM (toL (putB M9)) = some M9 := by rw [toL_putB]; exact get_put M9 ok9 (by kernel_rfl)
theorem get_nil : EM 18 [.nils] [] = some (GetR none, []) := by
  refine (ev_body ⟨[], [(0, [0, 2, 4, 5, 6]), (1000000, [0, 2, 4, 5, 6])], [(15, [(0, 0, false), (1, 0, false), (2, 0, false), (3, 0, false), (4, 0, false), (5, 0, false)])], true, [], noIt⟩ [.cell 2 25, .tmp 3] rfl Tryz.func18 rfl rfl rfl (by kernel_rfl) (by show 1 ≤ 69; decide) (by kernel_rfl)).trans ?_
  simp +contextual (maxSteps := 10000000) only [go_sem]
  rw [run_scope 0 rfl rfl]
  simp +contextual (maxSteps := 10000000) only [go_sem]
  rw [lpK_go]
  simp +contextual (maxSteps := 10000000) only [go_sem]
  rfl
def HI : ByteArray := ⟨#[104, 105]⟩
theorem hi_row : bsRowD Tryz.prog (stL []) 23 2 [(0, .sc (.int .u8 104)), (1, .sc (.int .u8 105))] = some (.ref 0 0 1 0 HI.size, stL [some ⟨0, bytesD HI⟩]) := by
  unfold bsRowD
  rw [show elOf Tryz.prog 23 = some (5, 1) by kernel_rfl]
  dsimp only
  rw [show zeroD Tryz.prog 5 = some [.sc (.int .u8 0)] by kernel_rfl]
  dsimp only
  rw [if_pos (by decide)]
  rw [show layD (fun i => some (i * 1, 1)) (repD [D.sc (.int .u8 0)] 2) [(0, D.sc (.int .u8 104)), (1, D.sc (.int .u8 105))] = some [.sc (.int .u8 104), .sc (.int .u8 105)] by rfl]
  dsimp only
  rw [if_pos (by rfl), stL_new]
  rfl
theorem hi_conv : cvRowD Tryz.prog (stL [some ⟨0, bytesD HI⟩]) 23 23 (.ref 0 0 1 0 HI.size) = some (.ref 0 0 1 0 HI.size) := by
  unfold cvRowD
  dsimp only
  rw [Tryz.underlying23, show (stL [some ⟨0, bytesD HI⟩]).tab 0 = some ⟨0, bytesD HI⟩ by rfl]
  dsimp only
  rw [Tryz.underlying5]
  dsimp only
  rw [if_pos ⟨rfl, rfl⟩]
set_option maxHeartbeats 2000000 in
theorem works10 : EM 11 [] [] = some (.ret (B true), []) := by
  have p1 : EM 13 [.agg [.sc (.int .u8 9), .sc (.int .u32 0), .sc (.int .u32 0), .sc (.string ⟨#[109]⟩), .ro false (bytesD HI)]] [] = some (.ret (.tup [.ro false (bytesD (putB M9)), I 0]), []) := em_ev (f := 13) rfl rfl (put_ok M9 ok9 (by kernel_rfl))
  have g1 : EM 18 [.ro false (bytesD (putB M9))] [] = some (.ret (.tup [.agg [.sc (.int .u8 9), .sc (.int .u32 0), .sc (.int .u32 0), .sc (.string ⟨#[109]⟩), .ro false (bytesD HI)], I 0]), []) := by
    have := get_c (putB M9) (by rw [put9]; decide)
    rw [get9] at this
    exact this
  have g0 : EM 18 [.nils] [] = some (.ret (.tup [.agg [.sc (.int .u8 0), .sc (.int .u32 0), .sc (.int .u32 0), .sc (.string ⟨#[]⟩), .ro false []], I 6]), []) := get_nil
  have s1 : EM 20 [.agg [.sc (.int .u8 9), .sc (.int .u32 0), .sc (.int .u32 0), .sc (.string ⟨#[109]⟩), .ro false (bytesD HI)], .agg [.sc (.int .u8 9), .sc (.int .u32 0), .sc (.int .u32 0), .sc (.string ⟨#[109]⟩), .ro false (bytesD HI)]] [] = some (.ret (B true), []) := em_ev (f := 20) rfl rfl (same_m M9 M9)
  rw [put9] at p1 g1
  refine (ev_body ⟨[8, 9], [], [], false, [(3000002, [9])], noIt⟩ [.tmp 0] rfl Tryz.func11 rfl rfl rfl (by kernel_rfl) (by show 0 ≤ 51; decide) (by kernel_rfl)).trans ?_
  simp +contextual (maxSteps := 10000000) only [go_sem, hi_row, hi_conv, p1, g1, g0, s1, b9_2]
end Go.Bw.R1

/- law10: what Put made Get tells as it was. -/
namespace Go.Bw.R1
set_option maxRecDepth 5000
open Go Go.Bw Go.Proofs
theorem large_c (m : Msg) : EV 10 [m.d] [] = some (.ret (B (decide ((4096 : Int) < m.id.size) || decide ((8192 : Int) < m.body.size))), []) := by
  unfold Msg.d
  refine (ev_body ⟨[1], [], [], false, [], noIt⟩ [.tmp 2] rfl Tryz.func10 rfl rfl rfl (by kernel_rfl) (by show 1 ≤ 13; decide) (by kernel_rfl)).trans ?_
  by_cases h : (4096 : Int) < m.id.size
  · have g1 : decide ((4096 : Int) < m.id.size) = true := decide_eq_true h
    rw [g1]
    simp +contextual (maxSteps := 10000000) only [go_sem, g1]
  · have g1 : decide ((4096 : Int) < m.id.size) = false := decide_eq_false h
    rw [g1]
    simp +contextual (maxSteps := 10000000) only [go_sem, g1]
abbrev mZ : Msg := ⟨0, 0, 0, ⟨#[]⟩, ⟨#[]⟩⟩
theorem get_r (s : ByteArray) (hs : s.size ≤ 36000000) : EM 18 [.ro false (bytesD s)] [] = some (match getM (toL s) with
    | some m => .ret (.tup [m.d, I 0])
    | none => .ret (.tup [mZ.d, I 6]), []) := by
  rw [get_c s hs]
  cases getM (toL s) <;> rfl
theorem putB_sz (m : Msg) (h : mayM m = true) : (putB m).size ≤ 36000 := by
  obtain ⟨_, p2, _, p4⟩ := may_parts h
  have h1 := wr_sz (datV m.body)
  rw [dat_sz] at h1
  have h2 := wr_sz (putS 112 (hdrL m))
  have h3 := put_sz 112 (hdrL m)
  have h4 := hdrL_sz m
  have h5 := wr_sz (putS 115 [.mk 20 0 m.id []])
  have h6 := put_sz 115 [Val.mk 20 0 m.id []]
  have e : Val.szL [Val.mk 20 0 m.id []] = m.id.size + 0 + 1 + 0 := rfl
  have e0 : (⟨#[]⟩ : ByteArray).size = 0 := rfl
  unfold putB
  rw [ByteArray.size_append, ByteArray.size_append]
  split <;> split <;> omega
theorem zz_c : EM 20 [.agg [.sc (.int .u8 0), .sc (.int .u32 0), .sc (.int .u32 0), .sc (.string ⟨#[]⟩), .ro false []], .agg [.sc (.int .u8 0), .sc (.int .u32 0), .sc (.int .u32 0), .sc (.string ⟨#[]⟩), .ro false []]] [] = some (.ret (B true), []) := em_ev (f := 20) rfl rfl (same_m mZ mZ)
set_option maxHeartbeats 4000000 in
theorem MessageBack_c (m : Msg) (hm : m.ok) (b : ByteArray) : EM 5 [m.d, .ro false (bytesD b)] [] = some (.ret (B true), []) := by
  refine (ev_body ⟨[2], [], [], false, [], noIt⟩ [.tmp 4] rfl Tryz.func5 rfl rfl rfl (by kernel_rfl) (by show 2 ≤ 91; decide) (by kernel_rfl)).trans ?_
  have hl := em_ev (f := 10) rfl rfl (large_c m)
  have hW := works10
  by_cases h1 : decide ((4096 : Int) < m.id.size) = true
  · rw [h1] at hl
    unfold Msg.d at hl ⊢
    simp +contextual (maxSteps := 10000000) only [go_sem, hl, hW]
  by_cases h2 : decide ((8192 : Int) < m.body.size) = true
  · rw [h2] at hl
    unfold Msg.d at hl ⊢
    simp +contextual (maxSteps := 10000000) only [go_sem, hl, hW, Bool.or_true]
  rw [Bool.not_eq_true] at h1 h2
  rw [h1, h2] at hl
  by_cases h3 : (8192 : Int) < b.size
  · have g3 : decide ((8192 : Int) < b.size) = true := decide_eq_true h3
    unfold Msg.d at hl ⊢
    simp +contextual (maxSteps := 10000000) only [go_sem, hl, hW, g3]
  have g3 : decide ((8192 : Int) < b.size) = false := decide_eq_false h3
  have h1' := of_decide_eq_false h1
  have hb := get_r b (by omega)
  cases hp : mayM m with
  | true =>
    have q1 := em_ev (f := 13) rfl rfl (put_ok m hm hp)
    have q2 := get_r (putB m) (by have := putB_sz m hp; omega)
    rw [toL_putB, get_put m hm hp] at q2
    have q3 := em_ev (f := 20) rfl rfl (same_m m m)
    rw [sameM_self] at q3
    dsimp only at q2
    generalize putB m = W at *
    cases hg : getM (toL b) with
    | none =>
      rw [hg] at hb
      unfold Msg.d at *
      dsimp only at *
      simp +contextual (maxSteps := 10000000) only [go_sem, hl, hW, g3, q1, q2, q3, hb, zz_c]
    | some x =>
      rw [hg] at hb
      obtain ⟨hx, hxm⟩ := getM_may hg
      have r1 := em_ev (f := 13) rfl rfl (put_ok x hx hxm)
      have r2 := get_r (putB x) (by have := putB_sz x hxm; omega)
      rw [toL_putB, get_put x hx hxm] at r2
      have r3 := em_ev (f := 20) rfl rfl (same_m x x)
      rw [sameM_self] at r3
      dsimp only at r2
      generalize putB x = X at *
      unfold Msg.d at *
      dsimp only at *
      simp +contextual (maxSteps := 10000000) only [go_sem, hl, hW, g3, q1, q2, q3, hb, r1, r2, r3]
  | false =>
    have q1 := em_ev (f := 13) rfl rfl (put_bad m hm hp (by omega))
    cases hg : getM (toL b) with
    | none =>
      rw [hg] at hb
      unfold Msg.d at *
      dsimp only at *
      simp +contextual (maxSteps := 10000000) only [go_sem, hl, hW, g3, q1, hb, zz_c]
    | some x =>
      rw [hg] at hb
      obtain ⟨hx, hxm⟩ := getM_may hg
      have r1 := em_ev (f := 13) rfl rfl (put_ok x hx hxm)
      have r2 := get_r (putB x) (by have := putB_sz x hxm; omega)
      rw [toL_putB, get_put x hx hxm] at r2
      have r3 := em_ev (f := 20) rfl rfl (same_m x x)
      rw [sameM_self] at r3
      dsimp only at r2
      generalize putB x = X at *
      unfold Msg.d at *
      dsimp only at *
      simp +contextual (maxSteps := 10000000) only [go_sem, hl, hW, g3, q1, hb, r1, r2, r3]
end Go.Bw.R1

/- Own: a law over laid tables that reads messages. -/
namespace Go.Bw.R1
set_option maxRecDepth 5000
open Go Go.Bw Go.Proofs
theorem law_runM {f : FuncId} {ds ds' : List D} {ts : Sto} (hw : WkL ds ds') (h : EM f ds' [] = some (.ret (B true), ts)) : CallT Tryz.prog gl0 f ds St.empty (fun r _ => r = .ret (.sc (.bool true))) :=
  law_ev an1_its (soundX3 mixed) mixed hw h
theorem msg_arg {d : D} (h : Arg Tryz.prog 25 d) : ∃ m : Msg, m.ok ∧ Wk d m.d := by
  obtain ⟨x, hx, hw⟩ := MsgG.of_arg h
  exact ⟨⟨x.priority, x.ttl, x.count, x.id, x.body⟩, ⟨by have := hx.priority; dsimp only; omega, by have := hx.ttl; dsimp only; omega, by have := hx.count; dsimp only; omega⟩, hw⟩
end Go.Bw.R1
