/- What the functions answer. -/
import Derived.Test.YtdobhepmepalpaaDoorWalk2
set_option linter.unusedSimpArgs false
set_option linter.unusedVariables false
/- Own: a law over laid tables that decodes. -/
namespace Go.Bw.R1
set_option maxRecDepth 5000
open Go Go.Bw Go.Proofs
theorem law_runW {f : FuncId} {ds ds' : List D} {ts : Sto} (hw : WkL ds ds') (h : EW f ds' [] = some (.ret (B true), ts)) : CallT Tryd.prog gl0 f ds St.empty (fun r _ => r = .ret (.sc (.bool true))) :=
  law_ev an1_its (soundX2 mixed) mixed hw h
theorem bytes_arg {d : D} (h : Arg Tryd.prog 22 d) : ∃ s : ByteArray, Wk d (.ro false (bytesD s)) := by
  obtain ⟨s, _, hw⟩ := Arg.one (by kernel_rfl) (fun _ : ByteArray => True) (fun s => .ro false (bytesD s)) (fun ds hd => by
    obtain ⟨s, h⟩ := Rd.bytes_inv Tryd.underlying22 Tryd.underlying5 hd
    exact ⟨s, trivial, h⟩) h
  exact ⟨s, hw⟩
end Go.Bw.R1

/- law06: works; a value hangs on its own bytes. -/
namespace Go.Bw.R1
set_option maxRecDepth 5000
open Go Go.Bw Go.Proofs
abbrev W61 : ByteArray := ⟨#[112, 0, 0, 0, 5, 255]⟩
abbrev W62 : ByteArray := ⟨#[192, 4, 2, 65, 80]⟩
abbrev W63 : ByteArray := ⟨#[86, 2]⟩
theorem dw1 : decS (toL W61) = .ok (.mk 5 5 ⟨#[]⟩ [], 5) := by kernel_rfl
theorem dw2 : decS (toL W62) = .error 7 := by kernel_rfl
theorem dw3 : decS (toL W63) = .error 6 := by kernel_rfl
set_option maxHeartbeats 1000000 in
theorem works6 : EW 14 [] [] = some (.ret (B true), []) := by
  have q1 := decode_c W61 (by decide)
  have q2 := decode_c W62 (by decide)
  have q3 := decode_c W63 (by decide)
  rw [dw1] at q1
  rw [dw2] at q2
  rw [dw3] at q3
  unfold decR at q1 q2 q3
  have b1 : bytesD W61 = [.sc (.int .u8 112), .sc (.int .u8 0), .sc (.int .u8 0), .sc (.int .u8 0), .sc (.int .u8 5), .sc (.int .u8 255)] := rfl
  have b2 : bytesD W62 = [.sc (.int .u8 192), .sc (.int .u8 4), .sc (.int .u8 2), .sc (.int .u8 65), .sc (.int .u8 80)] := rfl
  have b3 : bytesD W63 = [.sc (.int .u8 86), .sc (.int .u8 2)] := rfl
  rw [b1] at q1
  rw [b2] at q2
  rw [b3] at q3
  have n1 := ew_of rfl (number_c 5 5)
  have s1 := ew_of rfl (same_c _ (Val.mk 5 5 ⟨#[]⟩ []) (Val.mk 5 5 ⟨#[]⟩ []) (Nat.le_refl _) (by decide))
  rw [show same (Val.mk 5 5 ⟨#[]⟩ []) (Val.mk 5 5 ⟨#[]⟩ []) = true by kernel_rfl] at s1
  refine (ev_body ⟨[], [], [(4, [(0, 0, false), (1, 0, false), (2, 0, false), (3, 0, false), (4, 0, false), (5, 0, false), (6, 0, false), (7, 0, false), (8, 0, false), (9, 0, false), (10, 0, false), (11, 0, false), (12, 0, false), (13, 0, false), (14, 0, false), (15, 0, false), (16, 0, false), (17, 0, false), (18, 0, false), (19, 0, false)])], false, [], noIt⟩ [.tmp 0] rfl Tryd.func14 rfl rfl rfl (by kernel_rfl) (by show 0 ≤ 47; decide) (by kernel_rfl)).trans ?_
  simp +contextual (maxSteps := 10000000) only [↓reduceIte, go_sem, Nat.reduceEqDiff, Nat.reduceAdd, Nat.reduceSub, Nat.reduceMul, Nat.reduceLeDiff, Nat.reduceLT, Nat.reduceBEq, Nat.reduceDiv, Nat.reduceMod, Int.reduceLE, Int.reduceLT, Int.reduceEq, Int.reduceBEq, Int.reduceBNe, Int.reduceAdd, Int.reduceSub, Int.reduceNeg, Int.reduceToNat, Int.reduceMul, Int.reducePow, Nat.reducePow, reduceCtorEq, q1, q2, q3, n1, s1]
theorem decS_e {l : List UInt8} {e : Int} (h : decS l = .error e) : e ≠ 0 := by
  rcases own_err h with ⟨h, _⟩ | ⟨h, _⟩ <;> omega
theorem size0 {b : ByteArray} (h : b.size = 0) : b = ⟨#[]⟩ := ByteArray.ext (Array.eq_empty_of_size_eq_zero h)
theorem ba_nil_app (b : ByteArray) : (⟨#[]⟩ : ByteArray) ++ b = b := toL_inj (by rw [toL_app]; rfl)
theorem ba_app_nil (b : ByteArray) : b ++ (⟨#[]⟩ : ByteArray) = b := toL_inj (by rw [toL_app, toL_e, List.append_nil])
theorem toL_ext0 (s : ByteArray) (b : Nat) : toL (s.extract 0 b) = (toL s).take b := by rw [toL_ext, List.drop_zero, Nat.sub_zero]
/-- decS is well formed, and no larger than its bytes are -/
theorem decS_val {l : List UInt8} {v : Val} {n : Nat} (h : decS l = .ok (v, n)) : v.wf ∧ v.sz ≤ 1100 * n ∧ rightS v = true := by
  obtain ⟨_, _, _, _, _, hr⟩ := own_ok h
  cases hh : headL l with
  | error e => rw [decS_err hh] at h; cases h
  | ok r =>
    obtain ⟨p, p1, _⟩ := headL_pre hh
    rw [decS_ok hh p1] at h
    unfold tailS at h
    split at h
    · cases h
    · rename_i w r' hv
      rw [if_pos (by
        split at h
        · assumption
        · cases h)] at h
      injection h with h
      injection h with h1 h2
      subst h1 h2
      exact ⟨valF_wf (readF_wf _) _ _ _ hv, valF_sz hv, hr⟩
theorem decode_nil : EW 15 [.nils] [] = some (decR (.error 7)) := by
  have h1 := try1_c ⟨#[]⟩ (by decide) (.error 7) (by rfl)
  simp only [rdr, Int.cast_ofNat_Int, bytesD_nil] at h1
  refine (ev_body ⟨[], [], [(9, [(0, 0, false), (5, 0, true), (1, 0, false), (2, 0, false), (3, 0, false), (4, 0, false), (6, 1, false), (7, 1, false)])], true, [], noIt⟩ [.cell 2 27, .tmp 3, .tmp 4] rfl Tryd.func15 rfl rfl rfl (by kernel_rfl) (by show 1 ≤ 41; decide) (by kernel_rfl)).trans ?_
  simp +contextual (maxSteps := 10000000) only [↓reduceIte, go_sem, Nat.reduceEqDiff, Nat.reduceAdd, Nat.reduceSub, Nat.reduceMul, Nat.reduceLeDiff, Nat.reduceLT, Nat.reduceBEq, Nat.reduceDiv, Nat.reduceMod, Int.reduceLE, Int.reduceLT, Int.reduceEq, Int.reduceBEq, Int.reduceBNe, Int.reduceAdd, Int.reduceSub, Int.reduceNeg, Int.reduceToNat, Int.reduceMul, Int.reducePow, Nat.reducePow, reduceCtorEq, h1]
  rfl
set_option maxHeartbeats 8000000 in
theorem DecodeOwn_c (b more : ByteArray) : EW 3 [.ro false (bytesD b), .ro false (bytesD more)] [] = some (.ret (B true), []) := by
  refine (ev_body ⟨[], [], [], false, [(3000007, [8])], noIt⟩ [.tmp 4] rfl Tryd.func3 rfl rfl rfl (by kernel_rfl) (by show 2 ≤ 128; decide) (by kernel_rfl)).trans ?_
  by_cases hb : 4096 < b.size
  · have g1 : decide ((4096 : Int) < b.size) = true := decide_eq_true (by omega)
    simp +contextual (maxSteps := 10000000) only [↓reduceIte, go_sem, Nat.reduceEqDiff, Nat.reduceAdd, Nat.reduceSub, Nat.reduceMul, Nat.reduceLeDiff, Nat.reduceLT, Nat.reduceBEq, Nat.reduceDiv, Nat.reduceMod, Int.reduceLE, Int.reduceLT, Int.reduceEq, Int.reduceBEq, Int.reduceBNe, Int.reduceAdd, Int.reduceSub, Int.reduceNeg, Int.reduceToNat, Int.reduceMul, Int.reducePow, Nat.reducePow, reduceCtorEq, g1, works6]
  by_cases hm : 4096 < more.size
  · have g1 : decide ((4096 : Int) < b.size) = false := decide_eq_false (by omega)
    have g2 : decide ((4096 : Int) < more.size) = true := decide_eq_true (by omega)
    simp +contextual (maxSteps := 10000000) only [↓reduceIte, go_sem, Nat.reduceEqDiff, Nat.reduceAdd, Nat.reduceSub, Nat.reduceMul, Nat.reduceLeDiff, Nat.reduceLT, Nat.reduceBEq, Nat.reduceDiv, Nat.reduceMod, Int.reduceLE, Int.reduceLT, Int.reduceEq, Int.reduceBEq, Int.reduceBNe, Int.reduceAdd, Int.reduceSub, Int.reduceNeg, Int.reduceToNat, Int.reduceMul, Int.reducePow, Nat.reducePow, reduceCtorEq, g1, g2, works6]
  have g1 : decide ((4096 : Int) < b.size) = false := decide_eq_false (by omega)
  have g2 : decide ((4096 : Int) < more.size) = false := decide_eq_false (by omega)
  have c1 := decode_c b (by omega)
  have c2 := decode_c (b ++ more) (by rw [ByteArray.size_append]; omega)
  have hsb : (b.size ≤ 140737488355328) = True := eq_true (by omega)
  have hsm : (more.size ≤ 140737488355328) = True := eq_true (by omega)
  have hsa : (b.size + more.size ≤ 140737488355328) = True := eq_true (by omega)
  have fin : ∀ (z1 z2 : Prop) [Decidable z1] [Decidable z2], True := fun _ _ => trivial
  rw [toL_app] at c2
  have ho : (∃ v n, decS (toL b) = .ok (v, n) ∧ decS (toL b ++ toL more) = .ok (v, n)) ∨ (decS (toL b) = .error 6 ∧ decS (toL b ++ toL more) = .error 6) ∨
      (decS (toL b) = .error 7 ∧ ∃ e, e ≠ 0 ∧ decS (toL b ++ toL more) = .error e) ∨ (decS (toL b) = .error 7 ∧ ∃ w m, b.size < m ∧ decS (toL b ++ toL more) = .ok (w, m)) := by
    cases hd : decS (toL b) with
    | ok y => obtain ⟨v, n⟩ := y; exact .inl ⟨v, n, rfl, (own_ok hd).2.2.1 _⟩
    | error e =>
      rcases own_err hd with ⟨rfl, h6⟩ | ⟨rfl, h7⟩
      · exact .inr (.inl ⟨rfl, h6 _⟩)
      · cases ha : decS (toL b ++ toL more) with
        | error e => exact .inr (.inr (.inl ⟨rfl, e, decS_e ha, rfl⟩))
        | ok y => obtain ⟨w, m⟩ := y; exact .inr (.inr (.inr ⟨rfl, w, m, h7 _ _ _ ha, rfl⟩))
  have hz : ((b.size = 0) = True ∧ (more.size = 0) = True ∧ EW 15 [.nils] [] = some (decR (decS (toL b ++ toL more)))) ∨ ((b.size = 0) = True ∧ (more.size = 0) = False ∧ EW 15 [.ro false (bytesD more)] [] = some (decR (decS (toL b ++ toL more)))) ∨
      ((b.size = 0) = False ∧ (more.size = 0) = True ∧ EW 15 [.ro false (bytesD b)] [] = some (decR (decS (toL b ++ toL more)))) ∨ ((b.size = 0) = False ∧ (more.size = 0) = False ∧ EW 15 [.ro false (bytesD (b ++ more))] [] = some (decR (decS (toL b ++ toL more)))) := by
    by_cases h1 : b.size = 0 <;> by_cases h2 : more.size = 0
    · refine .inl ⟨eq_true h1, eq_true h2, ?_⟩
      rw [size0 h1, size0 h2]; exact decode_nil
    · refine .inr (.inl ⟨eq_true h1, eq_false h2, ?_⟩)
      rw [size0 h1, ba_nil_app] at c2
      rw [size0 h1]; exact c2
    · refine .inr (.inr (.inl ⟨eq_false h1, eq_true h2, ?_⟩))
      rw [size0 h2, ba_app_nil] at c2
      rw [size0 h2]; exact c2
    · exact .inr (.inr (.inr ⟨eq_false h1, eq_false h2, c2⟩))
  clear c2
  rcases ho with ⟨v, n, d1, d2⟩ | ⟨d1, d2⟩ | ⟨d1, e, he, d2⟩ | ⟨d1, w, m, hm, d2⟩
  · obtain ⟨n1, n2, _, n3, n4, n5⟩ := own_ok d1
    rw [toL_len] at n2
    obtain ⟨vw, vs, _⟩ := decS_val d1
    have c3 := decode_c (b.extract 0 (n - 1)) (by rw [ByteArray.size_extract]; omega)
    have c4 := decode_c (b.extract 0 n) (by rw [ByteArray.size_extract]; omega)
    have s1 := ew_of rfl (same_c _ v v (Nat.le_refl _) (by omega))
    rw [same_refl] at s1
    rw [toL_ext0, n3] at c3
    rw [toL_ext0, n4] at c4
    rw [d1] at c1
    rw [d2] at hz
    unfold decR at c1 c3 c4 hz
    dsimp only at c1 c3 c4 hz
    have l1 : decide ((n : Int) < 1) = false := decide_eq_false (by omega)
    have l2 : decide ((b.size : Int) < n) = false := decide_eq_false (by omega)
    have t1 : ((n : Int) - 1).toNat = n - 1 := by omega
    have t2 : (0 ≤ (n : Int) - 1) = True := eq_true (by omega)
    rcases hz with ⟨z1, z2, c2⟩ | ⟨z1, z2, c2⟩ | ⟨z1, z2, c2⟩ | ⟨z1, z2, c2⟩ <;>
    simp +contextual (maxSteps := 10000000) only [↓reduceIte, go_sem, Nat.reduceEqDiff, Nat.reduceAdd, Nat.reduceSub, Nat.reduceMul, Nat.reduceLeDiff, Nat.reduceLT, Nat.reduceBEq, Nat.reduceDiv, Nat.reduceMod, Int.reduceLE, Int.reduceLT, Int.reduceEq, Int.reduceBEq, Int.reduceBNe, Int.reduceAdd, Int.reduceSub, Int.reduceNeg, Int.reduceToNat, Int.reduceMul, Int.reducePow, Nat.reducePow, reduceCtorEq, g1, g2, z1, z2, hsb, hsm, hsa, c1, c2, c3, c4, s1, works6, l1, l2, t1, t2, all1, takeB, Bool.false_and, wrap_i64 (n := (n : Int) - 1) (by omega) (by omega), show (n ≤ b.size) = True from eq_true n2, show (n - 1 ≤ b.size) = True from eq_true (by omega), bytesD_append, beq_self_eq_true]
  · rw [d1] at c1
    rw [d2] at hz
    unfold decR at c1 hz
    dsimp only at c1 hz
    rcases hz with ⟨z1, z2, c2⟩ | ⟨z1, z2, c2⟩ | ⟨z1, z2, c2⟩ | ⟨z1, z2, c2⟩ <;>
    simp +contextual (maxSteps := 10000000) only [↓reduceIte, go_sem, Nat.reduceEqDiff, Nat.reduceAdd, Nat.reduceSub, Nat.reduceMul, Nat.reduceLeDiff, Nat.reduceLT, Nat.reduceBEq, Nat.reduceDiv, Nat.reduceMod, Int.reduceLE, Int.reduceLT, Int.reduceEq, Int.reduceBEq, Int.reduceBNe, Int.reduceAdd, Int.reduceSub, Int.reduceNeg, Int.reduceToNat, Int.reduceMul, Int.reducePow, Nat.reducePow, reduceCtorEq, g1, g2, z1, z2, hsb, hsm, hsa, c1, c2, works6, bytesD_append]
  · rw [d1] at c1
    rw [d2] at hz
    unfold decR at c1 hz
    dsimp only at c1 hz
    have he2 : (e != 0) = true := by simpa using he
    rcases hz with ⟨z1, z2, c2⟩ | ⟨z1, z2, c2⟩ | ⟨z1, z2, c2⟩ | ⟨z1, z2, c2⟩ <;>
    simp +contextual (maxSteps := 10000000) only [↓reduceIte, go_sem, Nat.reduceEqDiff, Nat.reduceAdd, Nat.reduceSub, Nat.reduceMul, Nat.reduceLeDiff, Nat.reduceLT, Nat.reduceBEq, Nat.reduceDiv, Nat.reduceMod, Int.reduceLE, Int.reduceLT, Int.reduceEq, Int.reduceBEq, Int.reduceBNe, Int.reduceAdd, Int.reduceSub, Int.reduceNeg, Int.reduceToNat, Int.reduceMul, Int.reducePow, Nat.reducePow, reduceCtorEq, g1, g2, z1, z2, hsb, hsm, hsa, c1, c2, works6, bytesD_append, he2]
  · rw [d1] at c1
    rw [d2] at hz
    unfold decR at c1 hz
    dsimp only at c1 hz
    have l1 : decide ((b.size : Int) < m) = true := decide_eq_true (by omega)
    rcases hz with ⟨z1, z2, c2⟩ | ⟨z1, z2, c2⟩ | ⟨z1, z2, c2⟩ | ⟨z1, z2, c2⟩ <;>
    simp +contextual (maxSteps := 10000000) only [↓reduceIte, go_sem, Nat.reduceEqDiff, Nat.reduceAdd, Nat.reduceSub, Nat.reduceMul, Nat.reduceLeDiff, Nat.reduceLT, Nat.reduceBEq, Nat.reduceDiv, Nat.reduceMod, Int.reduceLE, Int.reduceLT, Int.reduceEq, Int.reduceBEq, Int.reduceBNe, Int.reduceAdd, Int.reduceSub, Int.reduceNeg, Int.reduceToNat, Int.reduceMul, Int.reducePow, Nat.reducePow, reduceCtorEq, g1, g2, z1, z2, hsb, hsm, hsa, c1, c2, works6, bytesD_append, l1]
end Go.Bw.R1
