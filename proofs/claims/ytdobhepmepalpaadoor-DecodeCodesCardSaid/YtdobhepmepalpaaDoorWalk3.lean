/- What the functions answer. -/
import Derived.Test.YtdobhepmepalpaaDoorWalk2
set_option linter.unusedSimpArgs false
set_option linter.unusedVariables false
/- Own: a law over laid tables that decodes. -/
namespace Go.Bw.R1
set_option maxRecDepth 5000
open Go Go.Bw Go.Proofs
theorem law_runW {f : FuncId} {ds ds' : List D} {ts : Sto} (hw : WkL ds ds') (h : EW f ds' [] = some (.ret (B true), ts)) : CallT Tryd.prog gl0 f ds St.empty (fun r _ => r = .ret (.sc (.bool true))) :=
  law_ev an1_its (soundX2 mixed) mixed hw h
theorem bytes_arg {d : D} (h : Arg Tryd.prog 22 d) : ∃ s : ByteArray, Wk d (.ro false (bytesD s)) := by
  obtain ⟨s, _, hw⟩ := Arg.one (by kernel_rfl) (fun _ : ByteArray => True) (fun s => .ro false (bytesD s)) (fun ds hd => by
    obtain ⟨s, h⟩ := Rd.bytes_inv Tryd.underlying22 Tryd.underlying5 hd
    exact ⟨s, trivial, h⟩) h
  exact ⟨s, hw⟩
end Go.Bw.R1

/- law06: works; a value hangs on its own bytes. -/
namespace Go.Bw.R1
set_option maxRecDepth 5000
open Go Go.Bw Go.Proofs
abbrev W61 : ByteArray := ⟨#[112, 0, 0, 0, 5, 255]⟩
abbrev W62 : ByteArray := ⟨#[192, 4, 2, 65, 80]⟩
abbrev W63 : ByteArray := ⟨#[86, 2]⟩
theorem dw1 : decS (toL W61) = .ok (.mk 5 5 ⟨#[]⟩ [], 5) := by kernel_rfl
theorem dw2 : decS (toL W62) = .error 7 := by kernel_rfl
theorem dw3 : decS (toL W63) = .error 6 := by kernel_rfl
set_option maxHeartbeats 1000000 in
theorem works6 : EW 14 [] [] = some (.ret (B true), []) := by
  have q1 := decode_c W61 (by decide)
  have q2 := decode_c W62 (by decide)
  have q3 := decode_c W63 (by decide)
  rw [dw1] at q1
  rw [dw2] at q2
  rw [dw3] at q3
  unfold decR at q1 q2 q3
  have b1 : bytesD W61 = [.sc (.int .u8 112), .sc (.int .u8 0), .sc (.int .u8 0), .sc (.int .u8 0), .sc (.int .u8 5), .sc (.int .u8 255)] := rfl
  have b2 : bytesD W62 = [.sc (.int .u8 192), .sc (.int .u8 4), .sc (.int .u8 2), .sc (.int .u8 65), .sc (.int .u8 80)] := rfl
  have b3 : bytesD W63 = [.sc (.int .u8 86), .sc (.int .u8 2)] := rfl
  rw [b1] at q1
  rw [b2] at q2
  rw [b3] at q3
  have n1 := ew_of rfl (number_c 5 5)
  have s1 := ew_of rfl (same_c _ (Val.mk 5 5 ⟨#[]⟩ []) (Val.mk 5 5 ⟨#[]⟩ []) (Nat.le_refl _) (by decide))
  rw [show same (Val.mk 5 5 ⟨#[]⟩ []) (Val.mk 5 5 ⟨#[]⟩ []) = true by kernel_rfl] at s1
  refine (ev_body ⟨[], [], [(4, [(0, 0, false), (1, 0, false), (2, 0, false), (3, 0, false), (4, 0, false), (5, 0, false), (6, 0, false), (7, 0, false), (8, 0, false), (9, 0, false), (10, 0, false), (11, 0, false), (12, 0, false), (13, 0, false), (14, 0, false), (15, 0, false), (16, 0, false), (17, 0, false), (18, 0, false), (19, 0, false)])], false, [], noIt⟩ [.tmp 0] rfl Tryd.func14 rfl rfl rfl (by kernel_rfl) (by show 0 ≤ 47; decide) (by kernel_rfl)).trans ?_
  simp +contextual (maxSteps := 10000000) only [↓reduceIte, go_sem, Nat.reduceEqDiff, Nat.reduceAdd, Nat.reduceSub, Nat.reduceMul, Nat.reduceLeDiff, Nat.reduceLT, Nat.reduceBEq, Nat.reduceDiv, Nat.reduceMod, Int.reduceLE, Int.reduceLT, Int.reduceEq, Int.reduceBEq, Int.reduceBNe, Int.reduceAdd, Int.reduceSub, Int.reduceNeg, Int.reduceToNat, Int.reduceMul, Int.reducePow, Nat.reducePow, reduceCtorEq, q1, q2, q3, n1, s1]
theorem decS_e {l : List UInt8} {e : Int} (h : decS l = .error e) : e ≠ 0 := by
  rcases own_err h with ⟨h, _⟩ | ⟨h, _⟩ <;> omega
theorem size0 {b : ByteArray} (h : b.size = 0) : b = ⟨#[]⟩ := ByteArray.ext (Array.eq_empty_of_size_eq_zero h)
theorem ba_nil_app (b : ByteArray) : (⟨#[]⟩ : ByteArray) ++ b = b := toL_inj (by rw [toL_app]; rfl)
theorem ba_app_nil (b : ByteArray) : b ++ (⟨#[]⟩ : ByteArray) = b := toL_inj (by rw [toL_app, toL_e, List.append_nil])
theorem toL_ext0 (s : ByteArray) (b : Nat) : toL (s.extract 0 b) = (toL s).take b := by rw [toL_ext, List.drop_zero, Nat.sub_zero]
/-- decS is well formed, and no larger than its bytes are -/
theorem decS_val {l : List UInt8} {v : Val} {n : Nat} (h : decS l = .ok (v, n)) : v.wf ∧ v.sz ≤ 1100 * n ∧ rightS v = true := by
  obtain ⟨_, _, _, _, _, hr⟩ := own_ok h
  cases hh : headL l with
  | error e => rw [decS_err hh] at h; cases h
  | ok r =>
    obtain ⟨p, p1, _⟩ := headL_pre hh
    rw [decS_ok hh p1] at h
    unfold tailS at h
    split at h
    · cases h
    · rename_i w r' hv
      rw [if_pos (by
        split at h
        · assumption
        · cases h)] at h
      injection h with h
      injection h with h1 h2
      subst h1 h2
      exact ⟨valF_wf (readF_wf _) _ _ _ hv, valF_sz hv, hr⟩
theorem decode_nil : EW 15 [.nils] [] = some (decR (.error 7)) := by
  have h1 := try1_c ⟨#[]⟩ (by decide) (.error 7) (by rfl)
  simp only [rdr, Int.cast_ofNat_Int, bytesD_nil] at h1
  refine (ev_body ⟨[], [], [(9, [(0, 0, false), (5, 0, true), (1, 0, false), (2, 0, false), (3, 0, false), (4, 0, false), (6, 1, false), (7, 1, false)])], true, [], noIt⟩ [.cell 2 27, .tmp 3, .tmp 4] rfl Tryd.func15 rfl rfl rfl (by kernel_rfl) (by show 1 ≤ 41; decide) (by kernel_rfl)).trans ?_
  simp +contextual (maxSteps := 10000000) only [↓reduceIte, go_sem, Nat.reduceEqDiff, Nat.reduceAdd, Nat.reduceSub, Nat.reduceMul, Nat.reduceLeDiff, Nat.reduceLT, Nat.reduceBEq, Nat.reduceDiv, Nat.reduceMod, Int.reduceLE, Int.reduceLT, Int.reduceEq, Int.reduceBEq, Int.reduceBNe, Int.reduceAdd, Int.reduceSub, Int.reduceNeg, Int.reduceToNat, Int.reduceMul, Int.reducePow, Nat.reducePow, reduceCtorEq, h1]
  rfl
set_option maxHeartbeats 8000000 in
theorem DecodeOwn_c (b more : ByteArray) : EW 3 [.ro false (bytesD b), .ro false (bytesD more)] [] = some (.ret (B true), []) := by
  refine (ev_body ⟨[], [], [], false, [(3000007, [8])], noIt⟩ [.tmp 4] rfl Tryd.func3 rfl rfl rfl (by kernel_rfl) (by show 2 ≤ 128; decide) (by kernel_rfl)).trans ?_
  by_cases hb : 4096 < b.size
  · have g1 : decide ((4096 : Int) < b.size) = true := decide_eq_true (by omega)
    simp +contextual (maxSteps := 10000000) only [↓reduceIte, go_sem, Nat.reduceEqDiff, Nat.reduceAdd, Nat.reduceSub, Nat.reduceMul, Nat.reduceLeDiff, Nat.reduceLT, Nat.reduceBEq, Nat.reduceDiv, Nat.reduceMod, Int.reduceLE, Int.reduceLT, Int.reduceEq, Int.reduceBEq, Int.reduceBNe, Int.reduceAdd, Int.reduceSub, Int.reduceNeg, Int.reduceToNat, Int.reduceMul, Int.reducePow, Nat.reducePow, reduceCtorEq, g1, works6]
  by_cases hm : 4096 < more.size
  · have g1 : decide ((4096 : Int) < b.size) = false := decide_eq_false (by omega)
    have g2 : decide ((4096 : Int) < more.size) = true := decide_eq_true (by omega)
    simp +contextual (maxSteps := 10000000) only [↓reduceIte, go_sem, Nat.reduceEqDiff, Nat.reduceAdd, Nat.reduceSub, Nat.reduceMul, Nat.reduceLeDiff, Nat.reduceLT, Nat.reduceBEq, Nat.reduceDiv, Nat.reduceMod, Int.reduceLE, Int.reduceLT, Int.reduceEq, Int.reduceBEq, Int.reduceBNe, Int.reduceAdd, Int.reduceSub, Int.reduceNeg, Int.reduceToNat, Int.reduceMul, Int.reducePow, Nat.reducePow, reduceCtorEq, g1, g2, works6]
  have g1 : decide ((4096 : Int) < b.size) = false := decide_eq_false (by omega)
  have g2 : decide ((4096 : Int) < more.size) = false := decide_eq_false (by omega)
  have c1 := decode_c b (by omega)
  have c2 := decode_c (b ++ more) (by rw [ByteArray.size_append]; omega)
  have hsb : (b.size ≤ 140737488355328) = True := eq_true (by omega)
  have hsm : (more.size ≤ 140737488355328) = True := eq_true (by omega)
  have hsa : (b.size + more.size ≤ 140737488355328) = True := eq_true (by omega)
  have fin : ∀ (z1 z2 : Prop) [Decidable z1] [Decidable z2], True := fun _ _ => trivial
  rw [toL_app] at c2
  have ho : (∃ v n, decS (toL b) = .ok (v, n) ∧ decS (toL b ++ toL more) = .ok (v, n)) ∨ (decS (toL b) = .error 6 ∧ decS (toL b ++ toL more) = .error 6) ∨
      (decS (toL b) = .error 7 ∧ ∃ e, e ≠ 0 ∧ decS (toL b ++ toL more) = .error e) ∨ (decS (toL b) = .error 7 ∧ ∃ w m, b.size < m ∧ decS (toL b ++ toL more) = .ok (w, m)) := by
    cases hd : decS (toL b) with
    | ok y => obtain ⟨v, n⟩ := y; exact .inl ⟨v, n, rfl, (own_ok hd).2.2.1 _⟩
    | error e =>
      rcases own_err hd with ⟨rfl, h6⟩ | ⟨rfl, h7⟩
      · exact .inr (.inl ⟨rfl, h6 _⟩)
      · cases ha : decS (toL b ++ toL more) with
        | error e => exact .inr (.inr (.inl ⟨rfl, e, decS_e ha, rfl⟩))
        | ok y => obtain ⟨w, m⟩ := y; exact .inr (.inr (.inr ⟨rfl, w, m, h7 _ _ _ ha, rfl⟩))
  have hz : ((b.size = 0) = True ∧ (more.size = 0) = True ∧ EW 15 [.nils] [] = some (decR (decS (toL b ++ toL more)))) ∨ ((b.size = 0) = True ∧ (more.size = 0) = False ∧ EW 15 [.ro false (bytesD more)] [] = some (decR (decS (toL b ++ toL more)))) ∨
      ((b.size = 0) = False ∧ (more.size = 0) = True ∧ EW 15 [.ro false (bytesD b)] [] = some (decR (decS (toL b ++ toL more)))) ∨ ((b.size = 0) = False ∧ (more.size = 0) = False ∧ EW 15 [.ro false (bytesD (b ++ more))] [] = some (decR (decS (toL b ++ toL more)))) := by
    by_cases h1 : b.size = 0 <;> by_cases h2 : more.size = 0
    · refine .inl ⟨eq_true h1, eq_true h2, ?_⟩
      rw [size0 h1, size0 h2]; exact decode_nil
    · refine .inr (.inl ⟨eq_true h1, eq_false h2, ?_⟩)
      rw [size0 h1, ba_nil_app] at c2
      rw [size0 h1]; exact c2
    · refine .inr (.inr (.inl ⟨eq_false h1, eq_true h2, ?_⟩))
      rw [size0 h2, ba_app_nil] at c2
      rw [size0 h2]; exact c2
    · exact .inr (.inr (.inr ⟨eq_false h1, eq_false h2, c2⟩))
  clear c2
  rcases ho with ⟨v, n, d1, d2⟩ | ⟨d1, d2⟩ | ⟨d1, e, he, d2⟩ | ⟨d1, w, m, hm, d2⟩
  · obtain ⟨n1, n2, _, n3, n4, n5⟩ := own_ok d1
    rw [toL_len] at n2
    obtain ⟨vw, vs, _⟩ := decS_val d1
    have c3 := decode_c (b.extract 0 (n - 1)) (by rw [ByteArray.size_extract]; omega)
    have c4 := decode_c (b.extract 0 n) (by rw [ByteArray.size_extract]; omega)
    have s1 := ew_of rfl (same_c _ v v (Nat.le_refl _) (by omega))
    rw [same_refl] at s1
    rw [toL_ext0, n3] at c3
    rw [toL_ext0, n4] at c4
    rw [d1] at c1
    rw [d2] at hz
    unfold decR at c1 c3 c4 hz
    dsimp only at c1 c3 c4 hz
    have l1 : decide ((n : Int) < 1) = false := decide_eq_false (by omega)
    have l2 : decide ((b.size : Int) < n) = false := decide_eq_false (by omega)
    have t1 : ((n : Int) - 1).toNat = n - 1 := by omega
    have t2 : (0 ≤ (n : Int) - 1) = True := eq_true (by omega)
    rcases hz with ⟨z1, z2, c2⟩ | ⟨z1, z2, c2⟩ | ⟨z1, z2, c2⟩ | ⟨z1, z2, c2⟩ <;>
    simp +contextual (maxSteps := 10000000) only [↓reduceIte, go_sem, Nat.reduceEqDiff, Nat.reduceAdd, Nat.reduceSub, Nat.reduceMul, Nat.reduceLeDiff, Nat.reduceLT, Nat.reduceBEq, Nat.reduceDiv, Nat.reduceMod, Int.reduceLE, Int.reduceLT, Int.reduceEq, Int.reduceBEq, Int.reduceBNe, Int.reduceAdd, Int.reduceSub, Int.reduceNeg, Int.reduceToNat, Int.reduceMul, Int.reducePow, Nat.reducePow, reduceCtorEq, g1, g2, z1, z2, hsb, hsm, hsa, c1, c2, c3, c4, s1, works6, l1, l2, t1, t2, all1, takeB, Bool.false_and, wrap_i64 (n := (n : Int) - 1) (by omega) (by omega), show (n ≤ b.size) = True from eq_true n2, show (n - 1 ≤ b.size) = True from eq_true (by omega), bytesD_append, beq_self_eq_true]
  · rw [d1] at c1
    rw [d2] at hz
    unfold decR at c1 hz
    dsimp only at c1 hz
    rcases hz with ⟨z1, z2, c2⟩ | ⟨z1, z2, c2⟩ | ⟨z1, z2, c2⟩ | ⟨z1, z2, c2⟩ <;>
    simp +contextual (maxSteps := 10000000) only [↓reduceIte, go_sem, Nat.reduceEqDiff, Nat.reduceAdd, Nat.reduceSub, Nat.reduceMul, Nat.reduceLeDiff, Nat.reduceLT, Nat.reduceBEq, Nat.reduceDiv, Nat.reduceMod, Int.reduceLE, Int.reduceLT, Int.reduceEq, Int.reduceBEq, Int.reduceBNe, Int.reduceAdd, Int.reduceSub, Int.reduceNeg, Int.reduceToNat, Int.reduceMul, Int.reducePow, Nat.reducePow, reduceCtorEq, g1, g2, z1, z2, hsb, hsm, hsa, c1, c2, works6, bytesD_append]
  · rw [d1] at c1
    rw [d2] at hz
    unfold decR at c1 hz
    dsimp only at c1 hz
    have he2 : (e != 0) = true := by simpa using he
    rcases hz with ⟨z1, z2, c2⟩ | ⟨z1, z2, c2⟩ | ⟨z1, z2, c2⟩ | ⟨z1, z2, c2⟩ <;>
    simp +contextual (maxSteps := 10000000) only [↓reduceIte, go_sem, Nat.reduceEqDiff, Nat.reduceAdd, Nat.reduceSub, Nat.reduceMul, Nat.reduceLeDiff, Nat.reduceLT, Nat.reduceBEq, Nat.reduceDiv, Nat.reduceMod, Int.reduceLE, Int.reduceLT, Int.reduceEq, Int.reduceBEq, Int.reduceBNe, Int.reduceAdd, Int.reduceSub, Int.reduceNeg, Int.reduceToNat, Int.reduceMul, Int.reducePow, Nat.reducePow, reduceCtorEq, g1, g2, z1, z2, hsb, hsm, hsa, c1, c2, works6, bytesD_append, he2]
  · rw [d1] at c1
    rw [d2] at hz
    unfold decR at c1 hz
    dsimp only at c1 hz
    have l1 : decide ((b.size : Int) < m) = true := decide_eq_true (by omega)
    rcases hz with ⟨z1, z2, c2⟩ | ⟨z1, z2, c2⟩ | ⟨z1, z2, c2⟩ | ⟨z1, z2, c2⟩ <;>
    simp +contextual (maxSteps := 10000000) only [↓reduceIte, go_sem, Nat.reduceEqDiff, Nat.reduceAdd, Nat.reduceSub, Nat.reduceMul, Nat.reduceLeDiff, Nat.reduceLT, Nat.reduceBEq, Nat.reduceDiv, Nat.reduceMod, Int.reduceLE, Int.reduceLT, Int.reduceEq, Int.reduceBEq, Int.reduceBNe, Int.reduceAdd, Int.reduceSub, Int.reduceNeg, Int.reduceToNat, Int.reduceMul, Int.reducePow, Nat.reducePow, reduceCtorEq, g1, g2, z1, z2, hsb, hsm, hsa, c1, c2, works6, bytesD_append, l1]
end Go.Bw.R1

/- Plain: first bytes. -/
namespace Go.Bw.R1
set_option maxRecDepth 5000
open Go Go.Bw
abbrev codesB : ByteArray := ⟨#[0, 64, 65, 66, 67, 68, 69, 80, 81, 82, 83, 84, 85, 86, 96, 97, 112, 113, 114, 115, 116, 128, 129, 130, 131, 132, 148, 152, 160, 161, 163, 176, 177, 179, 192, 193, 208, 209, 224, 240]⟩
def inC (n : Nat) (x : UInt8) : Bool := ((toL codesB).take n).any (· == x)
theorem inC_all : ∀ x : Fin 256, inC 40 (UInt8.ofNat x.val) = (x.val == 0 || kindC x.val != 0) := by decide +kernel
theorem inC_iff (x : UInt8) : inC 40 x = (x.toNat == 0 || kindC (u8I x) != 0) := by
  have h := inC_all ⟨x.toNat, x.toNat_lt⟩
  simp only [UInt8.ofNat_toNat] at h
  exact h
theorem head_no {x : UInt8} {B : List UInt8} (h : inC 40 x = false) : decS (x :: B) = .error 6 := by
  rw [inC_iff] at h
  simp only [Bool.or_eq_false_iff, beq_eq_false_iff_ne, bne_eq_false_iff_eq] at h
  refine decS_err ?_
  unfold headL
  rw [consL_succ]
  unfold consS
  have h0 : ¬ u8I x = 0 := by unfold u8I; omega
  dsimp only
  rw [if_neg h0, if_pos h.2]
theorem head_one {x : UInt8} {B : List UInt8} (h0 : ¬ u8I x = 0) (hk : ¬ kindC (u8I x) = 0) : headL (x :: B) = match dataL (u8I x) B with
    | .error e => .error e
    | .ok (_, r) => .ok r := by
  unfold headL
  rw [consL_succ]
  unfold consS
  dsimp only
  rw [if_neg h0, if_neg hk]
  all_goals (dsimp only; cases dataL (u8I x) B <;> rfl)
theorem head_empty {x : UInt8} (h : inC 40 x = true) (hx : u8I x = 0 ∨ 160 ≤ u8I x) : decS [x] = .error 7 := by
  refine decS_err ?_
  rw [inC_iff] at h
  by_cases h0 : u8I x = 0
  · unfold headL
    rw [consL_succ]
    unfold consS
    dsimp only
    rw [if_pos h0]
  · have hk : ¬ kindC (u8I x) = 0 := by
      simp only [Bool.or_eq_true, beq_iff_eq, bne_iff_ne] at h
      unfold u8I at h0
      rcases h with h | h
      · omega
      · exact h
    rw [head_one h0 hk]
    unfold dataL
    rw [if_neg (by omega)]
    unfold takeL
    rw [if_pos (by
      unfold wideC
      split <;> simp)]
theorem head_fix {x : UInt8} {B : List UInt8} (h0 : ¬ u8I x = 0) (hk : ¬ kindC (u8I x) = 0) (hx : u8I x < 160) : (B.length < fixC (u8I x) → decS (x :: B) = .error 7) ∧ (fixC (u8I x) ≤ B.length → decS (x :: B) = if rightS (leafV (u8I x) (B.take (fixC (u8I x)))) = true then .ok (leafV (u8I x) (B.take (fixC (u8I x))), 1 + fixC (u8I x)) else .error 6) := by
  have hd : dataL (u8I x) B = takeL (fixC (u8I x)) B := by unfold dataL; rw [if_pos hx]
  constructor
  · intro h
    refine decS_err ?_
    rw [head_one h0 hk, hd]
    unfold takeL
    rw [if_pos h]
  · intro h
    have hl : headL (x :: B) = .ok (B.drop (fixC (u8I x))) := by
      rw [head_one h0 hk, hd]
      unfold takeL
      rw [if_neg (by omega)]
    rw [decS_ok hl (p := x :: B.take (fixC (u8I x))) (by rw [List.cons_append, List.take_append_drop])]
    unfold tailS valF
    rw [List.length_cons, consL_succ]
    unfold consS
    dsimp only
    rw [if_neg h0, if_neg hk]
    dsimp only
    have hlen : (B.take (fixC (u8I x))).length = fixC (u8I x) := by rw [List.length_take]; omega
    unfold itemF dataL takeL
    rw [if_pos hx, if_neg (by omega), List.take_take, Nat.min_self]
    dsimp only
    rw [readF_succ]
    unfold readS
    rw [if_pos (by omega)]
    dsimp only
    rw [hlen, Nat.add_comm]
    rfl
theorem beN_one (a : UInt8) : beN [a] = a.toNat := by unfold beN; simp
theorem right_leaf {k n : Int} {t : ByteArray} (h1 : 1 ≤ k) (h2 : k ≤ 21) (hn : numS k n = true) (ht : textS k t = true) : rightS (.mk k n t []) = true := by
  have hd : (Val.mk k n t []).depth = 1 := rfl
  have hi : (Val.mk k n t []).items = 1 := rfl
  have hf : famS k [] = true := by
    unfold famS
    have a : (k == 22) = false := by simp; omega
    have b : (k == 23) = false := by simp; omega
    have c : (k == 24) = false := by simp; omega
    have d : (k == 25) = false := by simp; omega
    rw [a, b, c, d]
    rfl
  unfold rightS
  rw [mayS_eq, hd, hi]
  simp only [Val.kind_mk, Val.num_mk, Val.text_mk, Val.kids_mk, hn, ht, hf]
  simp only [h1, show k ≤ 25 by omega, decide_true]
  rfl
theorem txt0 {k : Int} (h : k ≠ 15 ∧ k ≠ 16 ∧ k ≠ 17 ∧ k ≠ 18) : textS k ⟨#[]⟩ = true := by
  unfold textS
  have a : (k == 15) = false := by simp; omega
  have b : (k == 18) = false := by simp; omega
  have c : (k == 17) = false := by simp; omega
  have d : (k == 16) = false := by simp; omega
  rw [a, b, c, d]
  simp only [Bool.false_eq_true, if_false]
  split
  · rfl
  split
  · rfl
  split
  · rfl
  · first | rfl | simp
theorem numS_3 (n : Int) : numS 3 n = decide (n < 256) := rfl
theorem numS_4 (n : Int) : numS 4 n = decide (n < 65536) := rfl
theorem numS_5 (n : Int) : numS 5 n = decide (n < 4294967296) := rfl
theorem numS_11 (n : Int) : numS 11 n = decide (n < 4294967296) := rfl
theorem leaf_num {k n : Int} (h1 : 1 ≤ k) (h2 : k ≤ 21) (h : k ≠ 15 ∧ k ≠ 16 ∧ k ≠ 17 ∧ k ≠ 18) (hn : numS k n = true) : rightS (.mk k n e0 []) = true := right_leaf h1 h2 hn (txt0 h)
theorem sg_ok {lo n : Int} (h : (0 ≤ n ∧ n < lo ∧ lo ≤ 9223372036854775808) ∨ (18446744073709551616 - lo ≤ n ∧ n < 18446744073709551616 ∧ lo ≤ 9223372036854775808)) : sg lo n = true := by
  unfold sg
  rw [wrap_i64_eq]
  split <;> (rw [Bool.and_eq_true, decide_eq_true_eq, decide_eq_true_eq]; omega)
theorem leaf_right {c : Int} {d : List UInt8} (hk : kindC c ≠ 0) (hx : c < 160) (hd : d.length = fixC c) (h1 : c ≠ 115) (h2 : c = 86 → beN d ≤ 1) : rightS (leafV c d) = true := by
  have hb := beN_lt _ d rfl
  have hc := code_in hk
  simp only [List.mem_cons, List.not_mem_nil, or_false] at hc
  rcases hc with rfl | rfl | rfl | rfl | rfl | rfl | rfl | rfl | rfl | rfl | rfl | rfl | rfl | rfl | rfl | rfl | rfl | rfl | rfl | rfl | rfl | rfl | rfl | rfl | rfl | rfl | rfl | rfl | rfl | rfl | rfl | rfl | rfl | rfl | rfl | rfl | rfl | rfl | rfl
  · rw [show leafV 64 d = .mk 1 0 e0 [] from rfl]; rfl
  · rw [show leafV 65 d = .mk 2 1 e0 [] from rfl]; rfl
  · rw [show leafV 66 d = .mk 2 0 e0 [] from rfl]; rfl
  · rw [show leafV 67 d = .mk 5 0 e0 [] from rfl]; rfl
  · rw [show leafV 68 d = .mk 6 0 e0 [] from rfl]; rfl
  · rw [show leafV 69 d = .mk 22 0 e0 [] from rfl]; rfl
  · rw [show fixC 80 = 1 from rfl] at hd
    rw [hd] at hb
    rw [show leafV 80 d = .mk 3 (beN d) e0 [] from rfl]
    exact leaf_num (by decide) (by decide) (by decide) (by
      rw [numS_3, decide_eq_true_eq]; omega)
  · rw [show fixC 81 = 1 from rfl] at hd
    rw [hd] at hb
    rw [show leafV 81 d = .mk 7 (sgnX (beN d) d.length) e0 [] from rfl, hd]
    exact leaf_num (by decide) (by decide) (by decide) (by
      show sg 128 (sgnX (beN d) 1) = true
      refine sg_ok ?_
      unfold sgnX
      rw [if_neg (by decide)]
      simp only [Nat.reduceMul, Nat.reduceSub, Int.reducePow, Int.reduceSub]
      split <;> omega)
  · rw [show fixC 82 = 1 from rfl] at hd
    rw [hd] at hb
    rw [show leafV 82 d = .mk 5 (beN d) e0 [] from rfl]
    exact leaf_num (by decide) (by decide) (by decide) (by
      rw [numS_5, decide_eq_true_eq]; omega)
  · rw [show fixC 83 = 1 from rfl] at hd
    rw [hd] at hb
    rw [show leafV 83 d = .mk 6 (beN d) e0 [] from rfl]
    exact leaf_num (by decide) (by decide) (by decide) (rfl)
  · rw [show fixC 84 = 1 from rfl] at hd
    rw [hd] at hb
    rw [show leafV 84 d = .mk 9 (sgnX (beN d) d.length) e0 [] from rfl, hd]
    exact leaf_num (by decide) (by decide) (by decide) (by
      show sg 2147483648 (sgnX (beN d) 1) = true
      refine sg_ok ?_
      unfold sgnX
      rw [if_neg (by decide)]
      simp only [Nat.reduceMul, Nat.reduceSub, Int.reducePow, Int.reduceSub]
      split <;> omega)
  · rw [show fixC 85 = 1 from rfl] at hd
    rw [hd] at hb
    rw [show leafV 85 d = .mk 10 (sgnX (beN d) d.length) e0 [] from rfl, hd]
    exact leaf_num (by decide) (by decide) (by decide) (rfl)
  · rw [show fixC 86 = 1 from rfl] at hd
    rw [hd] at hb
    rw [show leafV 86 d = .mk 2 (beN d) e0 [] from rfl]
    exact leaf_num (by decide) (by decide) (by decide) (by
      show decide ((beN d : Int) ≤ 1) = true
      have := h2 rfl
      rw [decide_eq_true_eq]; omega)
  · rw [show fixC 96 = 2 from rfl] at hd
    rw [hd] at hb
    rw [show leafV 96 d = .mk 4 (beN d) e0 [] from rfl]
    exact leaf_num (by decide) (by decide) (by decide) (by
      rw [numS_4, decide_eq_true_eq]; omega)
  · rw [show fixC 97 = 2 from rfl] at hd
    rw [hd] at hb
    rw [show leafV 97 d = .mk 8 (sgnX (beN d) d.length) e0 [] from rfl, hd]
    exact leaf_num (by decide) (by decide) (by decide) (by
      show sg 32768 (sgnX (beN d) 2) = true
      refine sg_ok ?_
      unfold sgnX
      rw [if_neg (by decide)]
      simp only [Nat.reduceMul, Nat.reduceSub, Int.reducePow, Int.reduceSub]
      split <;> omega)
  · rw [show fixC 112 = 4 from rfl] at hd
    rw [hd] at hb
    rw [show leafV 112 d = .mk 5 (beN d) e0 [] from rfl]
    exact leaf_num (by decide) (by decide) (by decide) (by
      rw [numS_5, decide_eq_true_eq]; omega)
  · rw [show fixC 113 = 4 from rfl] at hd
    rw [hd] at hb
    rw [show leafV 113 d = .mk 9 (sgnX (beN d) d.length) e0 [] from rfl, hd]
    exact leaf_num (by decide) (by decide) (by decide) (by
      show sg 2147483648 (sgnX (beN d) 4) = true
      refine sg_ok ?_
      unfold sgnX
      rw [if_neg (by decide)]
      simp only [Nat.reduceMul, Nat.reduceSub, Int.reducePow, Int.reduceSub]
      split <;> omega)
  · rw [show fixC 114 = 4 from rfl] at hd
    rw [hd] at hb
    rw [show leafV 114 d = .mk 11 (beN d) e0 [] from rfl]
    exact leaf_num (by decide) (by decide) (by decide) (by
      rw [numS_11, decide_eq_true_eq]; omega)
  · exact absurd rfl h1
  · rw [show fixC 116 = 4 from rfl] at hd
    rw [hd] at hb
    rw [show leafV 116 d = .mk 16 0 (mkT d) [] from rfl]
    exact right_leaf (by decide) (by decide) rfl (by
      show (((mkT d).size : Int) == 4) = true
      rw [show (mkT d).size = d.length from rfl, hd]; rfl)
  · rw [show fixC 128 = 8 from rfl] at hd
    rw [hd] at hb
    rw [show leafV 128 d = .mk 6 (beN d) e0 [] from rfl]
    exact leaf_num (by decide) (by decide) (by decide) (rfl)
  · rw [show fixC 129 = 8 from rfl] at hd
    rw [hd] at hb
    rw [show leafV 129 d = .mk 10 (sgnX (beN d) d.length) e0 [] from rfl, hd]
    exact leaf_num (by decide) (by decide) (by decide) (rfl)
  · rw [show fixC 130 = 8 from rfl] at hd
    rw [hd] at hb
    rw [show leafV 130 d = .mk 12 (beN d) e0 [] from rfl]
    exact leaf_num (by decide) (by decide) (by decide) (rfl)
  · rw [show fixC 131 = 8 from rfl] at hd
    rw [hd] at hb
    rw [show leafV 131 d = .mk 14 (sgnX (beN d) d.length) e0 [] from rfl, hd]
    exact leaf_num (by decide) (by decide) (by decide) (rfl)
  · rw [show fixC 132 = 8 from rfl] at hd
    rw [hd] at hb
    rw [show leafV 132 d = .mk 17 0 (mkT d) [] from rfl]
    exact right_leaf (by decide) (by decide) rfl (by
      show (((mkT d).size : Int) == 8) = true
      rw [show (mkT d).size = d.length from rfl, hd]; rfl)
  · rw [show fixC 148 = 16 from rfl] at hd
    rw [hd] at hb
    rw [show leafV 148 d = .mk 18 0 (mkT d) [] from rfl]
    exact right_leaf (by decide) (by decide) rfl (by
      show (((mkT d).size : Int) == 16) = true
      rw [show (mkT d).size = d.length from rfl, hd]; rfl)
  · rw [show fixC 152 = 16 from rfl] at hd
    rw [hd] at hb
    rw [show leafV 152 d = .mk 15 0 (mkT d) [] from rfl]
    exact right_leaf (by decide) (by decide) rfl (by
      show (((mkT d).size : Int) == 16) = true
      rw [show (mkT d).size = d.length from rfl, hd]; rfl)
  · exfalso; omega
  · exfalso; omega
  · exfalso; omega
  · exfalso; omega
  · exfalso; omega
  · exfalso; omega
  · exfalso; omega
  · exfalso; omega
  · exfalso; omega
  · exfalso; omega
  · exfalso; omega
  · exfalso; omega
end Go.Bw.R1

/- law06: first bytes. -/
namespace Go.Bw.R1
set_option maxRecDepth 5000
open Go Go.Bw Go.Proofs
theorem ba_get (s : ByteArray) (i : Nat) : s[i]? = (toL s)[i]? := by
  unfold toL
  rw [Array.getElem?_toList]
  by_cases h : i < s.size
  · rw [getElem?_pos s i h, getElem?_pos s.data i h]; rfl
  · rw [getElem?_neg s i h, getElem?_neg s.data i h]
theorem ix_str {s : ByteArray} {i : Nat} {y : UInt8} (hy : (toL s)[i]? = some y) : ixD Tryd.prog 9 (.sc (.string s)) (I i) = some (.sc (.int .u8 y.toNat)) := by
  unfold ixD
  simp only [Tryd.underlying9, Int.toNat_natCast, ba_get, hy]
  rw [if_pos (by omega)]
theorem inC_succ {i : Nat} {x y : UInt8} (hy : (toL codesB)[i]? = some y) : inC (i + 1) x = (inC i x || y == x) := by
  unfold inC
  rw [take_snoc hy, List.any_append]
  simp
theorem u8_beq (x y : UInt8) : (((x.toNat : Nat) : Int) == ((y.toNat : Nat) : Int)) = (x == y) := by
  rw [Bool.eq_iff_iff, beq_iff_eq, beq_iff_eq]
  constructor
  · intro h; exact UInt8.toNat_inj.1 (by omega)
  · rintro rfl; rfl
set_option maxHeartbeats 8000000 in
theorem DecodeCodes_c (x : UInt8) (b : ByteArray) : EW 4 [.sc (.int .u8 (x.toNat : Nat)), .ro false (bytesD b)] [] = some (.ret (B true), []) := by
  refine (ev_body ⟨[], [(0, [0, 1, 5, 6, 7])], [], false, [(3000010, [8])], noIt⟩ [.tmp 4] rfl Tryd.func4 rfl rfl rfl (by kernel_rfl) (by show 2 ≤ 112; decide) (by kernel_rfl)).trans ?_
  by_cases hb : 1024 < b.size
  · have g1 : decide ((1024 : Int) < b.size) = true := decide_eq_true (by omega)
    simp +contextual (maxSteps := 10000000) only [↓reduceIte, go_sem, Nat.reduceEqDiff, Nat.reduceAdd, Nat.reduceSub, Nat.reduceMul, Nat.reduceLeDiff, Nat.reduceLT, Nat.reduceBEq, Nat.reduceDiv, Nat.reduceMod, Int.reduceLE, Int.reduceLT, Int.reduceEq, Int.reduceBEq, Int.reduceBNe, Int.reduceAdd, Int.reduceSub, Int.reduceNeg, Int.reduceToNat, Int.reduceMul, Int.reducePow, Nat.reducePow, reduceCtorEq, g1, works6]
  have g1 : decide ((1024 : Int) < b.size) = false := decide_eq_false (by omega)
  simp +contextual (maxSteps := 10000000) only [↓reduceIte, go_sem, Nat.reduceEqDiff, Nat.reduceAdd, Nat.reduceSub, Nat.reduceMul, Nat.reduceLeDiff, Nat.reduceLT, Nat.reduceBEq, Nat.reduceDiv, Nat.reduceMod, Int.reduceLE, Int.reduceLT, Int.reduceEq, Int.reduceBEq, Int.reduceBNe, Int.reduceAdd, Int.reduceSub, Int.reduceNeg, Int.reduceToNat, Int.reduceMul, Int.reducePow, Nat.reducePow, reduceCtorEq, g1]
  refine lpK_inv (fun m0 f es => ∃ (i : Nat), i + m0 = 40 ∧ f = [(0, .sc (.int .u8 (x.toNat : Nat))), (1, .ro false (bytesD b)), (5, .sc (.string codesB)), (6, B (inC i x)), (7, I i)] ∧ es = []) 40 ⟨0, rfl, rfl, rfl⟩ ?_
  rintro m0 _ _ ⟨i, hi, rfl, rfl⟩ ih
  rcases Nat.lt_or_ge i 40 with hlt | hge
  · obtain ⟨y, hy⟩ := get_lt (l := toL codesB) (i := i) hlt
    have hlt' : decide ((i : Int) < 40) = true := decide_eq_true (by omega)
    have hix : codesB[i]? = some y := by rw [ba_get]; exact hy
    have hn := inC_succ (x := x) hy
    cases hc : inC i x with
    | true =>
      rw [hc, Bool.true_or] at hn
      simp +contextual (maxSteps := 10000000) only [↓reduceIte, go_sem, Nat.reduceEqDiff, Nat.reduceAdd, Nat.reduceSub, Nat.reduceMul, Nat.reduceLeDiff, Nat.reduceLT, Nat.reduceBEq, Nat.reduceDiv, Nat.reduceMod, Int.reduceLE, Int.reduceLT, Int.reduceEq, Int.reduceBEq, Int.reduceBNe, Int.reduceAdd, Int.reduceSub, Int.reduceNeg, Int.reduceToNat, Int.reduceMul, Int.reducePow, Nat.reducePow, reduceCtorEq, hlt', hc, wrap_i64 (n := (i : Int) + 1) (by omega) (by omega)]
      exact ih (m0 - 1) _ _ (by omega) ⟨i + 1, by omega, by rw [hn]; rfl, rfl⟩
    | false =>
      rw [hc, Bool.false_or] at hn
      simp +contextual (maxSteps := 10000000) only [↓reduceIte, go_sem, Nat.reduceEqDiff, Nat.reduceAdd, Nat.reduceSub, Nat.reduceMul, Nat.reduceLeDiff, Nat.reduceLT, Nat.reduceBEq, Nat.reduceDiv, Nat.reduceMod, Int.reduceLE, Int.reduceLT, Int.reduceEq, Int.reduceBEq, Int.reduceBNe, Int.reduceAdd, Int.reduceSub, Int.reduceNeg, Int.reduceToNat, Int.reduceMul, Int.reducePow, Nat.reducePow, reduceCtorEq, hlt', hc, hix, u8_beq, wrap_i64 (n := (i : Int) + 1) (by omega) (by omega)]
      exact ih (m0 - 1) _ _ (by omega) ⟨i + 1, by omega, by rw [hn]; rfl, rfl⟩
  obtain rfl : i = 40 := by omega
  have hlt' : decide ((40 : Int) < 40) = false := rfl
  clear ih
  have x0 : (0 : Int) ≤ (x.toNat : Nat) := by omega
  have x1 : ((x.toNat : Nat) : Int) ≤ 255 := by have := x.toNat_lt; omega
  have hbx : toL (b1 (x.toNat : Nat)) = [x] := by rw [toL_b1]; simp
  have c2 := decode_c (b1 (x.toNat : Nat) ++ b) (by rw [ByteArray.size_append, b1_size]; omega)
  rw [toL_app, hbx] at c2
  have hsz : (1 + b.size ≤ 140737488355328) = True := eq_true (by omega)
  have hsa : (b1 (x.toNat : Nat) ++ b).size = 1 + b.size := by rw [ByteArray.size_append, b1_size]
  have hz : ((b.size = 0) = True ∧ EW 15 [.ro false (bytesD (b1 (x.toNat : Nat)))] [] = some (decR (decS ([x] ++ toL b)))) ∨ ((b.size = 0) = False ∧ EW 15 [.ro false (bytesD (b1 (x.toNat : Nat) ++ b))] [] = some (decR (decS ([x] ++ toL b)))) := by
    by_cases h : b.size = 0
    · refine .inl ⟨eq_true h, ?_⟩
      rw [size0 h, ba_app_nil] at c2
      rw [size0 h]; exact c2
    · exact .inr ⟨eq_false h, c2⟩
  clear c2
  cases hc : inC 40 x with
  | false =>
    rw [List.singleton_append, head_no hc] at hz
    unfold decR at hz
    dsimp only at hz
    rcases hz with ⟨z1, c2⟩ | ⟨z1, c2⟩ <;>
    simp +contextual (maxSteps := 10000000) only [↓reduceIte, go_sem, Nat.reduceEqDiff, Nat.reduceAdd, Nat.reduceSub, Nat.reduceMul, Nat.reduceLeDiff, Nat.reduceLT, Nat.reduceBEq, Nat.reduceDiv, Nat.reduceMod, Int.reduceLE, Int.reduceLT, Int.reduceEq, Int.reduceBEq, Int.reduceBNe, Int.reduceAdd, Int.reduceSub, Int.reduceNeg, Int.reduceToNat, Int.reduceMul, Int.reducePow, Nat.reducePow, reduceCtorEq, hlt', hc, one_b1, x0, x1, z1, hsz, hsa, bytesD_append, c2, works6, fsE_bytesn]
  | true =>
    by_cases hx : u8I x = 0 ∨ 160 ≤ u8I x
    · have he : toL b = [] → decS ([x] ++ toL b) = .error 7 := fun h => by rw [h]; exact head_empty hc hx
      have hq : (((x.toNat : Nat) : Int) == 0) = true ∨ ((((x.toNat : Nat) : Int) == 0) = false ∧ decide ((160 : Int) ≤ (x.toNat : Nat)) = true) := by
        unfold u8I at hx
        by_cases h0 : ((x.toNat : Nat) : Int) = 0
        · exact .inl (by simpa using h0)
        · exact .inr ⟨by simpa using h0, decide_eq_true (by omega)⟩
      rcases hz with ⟨z1, c2⟩ | ⟨z1, c2⟩
      · rw [he (by rw [size0 (of_eq_true z1)]; rfl)] at c2
        unfold decR at c2
        dsimp only at c2
        have l1 : decide ((0 : Int) < b.size) = false := decide_eq_false (by have := of_eq_true z1; omega)
        rcases hq with q | ⟨q1, q2⟩
        · simp +contextual (maxSteps := 10000000) only [↓reduceIte, go_sem, Nat.reduceEqDiff, Nat.reduceAdd, Nat.reduceSub, Nat.reduceMul, Nat.reduceLeDiff, Nat.reduceLT, Nat.reduceBEq, Nat.reduceDiv, Nat.reduceMod, Int.reduceLE, Int.reduceLT, Int.reduceEq, Int.reduceBEq, Int.reduceBNe, Int.reduceAdd, Int.reduceSub, Int.reduceNeg, Int.reduceToNat, Int.reduceMul, Int.reducePow, Nat.reducePow, reduceCtorEq, hlt', hc, one_b1, x0, x1, z1, hsz, hsa, bytesD_append, c2, works6, fsE_bytesn, q, l1]
        · simp +contextual (maxSteps := 10000000) only [↓reduceIte, go_sem, Nat.reduceEqDiff, Nat.reduceAdd, Nat.reduceSub, Nat.reduceMul, Nat.reduceLeDiff, Nat.reduceLT, Nat.reduceBEq, Nat.reduceDiv, Nat.reduceMod, Int.reduceLE, Int.reduceLT, Int.reduceEq, Int.reduceBEq, Int.reduceBNe, Int.reduceAdd, Int.reduceSub, Int.reduceNeg, Int.reduceToNat, Int.reduceMul, Int.reducePow, Nat.reducePow, reduceCtorEq, hlt', hc, one_b1, x0, x1, z1, hsz, hsa, bytesD_append, c2, works6, fsE_bytesn, q1, q2, l1]
      · have l1 : decide ((0 : Int) < b.size) = true := decide_eq_true (by
          have : ¬ b.size = 0 := fun h => by rw [h] at z1; simp at z1
          omega)
        obtain ⟨w, m, e, hr⟩ : ∃ w m e, EW 15 [.ro false (bytesD (b1 (x.toNat : Nat) ++ b))] [] = some (.ret (.tup [(w : Val).d, I m, I e]), []) := by
          cases hd : decS ([x] ++ toL b) with
          | error e => rw [hd] at c2; exact ⟨_, _, _, c2⟩
          | ok y => obtain ⟨v, n⟩ := y; rw [hd] at c2; exact ⟨_, _, _, c2⟩
        rcases hq with q | ⟨q1, q2⟩
        · simp +contextual (maxSteps := 10000000) only [↓reduceIte, go_sem, Nat.reduceEqDiff, Nat.reduceAdd, Nat.reduceSub, Nat.reduceMul, Nat.reduceLeDiff, Nat.reduceLT, Nat.reduceBEq, Nat.reduceDiv, Nat.reduceMod, Int.reduceLE, Int.reduceLT, Int.reduceEq, Int.reduceBEq, Int.reduceBNe, Int.reduceAdd, Int.reduceSub, Int.reduceNeg, Int.reduceToNat, Int.reduceMul, Int.reducePow, Nat.reducePow, reduceCtorEq, hlt', hc, one_b1, x0, x1, z1, hsz, hsa, bytesD_append, hr, works6, fsE_bytesn, q, l1]
        · simp +contextual (maxSteps := 10000000) only [↓reduceIte, go_sem, Nat.reduceEqDiff, Nat.reduceAdd, Nat.reduceSub, Nat.reduceMul, Nat.reduceLeDiff, Nat.reduceLT, Nat.reduceBEq, Nat.reduceDiv, Nat.reduceMod, Int.reduceLE, Int.reduceLT, Int.reduceEq, Int.reduceBEq, Int.reduceBNe, Int.reduceAdd, Int.reduceSub, Int.reduceNeg, Int.reduceToNat, Int.reduceMul, Int.reducePow, Nat.reducePow, reduceCtorEq, hlt', hc, one_b1, x0, x1, z1, hsz, hsa, bytesD_append, hr, works6, fsE_bytesn, q1, q2, l1]
    · have hk : ¬ kindC (u8I x) = 0 := by
        rw [inC_iff] at hc
        simp only [Bool.or_eq_true, beq_iff_eq, bne_iff_ne] at hc
        unfold u8I at hx
        rcases hc with h | h
        · omega
        · exact h
      obtain ⟨f1, f2⟩ := head_fix (B := toL b) (fun h => hx (.inl h)) hk (by omega)
      have hx2 : u8I x < 160 ∧ ¬ u8I x = 0 := ⟨by omega, by omega⟩
      obtain ⟨b64, _⟩ := code_byte hk
      have q1 : (((x.toNat : Nat) : Int) == 0) = false := by have := hx2.2; unfold u8I at this; simpa using this
      have q2 : decide ((160 : Int) ≤ (x.toNat : Nat)) = false := decide_eq_false (by have := hx2.1; unfold u8I at this; omega)
      have hq : ∃ (q : Int) (L : Nat), u8I x / 16 = q ∧ fixC (u8I x) = L ∧ ((q = 4 ∧ L = 0) ∨ (q = 5 ∧ L = 1) ∨ (q = 6 ∧ L = 2) ∨ (q = 7 ∧ L = 4) ∨ (q = 8 ∧ L = 8) ∨ (q = 9 ∧ L = 16)) := by
        refine ⟨_, _, rfl, rfl, ?_⟩
        have h : u8I x / 16 = 4 ∨ u8I x / 16 = 5 ∨ u8I x / 16 = 6 ∨ u8I x / 16 = 7 ∨ u8I x / 16 = 8 ∨ u8I x / 16 = 9 := by omega
        unfold fixC
        rcases h with h | h | h | h | h | h <;> rw [h] <;> simp
      obtain ⟨q, L, hq, hf, hqs⟩ := hq
      have tq : ((x.toNat : Nat) : Int).tdiv 16 = q := by rw [Int.tdiv_eq_ediv_of_nonneg x0]; exact hq
      rw [hf, toL_len] at f1 f2
      by_cases hL : b.size < L
      · rw [List.singleton_append, f1 hL] at hz
        unfold decR at hz
        dsimp only at hz
        have l1 : decide ((b.size : Int) < L) = true := decide_eq_true (by omega)
        rcases hqs with ⟨rfl, rfl⟩ | ⟨rfl, rfl⟩ | ⟨rfl, rfl⟩ | ⟨rfl, rfl⟩ | ⟨rfl, rfl⟩ | ⟨rfl, rfl⟩
        · omega
        all_goals simp only [Int.cast_ofNat_Int] at l1
        all_goals
          rcases hz with ⟨z1, c2⟩ | ⟨z1, c2⟩
        all_goals
          simp +contextual (maxSteps := 10000000) only [↓reduceIte, go_sem, Nat.reduceEqDiff, Nat.reduceAdd, Nat.reduceSub, Nat.reduceMul, Nat.reduceLeDiff, Nat.reduceLT, Nat.reduceBEq, Nat.reduceDiv, Nat.reduceMod, Int.reduceLE, Int.reduceLT, Int.reduceEq, Int.reduceBEq, Int.reduceBNe, Int.reduceAdd, Int.reduceSub, Int.reduceNeg, Int.reduceToNat, Int.reduceMul, Int.reducePow, Nat.reducePow, reduceCtorEq, hlt', hc, one_b1, x0, x1, z1, hsz, hsa, bytesD_append, c2, works6, fsE_bytesn, q1, q2, tq, l1]
      · rw [List.singleton_append, f2 (by omega)] at hz
        have l1 : decide ((b.size : Int) < L) = false := decide_eq_false (by omega)
        by_cases hr : rightS (leafV (u8I x) ((toL b).take L)) = true
        · rw [if_pos hr] at hz
          unfold decR at hz
          dsimp only at hz
          generalize (leafV (u8I x) ((toL b).take L)) = v at hz
          rcases hqs with ⟨rfl, rfl⟩ | ⟨rfl, rfl⟩ | ⟨rfl, rfl⟩ | ⟨rfl, rfl⟩ | ⟨rfl, rfl⟩ | ⟨rfl, rfl⟩
          all_goals simp only [Int.cast_ofNat_Int, Nat.reduceAdd] at l1 hz
          all_goals
            rcases hz with ⟨z1, c2⟩ | ⟨z1, c2⟩
          all_goals
            simp +contextual (maxSteps := 10000000) only [↓reduceIte, go_sem, Nat.reduceEqDiff, Nat.reduceAdd, Nat.reduceSub, Nat.reduceMul, Nat.reduceLeDiff, Nat.reduceLT, Nat.reduceBEq, Nat.reduceDiv, Nat.reduceMod, Int.reduceLE, Int.reduceLT, Int.reduceEq, Int.reduceBEq, Int.reduceBNe, Int.reduceAdd, Int.reduceSub, Int.reduceNeg, Int.reduceToNat, Int.reduceMul, Int.reducePow, Nat.reducePow, reduceCtorEq, hlt', hc, one_b1, x0, x1, z1, hsz, hsa, bytesD_append, c2, works6, fsE_bytesn, q1, q2, tq, l1]
        · rw [if_neg hr] at hz
          unfold decR at hz
          dsimp only at hz
          have hzz : ∀ {A : Prop}, 0 < b.size → ((b.size = 0) = True ∧ A) → False := fun h ⟨h1, _⟩ => by have := of_eq_true h1; omega
          by_cases h115 : u8I x = 115
          · have e1 : (((x.toNat : Nat) : Int) == 86) = false := by unfold u8I at h115; rw [h115]; rfl
            have e2 : (((x.toNat : Nat) : Int) == 115) = true := by unfold u8I at h115; rw [h115]; rfl
            obtain ⟨rfl, rfl⟩ : q = 7 ∧ L = 4 := by omega
            simp only [Int.cast_ofNat_Int] at l1
            rcases hz with hz | ⟨z1, c2⟩
            · exact (hzz (by omega) hz).elim
            simp +contextual (maxSteps := 10000000) only [↓reduceIte, go_sem, Nat.reduceEqDiff, Nat.reduceAdd, Nat.reduceSub, Nat.reduceMul, Nat.reduceLeDiff, Nat.reduceLT, Nat.reduceBEq, Nat.reduceDiv, Nat.reduceMod, Int.reduceLE, Int.reduceLT, Int.reduceEq, Int.reduceBEq, Int.reduceBNe, Int.reduceAdd, Int.reduceSub, Int.reduceNeg, Int.reduceToNat, Int.reduceMul, Int.reducePow, Nat.reducePow, reduceCtorEq, hlt', hc, one_b1, x0, x1, z1, hsz, hsa, bytesD_append, c2, works6, fsE_bytesn, q1, q2, tq, l1, e1, e2]
          · by_cases h86 : u8I x = 86
            · have e1 : (((x.toNat : Nat) : Int) == 86) = true := by unfold u8I at h86; rw [h86]; rfl
              obtain ⟨rfl, rfl⟩ : q = 5 ∧ L = 1 := by omega
              simp only [Int.cast_ofNat_Int] at l1
              obtain ⟨y, hy⟩ := get_lt (l := toL b) (i := 0) (by rw [toL_len]; omega)
              have hy2 : (bytesD b)[0]? = some (.sc (.int .u8 y.toNat)) := by
                unfold bytesD; rw [List.getElem?_map]; unfold toL at hy; rw [hy]; rfl
              have ht : (toL b).take 1 = [y] := by
                have := take_snoc hy
                simpa using this
              have hy1 : decide ((1 : Int) < (y.toNat : Nat)) = true := by
                rw [decide_eq_true_eq]
                rcases Nat.lt_or_ge 1 y.toNat with h | h
                · omega
                · exfalso
                  refine hr ?_
                  rw [ht]
                  exact leaf_right hk (by omega) (by rw [hf]; rfl) h115 (fun _ => by rw [beN_one]; exact h)
              rcases hz with hz | ⟨z1, c2⟩
              · exact (hzz (by omega) hz).elim
              simp +contextual (maxSteps := 10000000) only [↓reduceIte, go_sem, Nat.reduceEqDiff, Nat.reduceAdd, Nat.reduceSub, Nat.reduceMul, Nat.reduceLeDiff, Nat.reduceLT, Nat.reduceBEq, Nat.reduceDiv, Nat.reduceMod, Int.reduceLE, Int.reduceLT, Int.reduceEq, Int.reduceBEq, Int.reduceBNe, Int.reduceAdd, Int.reduceSub, Int.reduceNeg, Int.reduceToNat, Int.reduceMul, Int.reducePow, Nat.reducePow, reduceCtorEq, hlt', hc, one_b1, x0, x1, z1, hsz, hsa, bytesD_append, c2, works6, fsE_bytesn, q1, q2, tq, l1, e1, hy2, hy1]
            · exfalso
              exact hr (leaf_right hk (by omega) (by rw [hf, List.length_take, toL_len]; omega) h115 (fun h => absurd h h86))
end Go.Bw.R1
