/- What the functions answer. -/
import Derived.Test.YtdhbjihdcfgoiaaWalk1
set_option linter.unusedSimpArgs false
set_option linter.unusedVariables false
namespace Go.Bw.R1
open Go Go.Bw Go.Proofs
def setB (s : ByteArray) (k : Nat) : ByteArray := ⟨s.data.setIfInBounds k 85⟩
theorem setB_size (s : ByteArray) (k : Nat) : (setB s k).size = s.size := Array.size_setIfInBounds ..
theorem set_bytesD (s : ByteArray) (k : Nat) (h : k < s.size) : (bytesD s).take k ++ [.sc (.int .u8 85)] ++ (bytesD s).drop (k + 1) = bytesD (setB s k) := by
  have e : (setB s k).data.toList = s.data.toList.set k 85 := by rw [setB]; exact Array.toList_setIfInBounds
  have e2 : (bytesD s).set k (.sc (.int .u8 85)) = bytesD (setB s k) := by
    unfold bytesD
    rw [e, List.map_set]
    rfl
  rw [← e2, List.set_eq_take_append_cons_drop, if_pos (by rw [bytesD_len]; exact h), List.append_assoc]
  rfl
def fr5 (l : List Perf) (dr : List Bool) (xi : Nat) (j : Int) : Fr := [(0, .ro false (l.map Perf.d)), (1, .ro false (dr.map B)), (5, .ptr 0 0 0), (6, .ptr xi 0 0), (7, I j)]
def PlayI (l : List Perf) (dr : List Bool) (m : Nat) (f : Fr) (es : Sto) : Prop := ∃ (i : Nat) (j : Int) (o : Bool) (x : InV) (xrow : List D), j = i ∧ m = l.length - i ∧ i ≤ l.length ∧ x.payload.size ≤ 4096 ∧ (o = false → x = in0) ∧ xrow.map D.can = gcs o x ∧ D.refsL xrow = [] ∧
  ((∃ gd : D, gd.can = .ro false [] ∧ gd.refs = [] ∧ x.payload.size = 0 ∧ f = fr5 l dr 1 j ∧ es = [some ⟨0, gcsP o x gd⟩, some ⟨0, xrow⟩]) ∨
   (o = true ∧ 0 < x.payload.size ∧ f = fr5 l dr 2 j ∧ es = [some ⟨0, gcsP true x (.ref 1 0 1 0 x.payload.size)⟩, some ⟨0, bytesD x.payload⟩, some ⟨0, xrow⟩]))
theorem bytes_self (c : ByteArray) : (c == c) = true := by
  cases c with
  | mk d =>
    show ByteArray.beq ⟨d⟩ ⟨d⟩ = true
    first
      | (unfold ByteArray.beq; exact beq_self_eq_true d)
      | simp [ByteArray.beq]
theorem same_t (id : Int) (tag : ByteArray) (s r : Bool) (st : Outc) (b : ByteArray) : EW 23 [(InV.mk id tag s r st b).d, (InV.mk id tag s r st b).d] [] = some (.ret (B true), []) := by
  have h := ew_of rfl (same_c (InV.mk id tag s r st b) (InV.mk id tag s r st b))
  have e : sameV (InV.mk id tag s r st b) (InV.mk id tag s r st b) = true := by
    unfold sameV
    simp only [beq_self_eq_true, Bool.and_self, bytes_self]
  rwa [e] at h
theorem gcs_can (o : Bool) (x : InV) : (gcs o x).map D.can = gcs o x := by
  rw [← D.canL_map]; simp only [gcs, InV.cs, D.canL, D.can, canL_bytesD]
theorem gcs_refs (o : Bool) (x : InV) : D.refsL (gcs o x) = [] := by
  simp only [gcs, InV.cs, D.refsL, D.refs, refsL_bytesD, List.append_nil]
theorem same_r (id : Int) (tag : ByteArray) (s r : Bool) (st : Outc) (b : ByteArray) (hb : b.size ≤ 1000000) : EW 23 [(InV.mk id tag s r st b).dP (.ref 0 0 1 0 b.size), (InV.mk id tag s r st b).d] [some ⟨0, bytesD b⟩] = some (.ret (B true), [some ⟨0, bytesD b⟩]) := by
  refine ew_of rfl ?_
  refine (ev_body ⟨[2, 3], [], [], false, [], noIt⟩ [.tmp 4] rfl Try.func23 rfl rfl rfl (by kernel_rfl) (by show 2 ≤ 47; decide)).trans ?_
  simp +contextual (maxSteps := 10000000) only [↓reduceIte, go_sem, Nat.reduceEqDiff, Nat.reduceAdd, Nat.reduceSub, Nat.reduceMul, Nat.reduceLeDiff, Nat.reduceLT, Nat.reduceBEq, Nat.reduceDiv, Nat.reduceMod, Int.reduceLE, Int.reduceLT, Int.reduceEq, Int.reduceBEq, Int.reduceBNe, Int.reduceAdd, Int.reduceSub, Int.reduceNeg, Int.reduceToNat, Int.reduceMul, Int.reducePow, Nat.reducePow, reduceCtorEq, InV.dP]
  simp only [beq_self_eq_true, Bool.and_self, bytes_self]
theorem open_r (c1 c2 c3 c4 c5 c6 c7 c8 : Value) (b : ByteArray) (n : Nat) : EW 24 [.ptr 0 0 0] [some ⟨0, [B true, .sc c1, .sc c2, .sc c3, .sc c4, .sc c5, .sc c6, .sc c7, .sc c8, .ref 1 0 1 0 n]⟩, some ⟨0, bytesD b⟩] = some (.ret (B true), [some ⟨0, [B true, .sc c1, .sc c2, .sc c3, .sc c4, .sc c5, .sc c6, .sc c7, .sc c8, .ref 1 0 1 0 n]⟩, some ⟨0, bytesD b⟩]) := by
  refine ew_of rfl ?_
  refine (ev_body ⟨[], [], [], false, [], noIt⟩ [.tmp 2] rfl Try.func24 rfl rfl rfl (by kernel_rfl) (by show 1 ≤ 11; decide)).trans ?_
  simp +contextual (maxSteps := 10000000) only [↓reduceIte, go_sem, Nat.reduceEqDiff, Nat.reduceAdd, Nat.reduceSub, Nat.reduceMul, Nat.reduceLeDiff, Nat.reduceLT, Nat.reduceBEq, Nat.reduceDiv, Nat.reduceMod, Int.reduceLE, Int.reduceLT, Int.reduceEq, Int.reduceBEq, Int.reduceBNe, Int.reduceAdd, Int.reduceSub, Int.reduceNeg, Int.reduceToNat, Int.reduceMul, Int.reducePow, Nat.reducePow, reduceCtorEq]
theorem drop_rw (c0 c1 c2 c3 c4 c5 c6 c7 c8 : Value) (b : ByteArray) (n : Nat) : EW 19 [.ptr 0 0 0] [some ⟨0, [.sc c0, .sc c1, .sc c2, .sc c3, .sc c4, .sc c5, .sc c6, .sc c7, .sc c8, .ref 1 0 1 0 n]⟩, some ⟨0, bytesD b⟩] = some (.ret (.tup []), [some ⟨0, gz⟩, some ⟨0, bytesD b⟩]) := by
  refine ew_of rfl ?_
  refine (ev_body ⟨[], [], [], false, [], noIt⟩ [] rfl Try.func19 rfl rfl rfl (by kernel_rfl) (by show 1 ≤ 7; decide)).trans ?_
  simp +contextual (maxSteps := 10000000) only [↓reduceIte, go_sem, Nat.reduceEqDiff, Nat.reduceAdd, Nat.reduceSub, Nat.reduceMul, Nat.reduceLeDiff, Nat.reduceLT, Nat.reduceBEq, Nat.reduceDiv, Nat.reduceMod, Int.reduceLE, Int.reduceLT, Int.reduceEq, Int.reduceBEq, Int.reduceBNe, Int.reduceAdd, Int.reduceSub, Int.reduceNeg, Int.reduceToNat, Int.reduceMul, Int.reducePow, Nat.reducePow, reduceCtorEq]
set_option maxRecDepth 10000 in
set_option maxHeartbeats 100000000 in
theorem plays_law (l : List Perf) (hf : ∀ p ∈ l, p.fine) (dr : List Bool) : EW 3 [.ro false (l.map Perf.d), .ro false (dr.map B)] [] = some (.ret (B true), []) := by
  refine (ev_body ⟨[], [(0, [0, 1, 5, 6, 7]), (2, [0, 1, 5, 6, 7, 8, 9, 10, 11, 12, 13]), (4, [0, 1, 5, 6, 7, 9, 14])], [], false, [], noIt⟩ [.tmp 4] rfl Try.func3 rfl rfl rfl (by kernel_rfl) (by show 2 ≤ 106; decide)).trans ?_
  have hR := perfs_refs hf
  have hC := perfs_can hf
  have hbr : D.refsL (dr.map B) = [] := refsL_map (fun _ => rfl) dr
  have hbc : D.canL (dr.map B) = dr.map B := by rw [D.canL_map, List.map_map]; rfl
  have w1 : EW 15 [.ro false (l.map Perf.d)] [] = _ := ew_of rfl (vast_c l hf)
  have w2 : EW 16 [] [] = _ := ew_of rfl works_c
  have w3 : EW 17 [] [] = _ := ew_of rfl new_c
  have w4 : EW 18 [] [] = _ := ew_of rfl rnew_c
  simp +contextual (maxSteps := 10000000) only [↓reduceIte, go_sem, Nat.reduceEqDiff, Nat.reduceAdd, Nat.reduceSub, Nat.reduceMul, Nat.reduceLeDiff, Nat.reduceLT, Nat.reduceBEq, Nat.reduceDiv, Nat.reduceMod, Int.reduceLE, Int.reduceLT, Int.reduceEq, Int.reduceBEq, Int.reduceBNe, Int.reduceAdd, Int.reduceSub, Int.reduceNeg, Int.reduceToNat, Int.reduceMul, Int.reducePow, Nat.reducePow, reduceCtorEq, hR, hC, hbr, hbc, w1, w2, w3, w4]
  refine ite_intro (fun h => rfl) (fun h => ?_)
  have hv := vast_at (by simpa using h)
  clear h
  have w5 : ∀ (o : Bool) (cs : List D) (h : D.refsL cs = []), EW 24 [.ptr 0 0 0] [some ⟨0, B o :: cs⟩] = _ := fun o cs h => ew_of rfl (open_g o cs h)
  have w6 : ∀ (o : Bool) (cs : List D) (h : D.refsL cs = []), EW 25 [.ptr 0 0 0] [some ⟨0, B o :: cs⟩] = _ := fun o cs h => ew_of rfl (ropen_g o cs h)
  have drop_w : ∀ (c0 c1 c2 c3 c4 c5 c6 c7 c8 c9 : D), EW 19 [.ptr 0 0 0] [some ⟨0, [c0, c1, c2, c3, c4, c5, c6, c7, c8, c9]⟩] = _ := fun c0 c1 c2 c3 c4 c5 c6 c7 c8 c9 => ew_of rfl (drop_g c0 c1 c2 c3 c4 c5 c6 c7 c8 c9)
  have rdrop_w : ∀ (c0 c1 c2 c3 c4 c5 c6 c7 c8 c9 : D), EW 20 [.ptr 0 0 0] [some ⟨0, [c0, c1, c2, c3, c4, c5, c6, c7, c8, c9]⟩] = _ := fun c0 c1 c2 c3 c4 c5 c6 c7 c8 c9 => ew_of rfl (rdrop_g c0 c1 c2 c3 c4 c5 c6 c7 c8 c9)
  refine lpK_inv (PlayI l dr) l.length ⟨0, _, false, in0, gz, rfl, rfl, Nat.zero_le _, by decide, fun _ => rfl, rfl, rfl, .inl ⟨.nils, rfl, rfl, rfl, rfl, rfl⟩⟩ ?_
  rintro m f es ⟨i, j, o, x, xrow, rfl, rfl, hi, hxs, ho, hxc, hxr, hcase⟩ ih
  rcases Nat.lt_or_ge i l.length with hlt | hge
  · obtain ⟨p, hp⟩ := get_lt hlt
    have hpm := List.mem_of_getElem? hp
    have hlt' : decide ((i : Int) < l.length) = true := by simpa using hlt
    obtain ⟨hps, _⟩ := hv.2 p hpm
    by_cases hz : p.payload.size = 0
    · rcases hcase with ⟨gd, hg1, hg2, hx0, rfl, rfl⟩ | ⟨rfl, hx0, rfl, rfl⟩
      · rcases Nat.lt_or_ge i dr.length with hd | hd
        · obtain ⟨b, hdb⟩ := get_lt hd
          have hd' : decide ((i : Int) < dr.length) = true := by simpa using hd
          have hd2 : (i : Int) < dr.length := by omega
          cases b
          · have hap : x.payload ++ p.payload = ⟨#[]⟩ := (bytes_nil hz _).trans (bytes_empty hx0)
            rcases s1n o x p ho hx0 hz (hf p hpm) with ⟨e1, e2⟩ | ⟨id, tag, n, e1, e2⟩ | ⟨id, tag, s, r, st, row, hs, hrc, hrr, e1, e2⟩ | ⟨id, tag, s, r, st, e1, e2⟩
            · have w7 := same_t 0 ⟨#[]⟩ false false ⟨0, 0, 0, ⟨#[]⟩⟩ ⟨#[]⟩
              simp only [Perf.dP, gcsP, InV.dP, in0, Perf.d, Perf.cs, gRow, gcs, InV.cs, InV.d, bytesD_nil] at e1 e2 w7 hxc
              simp only [fr5, gcsP]
              simp +contextual (maxSteps := 10000000) only [↓reduceIte, go_sem, Nat.reduceEqDiff, Nat.reduceAdd, Nat.reduceSub, Nat.reduceMul, Nat.reduceLeDiff, Nat.reduceLT, Nat.reduceBEq, Nat.reduceDiv, Nat.reduceMod, Int.reduceLE, Int.reduceLT, Int.reduceEq, Int.reduceBEq, Int.reduceBNe, Int.reduceAdd, Int.reduceSub, Int.reduceNeg, Int.reduceToNat, Int.reduceMul, Int.reducePow, Nat.reducePow, reduceCtorEq, hR, hC, hbr, hbc, w5, w6, open_r, hp, hlt', hz, hd', hdb, hd2, hg1, hg2, hx0, hxc, hxr, e1, e2, (hf p hpm).refs, (hf p hpm).can]
              rw [lpK_go]
              simp +contextual (maxSteps := 10000000) only [↓reduceIte, go_sem, Nat.reduceEqDiff, Nat.reduceAdd, Nat.reduceSub, Nat.reduceMul, Nat.reduceLeDiff, Nat.reduceLT, Nat.reduceBEq, Nat.reduceDiv, Nat.reduceMod, Int.reduceLE, Int.reduceLT, Int.reduceEq, Int.reduceBEq, Int.reduceBNe, Int.reduceAdd, Int.reduceSub, Int.reduceNeg, Int.reduceToNat, Int.reduceMul, Int.reducePow, Nat.reducePow, reduceCtorEq, hR, hC, hbr, hbc, w5, w6, open_r, w7, beq_self_eq_true, bne_self_eq_false, Bool.not_true, Bool.not_false, (hf p hpm).refs, (hf p hpm).can]
              rw [lpK_go]
              simp +contextual (maxSteps := 10000000) only [↓reduceIte, go_sem, Nat.reduceEqDiff, Nat.reduceAdd, Nat.reduceSub, Nat.reduceMul, Nat.reduceLeDiff, Nat.reduceLT, Nat.reduceBEq, Nat.reduceDiv, Nat.reduceMod, Int.reduceLE, Int.reduceLT, Int.reduceEq, Int.reduceBEq, Int.reduceBNe, Int.reduceAdd, Int.reduceSub, Int.reduceNeg, Int.reduceToNat, Int.reduceMul, Int.reducePow, Nat.reducePow, reduceCtorEq, hR, hC, hbr, hbc, w5, w6, open_r, w7, wrap_i64 (n := (i : Int) + 1) (by omega) (by omega)]
              exact ih _ _ _ (by omega) ⟨i + 1, _, o, x, gcs o x, rfl, rfl, hlt, hxs, ho, gcs_can o x, gcs_refs o x, .inl ⟨.ro false [], rfl, rfl, hx0, rfl, rfl⟩⟩
            · have w7 := same_t id tag false false ⟨0, 0, 0, ⟨#[]⟩⟩ ⟨#[]⟩
              simp only [Perf.dP, gcsP, InV.dP, in0, Perf.d, Perf.cs, gRow, gcs, InV.cs, InV.d, bytesD_nil] at e1 e2 w7 hxc
              simp only [fr5, gcsP]
              simp +contextual (maxSteps := 10000000) only [↓reduceIte, go_sem, Nat.reduceEqDiff, Nat.reduceAdd, Nat.reduceSub, Nat.reduceMul, Nat.reduceLeDiff, Nat.reduceLT, Nat.reduceBEq, Nat.reduceDiv, Nat.reduceMod, Int.reduceLE, Int.reduceLT, Int.reduceEq, Int.reduceBEq, Int.reduceBNe, Int.reduceAdd, Int.reduceSub, Int.reduceNeg, Int.reduceToNat, Int.reduceMul, Int.reducePow, Nat.reducePow, reduceCtorEq, hR, hC, hbr, hbc, w5, w6, open_r, hp, hlt', hz, hd', hdb, hd2, hg1, hg2, hx0, hxc, hxr, e1, e2, (hf p hpm).refs, (hf p hpm).can]
              rw [lpK_go]
              simp +contextual (maxSteps := 10000000) only [↓reduceIte, go_sem, Nat.reduceEqDiff, Nat.reduceAdd, Nat.reduceSub, Nat.reduceMul, Nat.reduceLeDiff, Nat.reduceLT, Nat.reduceBEq, Nat.reduceDiv, Nat.reduceMod, Int.reduceLE, Int.reduceLT, Int.reduceEq, Int.reduceBEq, Int.reduceBNe, Int.reduceAdd, Int.reduceSub, Int.reduceNeg, Int.reduceToNat, Int.reduceMul, Int.reducePow, Nat.reducePow, reduceCtorEq, hR, hC, hbr, hbc, w5, w6, open_r, w7, beq_self_eq_true, bne_self_eq_false, Bool.not_true, Bool.not_false, (hf p hpm).refs, (hf p hpm).can]
              rw [lpK_go]
              simp +contextual (maxSteps := 10000000) only [↓reduceIte, go_sem, Nat.reduceEqDiff, Nat.reduceAdd, Nat.reduceSub, Nat.reduceMul, Nat.reduceLeDiff, Nat.reduceLT, Nat.reduceBEq, Nat.reduceDiv, Nat.reduceMod, Int.reduceLE, Int.reduceLT, Int.reduceEq, Int.reduceBEq, Int.reduceBNe, Int.reduceAdd, Int.reduceSub, Int.reduceNeg, Int.reduceToNat, Int.reduceMul, Int.reducePow, Nat.reducePow, reduceCtorEq, hR, hC, hbr, hbc, w5, w6, open_r, w7, wrap_i64 (n := (i : Int) + 1) (by omega) (by omega)]
              exact ih _ _ _ (by omega) ⟨i + 1, _, false, in0, gcs false in0, rfl, rfl, hlt, by decide, fun _ => rfl, gcs_can _ _, gcs_refs _ _, .inl ⟨.ro false [], rfl, rfl, rfl, rfl, rfl⟩⟩
            · have w7 := same_t 0 ⟨#[]⟩ false false ⟨0, 0, 0, ⟨#[]⟩⟩ ⟨#[]⟩
              rw [hap] at hrc e1
              simp only [Perf.dP, gcsP, InV.dP, in0, Perf.d, Perf.cs, gRow, gcs, InV.cs, InV.d, bytesD_nil] at e1 e2 w7 hxc hrc
              simp only [fr5, gcsP]
              simp +contextual (maxSteps := 10000000) only [↓reduceIte, go_sem, Nat.reduceEqDiff, Nat.reduceAdd, Nat.reduceSub, Nat.reduceMul, Nat.reduceLeDiff, Nat.reduceLT, Nat.reduceBEq, Nat.reduceDiv, Nat.reduceMod, Int.reduceLE, Int.reduceLT, Int.reduceEq, Int.reduceBEq, Int.reduceBNe, Int.reduceAdd, Int.reduceSub, Int.reduceNeg, Int.reduceToNat, Int.reduceMul, Int.reducePow, Nat.reducePow, reduceCtorEq, hR, hC, hbr, hbc, w5, w6, open_r, hp, hlt', hz, hd', hdb, hd2, hg1, hg2, hx0, hxc, hxr, e1, e2, hrc, hrr, (hf p hpm).refs, (hf p hpm).can]
              rw [lpK_go]
              simp +contextual (maxSteps := 10000000) only [↓reduceIte, go_sem, Nat.reduceEqDiff, Nat.reduceAdd, Nat.reduceSub, Nat.reduceMul, Nat.reduceLeDiff, Nat.reduceLT, Nat.reduceBEq, Nat.reduceDiv, Nat.reduceMod, Int.reduceLE, Int.reduceLT, Int.reduceEq, Int.reduceBEq, Int.reduceBNe, Int.reduceAdd, Int.reduceSub, Int.reduceNeg, Int.reduceToNat, Int.reduceMul, Int.reducePow, Nat.reducePow, reduceCtorEq, hR, hC, hbr, hbc, w5, w6, open_r, w7, hrc, hrr, beq_self_eq_true, bne_self_eq_false, Bool.not_true, Bool.not_false, (hf p hpm).refs, (hf p hpm).can]
              rw [lpK_go]
              simp +contextual (maxSteps := 10000000) only [↓reduceIte, go_sem, Nat.reduceEqDiff, Nat.reduceAdd, Nat.reduceSub, Nat.reduceMul, Nat.reduceLeDiff, Nat.reduceLT, Nat.reduceBEq, Nat.reduceDiv, Nat.reduceMod, Int.reduceLE, Int.reduceLT, Int.reduceEq, Int.reduceBEq, Int.reduceBNe, Int.reduceAdd, Int.reduceSub, Int.reduceNeg, Int.reduceToNat, Int.reduceMul, Int.reducePow, Nat.reducePow, reduceCtorEq, hR, hC, hbr, hbc, w5, w6, open_r, w7, hrc, hrr, wrap_i64 (n := (i : Int) + 1) (by omega) (by omega)]
              exact ih _ _ _ (by omega) ⟨i + 1, _, true, (InV.mk id tag s r st ⟨#[]⟩), gcs true (InV.mk id tag s r st ⟨#[]⟩), rfl, rfl, hlt, Nat.zero_le _, fun h => absurd h (by decide), gcs_can _ _, gcs_refs _ _, .inl ⟨.ro false [], rfl, rfl, rfl, rfl, rfl⟩⟩
            · have w7 := same_t id tag s r st ⟨#[]⟩
              rw [hap] at e1 e2
              simp only [Perf.dP, gcsP, InV.dP, in0, Perf.d, Perf.cs, gRow, gcs, InV.cs, InV.d, bytesD_nil] at e1 e2 w7 hxc
              simp only [fr5, gcsP]
              simp +contextual (maxSteps := 10000000) only [↓reduceIte, go_sem, Nat.reduceEqDiff, Nat.reduceAdd, Nat.reduceSub, Nat.reduceMul, Nat.reduceLeDiff, Nat.reduceLT, Nat.reduceBEq, Nat.reduceDiv, Nat.reduceMod, Int.reduceLE, Int.reduceLT, Int.reduceEq, Int.reduceBEq, Int.reduceBNe, Int.reduceAdd, Int.reduceSub, Int.reduceNeg, Int.reduceToNat, Int.reduceMul, Int.reducePow, Nat.reducePow, reduceCtorEq, hR, hC, hbr, hbc, w5, w6, open_r, hp, hlt', hz, hd', hdb, hd2, hg1, hg2, hx0, hxc, hxr, e1, e2, (hf p hpm).refs, (hf p hpm).can]
              rw [lpK_go]
              simp +contextual (maxSteps := 10000000) only [↓reduceIte, go_sem, Nat.reduceEqDiff, Nat.reduceAdd, Nat.reduceSub, Nat.reduceMul, Nat.reduceLeDiff, Nat.reduceLT, Nat.reduceBEq, Nat.reduceDiv, Nat.reduceMod, Int.reduceLE, Int.reduceLT, Int.reduceEq, Int.reduceBEq, Int.reduceBNe, Int.reduceAdd, Int.reduceSub, Int.reduceNeg, Int.reduceToNat, Int.reduceMul, Int.reducePow, Nat.reducePow, reduceCtorEq, hR, hC, hbr, hbc, w5, w6, open_r, w7, beq_self_eq_true, bne_self_eq_false, Bool.not_true, Bool.not_false, (hf p hpm).refs, (hf p hpm).can]
              rw [lpK_go]
              simp +contextual (maxSteps := 10000000) only [↓reduceIte, go_sem, Nat.reduceEqDiff, Nat.reduceAdd, Nat.reduceSub, Nat.reduceMul, Nat.reduceLeDiff, Nat.reduceLT, Nat.reduceBEq, Nat.reduceDiv, Nat.reduceMod, Int.reduceLE, Int.reduceLT, Int.reduceEq, Int.reduceBEq, Int.reduceBNe, Int.reduceAdd, Int.reduceSub, Int.reduceNeg, Int.reduceToNat, Int.reduceMul, Int.reducePow, Nat.reducePow, reduceCtorEq, hR, hC, hbr, hbc, w5, w6, open_r, w7, wrap_i64 (n := (i : Int) + 1) (by omega) (by omega)]
              exact ih _ _ _ (by omega) ⟨i + 1, _, false, in0, gcs false in0, rfl, rfl, hlt, by decide, fun _ => rfl, gcs_can _ _, gcs_refs _ _, .inl ⟨.ro false [], rfl, rfl, rfl, rfl, rfl⟩⟩
          · have hap : in0.payload ++ p.payload = ⟨#[]⟩ := (bytes_nil hz _).trans rfl
            rcases s1n false in0 p (fun _ => rfl) rfl hz (hf p hpm) with ⟨e1, e2⟩ | ⟨id, tag, n, e1, e2⟩ | ⟨id, tag, s, r, st, row, hs, hrc, hrr, e1, e2⟩ | ⟨id, tag, s, r, st, e1, e2⟩
            · have w7 := same_t 0 ⟨#[]⟩ false false ⟨0, 0, 0, ⟨#[]⟩⟩ ⟨#[]⟩
              have hin : in0.payload.size = 0 := rfl
              simp only [Perf.dP, gcsP, InV.dP, in0, Perf.d, Perf.cs, gRow, gcs, InV.cs, InV.d, bytesD_nil] at e1 e2 w7 hxc
              simp only [fr5, gcsP]
              simp +contextual (maxSteps := 10000000) only [↓reduceIte, go_sem, Nat.reduceEqDiff, Nat.reduceAdd, Nat.reduceSub, Nat.reduceMul, Nat.reduceLeDiff, Nat.reduceLT, Nat.reduceBEq, Nat.reduceDiv, Nat.reduceMod, Int.reduceLE, Int.reduceLT, Int.reduceEq, Int.reduceBEq, Int.reduceBNe, Int.reduceAdd, Int.reduceSub, Int.reduceNeg, Int.reduceToNat, Int.reduceMul, Int.reducePow, Nat.reducePow, reduceCtorEq, hR, hC, hbr, hbc, w5, w6, open_r, hp, hlt', hz, hd', hd2, hdb, drop_w, rdrop_w, drop_rw, hg1, hg2, hx0, hxc, hxr, e1, e2, (hf p hpm).refs, (hf p hpm).can]
              rw [lpK_go]
              simp +contextual (maxSteps := 10000000) only [↓reduceIte, go_sem, Nat.reduceEqDiff, Nat.reduceAdd, Nat.reduceSub, Nat.reduceMul, Nat.reduceLeDiff, Nat.reduceLT, Nat.reduceBEq, Nat.reduceDiv, Nat.reduceMod, Int.reduceLE, Int.reduceLT, Int.reduceEq, Int.reduceBEq, Int.reduceBNe, Int.reduceAdd, Int.reduceSub, Int.reduceNeg, Int.reduceToNat, Int.reduceMul, Int.reducePow, Nat.reducePow, reduceCtorEq, hR, hC, hbr, hbc, w5, w6, open_r, w7, beq_self_eq_true, bne_self_eq_false, Bool.not_true, Bool.not_false, (hf p hpm).refs, (hf p hpm).can]
              rw [lpK_go]
              simp +contextual (maxSteps := 10000000) only [↓reduceIte, go_sem, Nat.reduceEqDiff, Nat.reduceAdd, Nat.reduceSub, Nat.reduceMul, Nat.reduceLeDiff, Nat.reduceLT, Nat.reduceBEq, Nat.reduceDiv, Nat.reduceMod, Int.reduceLE, Int.reduceLT, Int.reduceEq, Int.reduceBEq, Int.reduceBNe, Int.reduceAdd, Int.reduceSub, Int.reduceNeg, Int.reduceToNat, Int.reduceMul, Int.reducePow, Nat.reducePow, reduceCtorEq, hR, hC, hbr, hbc, w5, w6, open_r, w7, wrap_i64 (n := (i : Int) + 1) (by omega) (by omega)]
              exact ih _ _ _ (by omega) ⟨i + 1, _, false, in0, gcs false in0, rfl, rfl, hlt, by decide, fun _ => rfl, gcs_can _ _, gcs_refs _ _, .inl ⟨.ro false [], rfl, rfl, rfl, rfl, rfl⟩⟩
            · have w7 := same_t id tag false false ⟨0, 0, 0, ⟨#[]⟩⟩ ⟨#[]⟩
              have hin : in0.payload.size = 0 := rfl
              simp only [Perf.dP, gcsP, InV.dP, in0, Perf.d, Perf.cs, gRow, gcs, InV.cs, InV.d, bytesD_nil] at e1 e2 w7 hxc
              simp only [fr5, gcsP]
              simp +contextual (maxSteps := 10000000) only [↓reduceIte, go_sem, Nat.reduceEqDiff, Nat.reduceAdd, Nat.reduceSub, Nat.reduceMul, Nat.reduceLeDiff, Nat.reduceLT, Nat.reduceBEq, Nat.reduceDiv, Nat.reduceMod, Int.reduceLE, Int.reduceLT, Int.reduceEq, Int.reduceBEq, Int.reduceBNe, Int.reduceAdd, Int.reduceSub, Int.reduceNeg, Int.reduceToNat, Int.reduceMul, Int.reducePow, Nat.reducePow, reduceCtorEq, hR, hC, hbr, hbc, w5, w6, open_r, hp, hlt', hz, hd', hd2, hdb, drop_w, rdrop_w, drop_rw, hg1, hg2, hx0, hxc, hxr, e1, e2, (hf p hpm).refs, (hf p hpm).can]
              rw [lpK_go]
              simp +contextual (maxSteps := 10000000) only [↓reduceIte, go_sem, Nat.reduceEqDiff, Nat.reduceAdd, Nat.reduceSub, Nat.reduceMul, Nat.reduceLeDiff, Nat.reduceLT, Nat.reduceBEq, Nat.reduceDiv, Nat.reduceMod, Int.reduceLE, Int.reduceLT, Int.reduceEq, Int.reduceBEq, Int.reduceBNe, Int.reduceAdd, Int.reduceSub, Int.reduceNeg, Int.reduceToNat, Int.reduceMul, Int.reducePow, Nat.reducePow, reduceCtorEq, hR, hC, hbr, hbc, w5, w6, open_r, w7, beq_self_eq_true, bne_self_eq_false, Bool.not_true, Bool.not_false, (hf p hpm).refs, (hf p hpm).can]
              rw [lpK_go]
              simp +contextual (maxSteps := 10000000) only [↓reduceIte, go_sem, Nat.reduceEqDiff, Nat.reduceAdd, Nat.reduceSub, Nat.reduceMul, Nat.reduceLeDiff, Nat.reduceLT, Nat.reduceBEq, Nat.reduceDiv, Nat.reduceMod, Int.reduceLE, Int.reduceLT, Int.reduceEq, Int.reduceBEq, Int.reduceBNe, Int.reduceAdd, Int.reduceSub, Int.reduceNeg, Int.reduceToNat, Int.reduceMul, Int.reducePow, Nat.reducePow, reduceCtorEq, hR, hC, hbr, hbc, w5, w6, open_r, w7, wrap_i64 (n := (i : Int) + 1) (by omega) (by omega)]
              exact ih _ _ _ (by omega) ⟨i + 1, _, false, in0, gcs false in0, rfl, rfl, hlt, by decide, fun _ => rfl, gcs_can _ _, gcs_refs _ _, .inl ⟨.ro false [], rfl, rfl, rfl, rfl, rfl⟩⟩
            · have w7 := same_t 0 ⟨#[]⟩ false false ⟨0, 0, 0, ⟨#[]⟩⟩ ⟨#[]⟩
              have hin : in0.payload.size = 0 := rfl
              rw [hap] at hrc e1
              simp only [Perf.dP, gcsP, InV.dP, in0, Perf.d, Perf.cs, gRow, gcs, InV.cs, InV.d, bytesD_nil] at e1 e2 w7 hxc hrc
              simp only [fr5, gcsP]
              simp +contextual (maxSteps := 10000000) only [↓reduceIte, go_sem, Nat.reduceEqDiff, Nat.reduceAdd, Nat.reduceSub, Nat.reduceMul, Nat.reduceLeDiff, Nat.reduceLT, Nat.reduceBEq, Nat.reduceDiv, Nat.reduceMod, Int.reduceLE, Int.reduceLT, Int.reduceEq, Int.reduceBEq, Int.reduceBNe, Int.reduceAdd, Int.reduceSub, Int.reduceNeg, Int.reduceToNat, Int.reduceMul, Int.reducePow, Nat.reducePow, reduceCtorEq, hR, hC, hbr, hbc, w5, w6, open_r, hp, hlt', hz, hd', hd2, hdb, drop_w, rdrop_w, drop_rw, hg1, hg2, hx0, hxc, hxr, e1, e2, hrc, hrr, (hf p hpm).refs, (hf p hpm).can]
              rw [lpK_go]
              simp +contextual (maxSteps := 10000000) only [↓reduceIte, go_sem, Nat.reduceEqDiff, Nat.reduceAdd, Nat.reduceSub, Nat.reduceMul, Nat.reduceLeDiff, Nat.reduceLT, Nat.reduceBEq, Nat.reduceDiv, Nat.reduceMod, Int.reduceLE, Int.reduceLT, Int.reduceEq, Int.reduceBEq, Int.reduceBNe, Int.reduceAdd, Int.reduceSub, Int.reduceNeg, Int.reduceToNat, Int.reduceMul, Int.reducePow, Nat.reducePow, reduceCtorEq, hR, hC, hbr, hbc, w5, w6, open_r, w7, hrc, hrr, beq_self_eq_true, bne_self_eq_false, Bool.not_true, Bool.not_false, (hf p hpm).refs, (hf p hpm).can]
              rw [lpK_go]
              simp +contextual (maxSteps := 10000000) only [↓reduceIte, go_sem, Nat.reduceEqDiff, Nat.reduceAdd, Nat.reduceSub, Nat.reduceMul, Nat.reduceLeDiff, Nat.reduceLT, Nat.reduceBEq, Nat.reduceDiv, Nat.reduceMod, Int.reduceLE, Int.reduceLT, Int.reduceEq, Int.reduceBEq, Int.reduceBNe, Int.reduceAdd, Int.reduceSub, Int.reduceNeg, Int.reduceToNat, Int.reduceMul, Int.reducePow, Nat.reducePow, reduceCtorEq, hR, hC, hbr, hbc, w5, w6, open_r, w7, hrc, hrr, wrap_i64 (n := (i : Int) + 1) (by omega) (by omega)]
              exact ih _ _ _ (by omega) ⟨i + 1, _, true, (InV.mk id tag s r st ⟨#[]⟩), gcs true (InV.mk id tag s r st ⟨#[]⟩), rfl, rfl, hlt, Nat.zero_le _, fun h => absurd h (by decide), gcs_can _ _, gcs_refs _ _, .inl ⟨.ro false [], rfl, rfl, rfl, rfl, rfl⟩⟩
            · have w7 := same_t id tag s r st ⟨#[]⟩
              have hin : in0.payload.size = 0 := rfl
              rw [hap] at e1 e2
              simp only [Perf.dP, gcsP, InV.dP, in0, Perf.d, Perf.cs, gRow, gcs, InV.cs, InV.d, bytesD_nil] at e1 e2 w7 hxc
              simp only [fr5, gcsP]
              simp +contextual (maxSteps := 10000000) only [↓reduceIte, go_sem, Nat.reduceEqDiff, Nat.reduceAdd, Nat.reduceSub, Nat.reduceMul, Nat.reduceLeDiff, Nat.reduceLT, Nat.reduceBEq, Nat.reduceDiv, Nat.reduceMod, Int.reduceLE, Int.reduceLT, Int.reduceEq, Int.reduceBEq, Int.reduceBNe, Int.reduceAdd, Int.reduceSub, Int.reduceNeg, Int.reduceToNat, Int.reduceMul, Int.reducePow, Nat.reducePow, reduceCtorEq, hR, hC, hbr, hbc, w5, w6, open_r, hp, hlt', hz, hd', hd2, hdb, drop_w, rdrop_w, drop_rw, hg1, hg2, hx0, hxc, hxr, e1, e2, (hf p hpm).refs, (hf p hpm).can]
              rw [lpK_go]
              simp +contextual (maxSteps := 10000000) only [↓reduceIte, go_sem, Nat.reduceEqDiff, Nat.reduceAdd, Nat.reduceSub, Nat.reduceMul, Nat.reduceLeDiff, Nat.reduceLT, Nat.reduceBEq, Nat.reduceDiv, Nat.reduceMod, Int.reduceLE, Int.reduceLT, Int.reduceEq, Int.reduceBEq, Int.reduceBNe, Int.reduceAdd, Int.reduceSub, Int.reduceNeg, Int.reduceToNat, Int.reduceMul, Int.reducePow, Nat.reducePow, reduceCtorEq, hR, hC, hbr, hbc, w5, w6, open_r, w7, beq_self_eq_true, bne_self_eq_false, Bool.not_true, Bool.not_false, (hf p hpm).refs, (hf p hpm).can]
              rw [lpK_go]
              simp +contextual (maxSteps := 10000000) only [↓reduceIte, go_sem, Nat.reduceEqDiff, Nat.reduceAdd, Nat.reduceSub, Nat.reduceMul, Nat.reduceLeDiff, Nat.reduceLT, Nat.reduceBEq, Nat.reduceDiv, Nat.reduceMod, Int.reduceLE, Int.reduceLT, Int.reduceEq, Int.reduceBEq, Int.reduceBNe, Int.reduceAdd, Int.reduceSub, Int.reduceNeg, Int.reduceToNat, Int.reduceMul, Int.reducePow, Nat.reducePow, reduceCtorEq, hR, hC, hbr, hbc, w5, w6, open_r, w7, wrap_i64 (n := (i : Int) + 1) (by omega) (by omega)]
              exact ih _ _ _ (by omega) ⟨i + 1, _, false, in0, gcs false in0, rfl, rfl, hlt, by decide, fun _ => rfl, gcs_can _ _, gcs_refs _ _, .inl ⟨.ro false [], rfl, rfl, rfl, rfl, rfl⟩⟩
        · have hd' : decide ((i : Int) < dr.length) = false := by simpa using hd
          have hap : x.payload ++ p.payload = ⟨#[]⟩ := (bytes_nil hz _).trans (bytes_empty hx0)
          rcases s1n o x p ho hx0 hz (hf p hpm) with ⟨e1, e2⟩ | ⟨id, tag, n, e1, e2⟩ | ⟨id, tag, s, r, st, row, hs, hrc, hrr, e1, e2⟩ | ⟨id, tag, s, r, st, e1, e2⟩
          · have w7 := same_t 0 ⟨#[]⟩ false false ⟨0, 0, 0, ⟨#[]⟩⟩ ⟨#[]⟩
            simp only [Perf.dP, gcsP, InV.dP, in0, Perf.d, Perf.cs, gRow, gcs, InV.cs, InV.d, bytesD_nil] at e1 e2 w7 hxc
            simp only [fr5, gcsP]
            simp +contextual (maxSteps := 10000000) only [↓reduceIte, go_sem, Nat.reduceEqDiff, Nat.reduceAdd, Nat.reduceSub, Nat.reduceMul, Nat.reduceLeDiff, Nat.reduceLT, Nat.reduceBEq, Nat.reduceDiv, Nat.reduceMod, Int.reduceLE, Int.reduceLT, Int.reduceEq, Int.reduceBEq, Int.reduceBNe, Int.reduceAdd, Int.reduceSub, Int.reduceNeg, Int.reduceToNat, Int.reduceMul, Int.reducePow, Nat.reducePow, reduceCtorEq, hR, hC, hbr, hbc, w5, w6, open_r, hp, hlt', hz, hd', hg1, hg2, hx0, hxc, hxr, e1, e2, (hf p hpm).refs, (hf p hpm).can]
            rw [lpK_go]
            simp +contextual (maxSteps := 10000000) only [↓reduceIte, go_sem, Nat.reduceEqDiff, Nat.reduceAdd, Nat.reduceSub, Nat.reduceMul, Nat.reduceLeDiff, Nat.reduceLT, Nat.reduceBEq, Nat.reduceDiv, Nat.reduceMod, Int.reduceLE, Int.reduceLT, Int.reduceEq, Int.reduceBEq, Int.reduceBNe, Int.reduceAdd, Int.reduceSub, Int.reduceNeg, Int.reduceToNat, Int.reduceMul, Int.reducePow, Nat.reducePow, reduceCtorEq, hR, hC, hbr, hbc, w5, w6, open_r, w7, beq_self_eq_true, bne_self_eq_false, Bool.not_true, Bool.not_false, (hf p hpm).refs, (hf p hpm).can]
            rw [lpK_go]
            simp +contextual (maxSteps := 10000000) only [↓reduceIte, go_sem, Nat.reduceEqDiff, Nat.reduceAdd, Nat.reduceSub, Nat.reduceMul, Nat.reduceLeDiff, Nat.reduceLT, Nat.reduceBEq, Nat.reduceDiv, Nat.reduceMod, Int.reduceLE, Int.reduceLT, Int.reduceEq, Int.reduceBEq, Int.reduceBNe, Int.reduceAdd, Int.reduceSub, Int.reduceNeg, Int.reduceToNat, Int.reduceMul, Int.reducePow, Nat.reducePow, reduceCtorEq, hR, hC, hbr, hbc, w5, w6, open_r, w7, wrap_i64 (n := (i : Int) + 1) (by omega) (by omega)]
            exact ih _ _ _ (by omega) ⟨i + 1, _, o, x, gcs o x, rfl, rfl, hlt, hxs, ho, gcs_can o x, gcs_refs o x, .inl ⟨.ro false [], rfl, rfl, hx0, rfl, rfl⟩⟩
          · have w7 := same_t id tag false false ⟨0, 0, 0, ⟨#[]⟩⟩ ⟨#[]⟩
            simp only [Perf.dP, gcsP, InV.dP, in0, Perf.d, Perf.cs, gRow, gcs, InV.cs, InV.d, bytesD_nil] at e1 e2 w7 hxc
            simp only [fr5, gcsP]
            simp +contextual (maxSteps := 10000000) only [↓reduceIte, go_sem, Nat.reduceEqDiff, Nat.reduceAdd, Nat.reduceSub, Nat.reduceMul, Nat.reduceLeDiff, Nat.reduceLT, Nat.reduceBEq, Nat.reduceDiv, Nat.reduceMod, Int.reduceLE, Int.reduceLT, Int.reduceEq, Int.reduceBEq, Int.reduceBNe, Int.reduceAdd, Int.reduceSub, Int.reduceNeg, Int.reduceToNat, Int.reduceMul, Int.reducePow, Nat.reducePow, reduceCtorEq, hR, hC, hbr, hbc, w5, w6, open_r, hp, hlt', hz, hd', hg1, hg2, hx0, hxc, hxr, e1, e2, (hf p hpm).refs, (hf p hpm).can]
            rw [lpK_go]
            simp +contextual (maxSteps := 10000000) only [↓reduceIte, go_sem, Nat.reduceEqDiff, Nat.reduceAdd, Nat.reduceSub, Nat.reduceMul, Nat.reduceLeDiff, Nat.reduceLT, Nat.reduceBEq, Nat.reduceDiv, Nat.reduceMod, Int.reduceLE, Int.reduceLT, Int.reduceEq, Int.reduceBEq, Int.reduceBNe, Int.reduceAdd, Int.reduceSub, Int.reduceNeg, Int.reduceToNat, Int.reduceMul, Int.reducePow, Nat.reducePow, reduceCtorEq, hR, hC, hbr, hbc, w5, w6, open_r, w7, beq_self_eq_true, bne_self_eq_false, Bool.not_true, Bool.not_false, (hf p hpm).refs, (hf p hpm).can]
            rw [lpK_go]
            simp +contextual (maxSteps := 10000000) only [↓reduceIte, go_sem, Nat.reduceEqDiff, Nat.reduceAdd, Nat.reduceSub, Nat.reduceMul, Nat.reduceLeDiff, Nat.reduceLT, Nat.reduceBEq, Nat.reduceDiv, Nat.reduceMod, Int.reduceLE, Int.reduceLT, Int.reduceEq, Int.reduceBEq, Int.reduceBNe, Int.reduceAdd, Int.reduceSub, Int.reduceNeg, Int.reduceToNat, Int.reduceMul, Int.reducePow, Nat.reducePow, reduceCtorEq, hR, hC, hbr, hbc, w5, w6, open_r, w7, wrap_i64 (n := (i : Int) + 1) (by omega) (by omega)]
            exact ih _ _ _ (by omega) ⟨i + 1, _, false, in0, gcs false in0, rfl, rfl, hlt, by decide, fun _ => rfl, gcs_can _ _, gcs_refs _ _, .inl ⟨.ro false [], rfl, rfl, rfl, rfl, rfl⟩⟩
          · have w7 := same_t 0 ⟨#[]⟩ false false ⟨0, 0, 0, ⟨#[]⟩⟩ ⟨#[]⟩
            rw [hap] at hrc e1
            simp only [Perf.dP, gcsP, InV.dP, in0, Perf.d, Perf.cs, gRow, gcs, InV.cs, InV.d, bytesD_nil] at e1 e2 w7 hxc hrc
            simp only [fr5, gcsP]
            simp +contextual (maxSteps := 10000000) only [↓reduceIte, go_sem, Nat.reduceEqDiff, Nat.reduceAdd, Nat.reduceSub, Nat.reduceMul, Nat.reduceLeDiff, Nat.reduceLT, Nat.reduceBEq, Nat.reduceDiv, Nat.reduceMod, Int.reduceLE, Int.reduceLT, Int.reduceEq, Int.reduceBEq, Int.reduceBNe, Int.reduceAdd, Int.reduceSub, Int.reduceNeg, Int.reduceToNat, Int.reduceMul, Int.reducePow, Nat.reducePow, reduceCtorEq, hR, hC, hbr, hbc, w5, w6, open_r, hp, hlt', hz, hd', hg1, hg2, hx0, hxc, hxr, e1, e2, hrc, hrr, (hf p hpm).refs, (hf p hpm).can]
            rw [lpK_go]
            simp +contextual (maxSteps := 10000000) only [↓reduceIte, go_sem, Nat.reduceEqDiff, Nat.reduceAdd, Nat.reduceSub, Nat.reduceMul, Nat.reduceLeDiff, Nat.reduceLT, Nat.reduceBEq, Nat.reduceDiv, Nat.reduceMod, Int.reduceLE, Int.reduceLT, Int.reduceEq, Int.reduceBEq, Int.reduceBNe, Int.reduceAdd, Int.reduceSub, Int.reduceNeg, Int.reduceToNat, Int.reduceMul, Int.reducePow, Nat.reducePow, reduceCtorEq, hR, hC, hbr, hbc, w5, w6, open_r, w7, hrc, hrr, beq_self_eq_true, bne_self_eq_false, Bool.not_true, Bool.not_false, (hf p hpm).refs, (hf p hpm).can]
            rw [lpK_go]
            simp +contextual (maxSteps := 10000000) only [↓reduceIte, go_sem, Nat.reduceEqDiff, Nat.reduceAdd, Nat.reduceSub, Nat.reduceMul, Nat.reduceLeDiff, Nat.reduceLT, Nat.reduceBEq, Nat.reduceDiv, Nat.reduceMod, Int.reduceLE, Int.reduceLT, Int.reduceEq, Int.reduceBEq, Int.reduceBNe, Int.reduceAdd, Int.reduceSub, Int.reduceNeg, Int.reduceToNat, Int.reduceMul, Int.reducePow, Nat.reducePow, reduceCtorEq, hR, hC, hbr, hbc, w5, w6, open_r, w7, hrc, hrr, wrap_i64 (n := (i : Int) + 1) (by omega) (by omega)]
            exact ih _ _ _ (by omega) ⟨i + 1, _, true, (InV.mk id tag s r st ⟨#[]⟩), gcs true (InV.mk id tag s r st ⟨#[]⟩), rfl, rfl, hlt, Nat.zero_le _, fun h => absurd h (by decide), gcs_can _ _, gcs_refs _ _, .inl ⟨.ro false [], rfl, rfl, rfl, rfl, rfl⟩⟩
          · have w7 := same_t id tag s r st ⟨#[]⟩
            rw [hap] at e1 e2
            simp only [Perf.dP, gcsP, InV.dP, in0, Perf.d, Perf.cs, gRow, gcs, InV.cs, InV.d, bytesD_nil] at e1 e2 w7 hxc
            simp only [fr5, gcsP]
            simp +contextual (maxSteps := 10000000) only [↓reduceIte, go_sem, Nat.reduceEqDiff, Nat.reduceAdd, Nat.reduceSub, Nat.reduceMul, Nat.reduceLeDiff, Nat.reduceLT, Nat.reduceBEq, Nat.reduceDiv, Nat.reduceMod, Int.reduceLE, Int.reduceLT, Int.reduceEq, Int.reduceBEq, Int.reduceBNe, Int.reduceAdd, Int.reduceSub, Int.reduceNeg, Int.reduceToNat, Int.reduceMul, Int.reducePow, Nat.reducePow, reduceCtorEq, hR, hC, hbr, hbc, w5, w6, open_r, hp, hlt', hz, hd', hg1, hg2, hx0, hxc, hxr, e1, e2, (hf p hpm).refs, (hf p hpm).can]
            rw [lpK_go]
            simp +contextual (maxSteps := 10000000) only [↓reduceIte, go_sem, Nat.reduceEqDiff, Nat.reduceAdd, Nat.reduceSub, Nat.reduceMul, Nat.reduceLeDiff, Nat.reduceLT, Nat.reduceBEq, Nat.reduceDiv, Nat.reduceMod, Int.reduceLE, Int.reduceLT, Int.reduceEq, Int.reduceBEq, Int.reduceBNe, Int.reduceAdd, Int.reduceSub, Int.reduceNeg, Int.reduceToNat, Int.reduceMul, Int.reducePow, Nat.reducePow, reduceCtorEq, hR, hC, hbr, hbc, w5, w6, open_r, w7, beq_self_eq_true, bne_self_eq_false, Bool.not_true, Bool.not_false, (hf p hpm).refs, (hf p hpm).can]
            rw [lpK_go]
            simp +contextual (maxSteps := 10000000) only [↓reduceIte, go_sem, Nat.reduceEqDiff, Nat.reduceAdd, Nat.reduceSub, Nat.reduceMul, Nat.reduceLeDiff, Nat.reduceLT, Nat.reduceBEq, Nat.reduceDiv, Nat.reduceMod, Int.reduceLE, Int.reduceLT, Int.reduceEq, Int.reduceBEq, Int.reduceBNe, Int.reduceAdd, Int.reduceSub, Int.reduceNeg, Int.reduceToNat, Int.reduceMul, Int.reducePow, Nat.reducePow, reduceCtorEq, hR, hC, hbr, hbc, w5, w6, open_r, w7, wrap_i64 (n := (i : Int) + 1) (by omega) (by omega)]
            exact ih _ _ _ (by omega) ⟨i + 1, _, false, in0, gcs false in0, rfl, rfl, hlt, by decide, fun _ => rfl, gcs_can _ _, gcs_refs _ _, .inl ⟨.ro false [], rfl, rfl, rfl, rfl, rfl⟩⟩
      · rcases Nat.lt_or_ge i dr.length with hd | hd
        · obtain ⟨b, hdb⟩ := get_lt hd
          have hd' : decide ((i : Int) < dr.length) = true := by simpa using hd
          have hd2 : (i : Int) < dr.length := by omega
          cases b
          · have hap : x.payload ++ p.payload = x.payload := bytes_nil hz _
            rcases s2n x p (by omega) hx0 hz (hf p hpm) with ⟨e1, e2⟩ | ⟨id, tag, n, e1, e2⟩ | ⟨id, tag, s, r, st, row, hs, hrc, hrr, e1, e2⟩ | ⟨id, tag, s, r, st, e1, e2⟩
            · have w7 := same_t 0 ⟨#[]⟩ false false ⟨0, 0, 0, ⟨#[]⟩⟩ ⟨#[]⟩
              simp only [Perf.dP, gcsP, InV.dP, in0, Perf.d, Perf.cs, gRow, gcs, InV.cs, InV.d, bytesD_nil] at e1 e2 w7 hxc
              simp only [fr5, gcsP]
              simp +contextual (maxSteps := 10000000) only [↓reduceIte, go_sem, Nat.reduceEqDiff, Nat.reduceAdd, Nat.reduceSub, Nat.reduceMul, Nat.reduceLeDiff, Nat.reduceLT, Nat.reduceBEq, Nat.reduceDiv, Nat.reduceMod, Int.reduceLE, Int.reduceLT, Int.reduceEq, Int.reduceBEq, Int.reduceBNe, Int.reduceAdd, Int.reduceSub, Int.reduceNeg, Int.reduceToNat, Int.reduceMul, Int.reducePow, Nat.reducePow, reduceCtorEq, hR, hC, hbr, hbc, w5, w6, open_r, hp, hlt', hz, hd', hdb, hd2, hx0, hxc, hxr, e1, e2, (hf p hpm).refs, (hf p hpm).can]
              rw [lpK_go]
              simp +contextual (maxSteps := 10000000) only [↓reduceIte, go_sem, Nat.reduceEqDiff, Nat.reduceAdd, Nat.reduceSub, Nat.reduceMul, Nat.reduceLeDiff, Nat.reduceLT, Nat.reduceBEq, Nat.reduceDiv, Nat.reduceMod, Int.reduceLE, Int.reduceLT, Int.reduceEq, Int.reduceBEq, Int.reduceBNe, Int.reduceAdd, Int.reduceSub, Int.reduceNeg, Int.reduceToNat, Int.reduceMul, Int.reducePow, Nat.reducePow, reduceCtorEq, hR, hC, hbr, hbc, w5, w6, open_r, w7, beq_self_eq_true, bne_self_eq_false, Bool.not_true, Bool.not_false, (hf p hpm).refs, (hf p hpm).can]
              rw [lpK_go]
              simp +contextual (maxSteps := 10000000) only [↓reduceIte, go_sem, Nat.reduceEqDiff, Nat.reduceAdd, Nat.reduceSub, Nat.reduceMul, Nat.reduceLeDiff, Nat.reduceLT, Nat.reduceBEq, Nat.reduceDiv, Nat.reduceMod, Int.reduceLE, Int.reduceLT, Int.reduceEq, Int.reduceBEq, Int.reduceBNe, Int.reduceAdd, Int.reduceSub, Int.reduceNeg, Int.reduceToNat, Int.reduceMul, Int.reducePow, Nat.reducePow, reduceCtorEq, hR, hC, hbr, hbc, w5, w6, open_r, w7, wrap_i64 (n := (i : Int) + 1) (by omega) (by omega)]
              exact ih _ _ _ (by omega) ⟨i + 1, _, true, x, gcs true x, rfl, rfl, hlt, hxs, fun h => absurd h (by decide), gcs_can _ _, gcs_refs _ _, .inr ⟨rfl, hx0, rfl, rfl⟩⟩
            · have w7 := same_t id tag false false ⟨0, 0, 0, ⟨#[]⟩⟩ ⟨#[]⟩
              simp only [Perf.dP, gcsP, InV.dP, in0, Perf.d, Perf.cs, gRow, gcs, InV.cs, InV.d, bytesD_nil] at e1 e2 w7 hxc
              simp only [fr5, gcsP]
              simp +contextual (maxSteps := 10000000) only [↓reduceIte, go_sem, Nat.reduceEqDiff, Nat.reduceAdd, Nat.reduceSub, Nat.reduceMul, Nat.reduceLeDiff, Nat.reduceLT, Nat.reduceBEq, Nat.reduceDiv, Nat.reduceMod, Int.reduceLE, Int.reduceLT, Int.reduceEq, Int.reduceBEq, Int.reduceBNe, Int.reduceAdd, Int.reduceSub, Int.reduceNeg, Int.reduceToNat, Int.reduceMul, Int.reducePow, Nat.reducePow, reduceCtorEq, hR, hC, hbr, hbc, w5, w6, open_r, hp, hlt', hz, hd', hdb, hd2, hx0, hxc, hxr, e1, e2, (hf p hpm).refs, (hf p hpm).can]
              rw [lpK_go]
              simp +contextual (maxSteps := 10000000) only [↓reduceIte, go_sem, Nat.reduceEqDiff, Nat.reduceAdd, Nat.reduceSub, Nat.reduceMul, Nat.reduceLeDiff, Nat.reduceLT, Nat.reduceBEq, Nat.reduceDiv, Nat.reduceMod, Int.reduceLE, Int.reduceLT, Int.reduceEq, Int.reduceBEq, Int.reduceBNe, Int.reduceAdd, Int.reduceSub, Int.reduceNeg, Int.reduceToNat, Int.reduceMul, Int.reducePow, Nat.reducePow, reduceCtorEq, hR, hC, hbr, hbc, w5, w6, open_r, w7, beq_self_eq_true, bne_self_eq_false, Bool.not_true, Bool.not_false, (hf p hpm).refs, (hf p hpm).can]
              rw [lpK_go]
              simp +contextual (maxSteps := 10000000) only [↓reduceIte, go_sem, Nat.reduceEqDiff, Nat.reduceAdd, Nat.reduceSub, Nat.reduceMul, Nat.reduceLeDiff, Nat.reduceLT, Nat.reduceBEq, Nat.reduceDiv, Nat.reduceMod, Int.reduceLE, Int.reduceLT, Int.reduceEq, Int.reduceBEq, Int.reduceBNe, Int.reduceAdd, Int.reduceSub, Int.reduceNeg, Int.reduceToNat, Int.reduceMul, Int.reducePow, Nat.reducePow, reduceCtorEq, hR, hC, hbr, hbc, w5, w6, open_r, w7, wrap_i64 (n := (i : Int) + 1) (by omega) (by omega)]
              exact ih _ _ _ (by omega) ⟨i + 1, _, false, in0, gcs false in0, rfl, rfl, hlt, by decide, fun _ => rfl, gcs_can _ _, gcs_refs _ _, .inl ⟨.ro false [], rfl, rfl, rfl, rfl, rfl⟩⟩
            · have w7 := same_t 0 ⟨#[]⟩ false false ⟨0, 0, 0, ⟨#[]⟩⟩ ⟨#[]⟩
              rw [hap] at hrc e1
              simp only [Perf.dP, gcsP, InV.dP, in0, Perf.d, Perf.cs, gRow, gcs, InV.cs, InV.d, bytesD_nil] at e1 e2 w7 hxc hrc
              simp only [fr5, gcsP]
              simp +contextual (maxSteps := 10000000) only [↓reduceIte, go_sem, Nat.reduceEqDiff, Nat.reduceAdd, Nat.reduceSub, Nat.reduceMul, Nat.reduceLeDiff, Nat.reduceLT, Nat.reduceBEq, Nat.reduceDiv, Nat.reduceMod, Int.reduceLE, Int.reduceLT, Int.reduceEq, Int.reduceBEq, Int.reduceBNe, Int.reduceAdd, Int.reduceSub, Int.reduceNeg, Int.reduceToNat, Int.reduceMul, Int.reducePow, Nat.reducePow, reduceCtorEq, hR, hC, hbr, hbc, w5, w6, open_r, hp, hlt', hz, hd', hdb, hd2, hx0, hxc, hxr, e1, e2, hrc, hrr, (hf p hpm).refs, (hf p hpm).can]
              rw [lpK_go]
              simp +contextual (maxSteps := 10000000) only [↓reduceIte, go_sem, Nat.reduceEqDiff, Nat.reduceAdd, Nat.reduceSub, Nat.reduceMul, Nat.reduceLeDiff, Nat.reduceLT, Nat.reduceBEq, Nat.reduceDiv, Nat.reduceMod, Int.reduceLE, Int.reduceLT, Int.reduceEq, Int.reduceBEq, Int.reduceBNe, Int.reduceAdd, Int.reduceSub, Int.reduceNeg, Int.reduceToNat, Int.reduceMul, Int.reducePow, Nat.reducePow, reduceCtorEq, hR, hC, hbr, hbc, w5, w6, open_r, w7, hrc, hrr, beq_self_eq_true, bne_self_eq_false, Bool.not_true, Bool.not_false, (hf p hpm).refs, (hf p hpm).can]
              rw [lpK_go]
              simp +contextual (maxSteps := 10000000) only [↓reduceIte, go_sem, Nat.reduceEqDiff, Nat.reduceAdd, Nat.reduceSub, Nat.reduceMul, Nat.reduceLeDiff, Nat.reduceLT, Nat.reduceBEq, Nat.reduceDiv, Nat.reduceMod, Int.reduceLE, Int.reduceLT, Int.reduceEq, Int.reduceBEq, Int.reduceBNe, Int.reduceAdd, Int.reduceSub, Int.reduceNeg, Int.reduceToNat, Int.reduceMul, Int.reducePow, Nat.reducePow, reduceCtorEq, hR, hC, hbr, hbc, w5, w6, open_r, w7, hrc, hrr, wrap_i64 (n := (i : Int) + 1) (by omega) (by omega)]
              exact ih _ _ _ (by omega) ⟨i + 1, _, true, (InV.mk id tag s r st x.payload), gcs true (InV.mk id tag s r st x.payload), rfl, rfl, hlt, by show x.payload.size ≤ 4096; omega, fun h => absurd h (by decide), gcs_can _ _, gcs_refs _ _, .inr ⟨rfl, by show 0 < x.payload.size; omega, rfl, rfl⟩⟩
            · have w7 := same_r id tag s r st x.payload (by omega)
              rw [hap] at e1 e2
              simp only [Perf.dP, gcsP, InV.dP, in0, Perf.d, Perf.cs, gRow, gcs, InV.cs, InV.d, bytesD_nil] at e1 e2 w7 hxc
              simp only [fr5, gcsP]
              simp +contextual (maxSteps := 10000000) only [↓reduceIte, go_sem, Nat.reduceEqDiff, Nat.reduceAdd, Nat.reduceSub, Nat.reduceMul, Nat.reduceLeDiff, Nat.reduceLT, Nat.reduceBEq, Nat.reduceDiv, Nat.reduceMod, Int.reduceLE, Int.reduceLT, Int.reduceEq, Int.reduceBEq, Int.reduceBNe, Int.reduceAdd, Int.reduceSub, Int.reduceNeg, Int.reduceToNat, Int.reduceMul, Int.reducePow, Nat.reducePow, reduceCtorEq, hR, hC, hbr, hbc, w5, w6, open_r, hp, hlt', hz, hd', hdb, hd2, hx0, hxc, hxr, e1, e2, (hf p hpm).refs, (hf p hpm).can]
              rw [lpK_go]
              simp +contextual (maxSteps := 10000000) only [↓reduceIte, go_sem, Nat.reduceEqDiff, Nat.reduceAdd, Nat.reduceSub, Nat.reduceMul, Nat.reduceLeDiff, Nat.reduceLT, Nat.reduceBEq, Nat.reduceDiv, Nat.reduceMod, Int.reduceLE, Int.reduceLT, Int.reduceEq, Int.reduceBEq, Int.reduceBNe, Int.reduceAdd, Int.reduceSub, Int.reduceNeg, Int.reduceToNat, Int.reduceMul, Int.reducePow, Nat.reducePow, reduceCtorEq, hR, hC, hbr, hbc, w5, w6, open_r, w7, beq_self_eq_true, bne_self_eq_false, Bool.not_true, Bool.not_false, (hf p hpm).refs, (hf p hpm).can]
              refine lpK_inv (fun m f es => ∃ (k : Nat) (kk : Int) (b : ByteArray), kk = k ∧ b.size = x.payload.size ∧ m = x.payload.size - k ∧ k ≤ x.payload.size ∧ f = [(0, .ro false (l.map Perf.d)), (1, .ro false (dr.map B)), (5, .ptr 0 0 0), (6, .ptr 1 0 0), (7, I i), (9, .ptr 2 0 0), (14, I kk)] ∧ es = [some ⟨0, gcs false in0⟩, some ⟨0, gcs false in0⟩, some ⟨0, ((InV.mk id tag s r st x.payload).dP (.ref 3 0 1 0 x.payload.size)).cells⟩, some ⟨0, bytesD b⟩]) (x.payload.size) ⟨0, _, x.payload, rfl, rfl, rfl, Nat.zero_le _, rfl, rfl⟩ ?_
              rintro m f es ⟨k2, kk2, b2, rfl, hb2, rfl, hk2, rfl, rfl⟩ ih2
              rcases Nat.lt_or_ge k2 (x.payload.size) with hkl2 | hkg2
              · have hkl3 : decide ((k2 : Int) < (x.payload.size : Int)) = true := by simp <;> omega
                have hsb := set_bytesD b2 k2 (by omega)
                have hk1 : k2 + 1 ≤ x.payload.size := hkl2
                have hki : ((k2 : Int) < (x.payload.size : Int)) = True := by simp <;> omega
                simp +contextual (maxSteps := 10000000) only [↓reduceIte, go_sem, Nat.reduceEqDiff, Nat.reduceAdd, Nat.reduceSub, Nat.reduceMul, Nat.reduceLeDiff, Nat.reduceLT, Nat.reduceBEq, Nat.reduceDiv, Nat.reduceMod, Int.reduceLE, Int.reduceLT, Int.reduceEq, Int.reduceBEq, Int.reduceBNe, Int.reduceAdd, Int.reduceSub, Int.reduceNeg, Int.reduceToNat, Int.reduceMul, Int.reducePow, Nat.reducePow, reduceCtorEq, hR, hC, hbr, hbc, hkl3, hki, hb2, hsb, hk1, Nat.mul_one, (hf p hpm).refs, (hf p hpm).can, wrap_i64 (n := (k2 : Int) + 1) (by omega) (by omega)]
                exact ih2 (x.payload.size - (k2 + 1)) _ _ (by omega) ⟨k2 + 1, _, setB b2 k2, rfl, (setB_size b2 k2).trans hb2, rfl, hkl2, rfl, rfl⟩
              clear ih2
              have hkl3 : decide ((k2 : Int) < (x.payload.size : Int)) = false := by simp <;> omega
              simp +contextual (maxSteps := 10000000) only [↓reduceIte, go_sem, Nat.reduceEqDiff, Nat.reduceAdd, Nat.reduceSub, Nat.reduceMul, Nat.reduceLeDiff, Nat.reduceLT, Nat.reduceBEq, Nat.reduceDiv, Nat.reduceMod, Int.reduceLE, Int.reduceLT, Int.reduceEq, Int.reduceBEq, Int.reduceBNe, Int.reduceAdd, Int.reduceSub, Int.reduceNeg, Int.reduceToNat, Int.reduceMul, Int.reducePow, Nat.reducePow, reduceCtorEq, hR, hC, hbr, hbc, hkl3, hb2, (hf p hpm).refs, (hf p hpm).can, wrap_i64 (n := (i : Int) + 1) (by omega) (by omega)]
              exact ih _ _ _ (by omega) ⟨i + 1, _, false, in0, gcs false in0, rfl, rfl, hlt, by decide, fun _ => rfl, gcs_can _ _, gcs_refs _ _, .inl ⟨.ro false [], rfl, rfl, rfl, rfl, rfl⟩⟩
          · have hap : in0.payload ++ p.payload = ⟨#[]⟩ := (bytes_nil hz _).trans rfl
            rcases s1n false in0 p (fun _ => rfl) rfl hz (hf p hpm) with ⟨e1, e2⟩ | ⟨id, tag, n, e1, e2⟩ | ⟨id, tag, s, r, st, row, hs, hrc, hrr, e1, e2⟩ | ⟨id, tag, s, r, st, e1, e2⟩
            · have w7 := same_t 0 ⟨#[]⟩ false false ⟨0, 0, 0, ⟨#[]⟩⟩ ⟨#[]⟩
              have hin : in0.payload.size = 0 := rfl
              simp only [Perf.dP, gcsP, InV.dP, in0, Perf.d, Perf.cs, gRow, gcs, InV.cs, InV.d, bytesD_nil] at e1 e2 w7 hxc
              simp only [fr5, gcsP]
              simp +contextual (maxSteps := 10000000) only [↓reduceIte, go_sem, Nat.reduceEqDiff, Nat.reduceAdd, Nat.reduceSub, Nat.reduceMul, Nat.reduceLeDiff, Nat.reduceLT, Nat.reduceBEq, Nat.reduceDiv, Nat.reduceMod, Int.reduceLE, Int.reduceLT, Int.reduceEq, Int.reduceBEq, Int.reduceBNe, Int.reduceAdd, Int.reduceSub, Int.reduceNeg, Int.reduceToNat, Int.reduceMul, Int.reducePow, Nat.reducePow, reduceCtorEq, hR, hC, hbr, hbc, w5, w6, open_r, hp, hlt', hz, hd', hd2, hdb, drop_w, rdrop_w, drop_rw, hx0, hxc, hxr, e1, e2, (hf p hpm).refs, (hf p hpm).can]
              rw [lpK_go]
              simp +contextual (maxSteps := 10000000) only [↓reduceIte, go_sem, Nat.reduceEqDiff, Nat.reduceAdd, Nat.reduceSub, Nat.reduceMul, Nat.reduceLeDiff, Nat.reduceLT, Nat.reduceBEq, Nat.reduceDiv, Nat.reduceMod, Int.reduceLE, Int.reduceLT, Int.reduceEq, Int.reduceBEq, Int.reduceBNe, Int.reduceAdd, Int.reduceSub, Int.reduceNeg, Int.reduceToNat, Int.reduceMul, Int.reducePow, Nat.reducePow, reduceCtorEq, hR, hC, hbr, hbc, w5, w6, open_r, w7, beq_self_eq_true, bne_self_eq_false, Bool.not_true, Bool.not_false, (hf p hpm).refs, (hf p hpm).can]
              rw [lpK_go]
              simp +contextual (maxSteps := 10000000) only [↓reduceIte, go_sem, Nat.reduceEqDiff, Nat.reduceAdd, Nat.reduceSub, Nat.reduceMul, Nat.reduceLeDiff, Nat.reduceLT, Nat.reduceBEq, Nat.reduceDiv, Nat.reduceMod, Int.reduceLE, Int.reduceLT, Int.reduceEq, Int.reduceBEq, Int.reduceBNe, Int.reduceAdd, Int.reduceSub, Int.reduceNeg, Int.reduceToNat, Int.reduceMul, Int.reducePow, Nat.reducePow, reduceCtorEq, hR, hC, hbr, hbc, w5, w6, open_r, w7, wrap_i64 (n := (i : Int) + 1) (by omega) (by omega)]
              exact ih _ _ _ (by omega) ⟨i + 1, _, false, in0, gcs false in0, rfl, rfl, hlt, by decide, fun _ => rfl, gcs_can _ _, gcs_refs _ _, .inl ⟨.ro false [], rfl, rfl, rfl, rfl, rfl⟩⟩
            · have w7 := same_t id tag false false ⟨0, 0, 0, ⟨#[]⟩⟩ ⟨#[]⟩
              have hin : in0.payload.size = 0 := rfl
              simp only [Perf.dP, gcsP, InV.dP, in0, Perf.d, Perf.cs, gRow, gcs, InV.cs, InV.d, bytesD_nil] at e1 e2 w7 hxc
              simp only [fr5, gcsP]
              simp +contextual (maxSteps := 10000000) only [↓reduceIte, go_sem, Nat.reduceEqDiff, Nat.reduceAdd, Nat.reduceSub, Nat.reduceMul, Nat.reduceLeDiff, Nat.reduceLT, Nat.reduceBEq, Nat.reduceDiv, Nat.reduceMod, Int.reduceLE, Int.reduceLT, Int.reduceEq, Int.reduceBEq, Int.reduceBNe, Int.reduceAdd, Int.reduceSub, Int.reduceNeg, Int.reduceToNat, Int.reduceMul, Int.reducePow, Nat.reducePow, reduceCtorEq, hR, hC, hbr, hbc, w5, w6, open_r, hp, hlt', hz, hd', hd2, hdb, drop_w, rdrop_w, drop_rw, hx0, hxc, hxr, e1, e2, (hf p hpm).refs, (hf p hpm).can]
              rw [lpK_go]
              simp +contextual (maxSteps := 10000000) only [↓reduceIte, go_sem, Nat.reduceEqDiff, Nat.reduceAdd, Nat.reduceSub, Nat.reduceMul, Nat.reduceLeDiff, Nat.reduceLT, Nat.reduceBEq, Nat.reduceDiv, Nat.reduceMod, Int.reduceLE, Int.reduceLT, Int.reduceEq, Int.reduceBEq, Int.reduceBNe, Int.reduceAdd, Int.reduceSub, Int.reduceNeg, Int.reduceToNat, Int.reduceMul, Int.reducePow, Nat.reducePow, reduceCtorEq, hR, hC, hbr, hbc, w5, w6, open_r, w7, beq_self_eq_true, bne_self_eq_false, Bool.not_true, Bool.not_false, (hf p hpm).refs, (hf p hpm).can]
              rw [lpK_go]
              simp +contextual (maxSteps := 10000000) only [↓reduceIte, go_sem, Nat.reduceEqDiff, Nat.reduceAdd, Nat.reduceSub, Nat.reduceMul, Nat.reduceLeDiff, Nat.reduceLT, Nat.reduceBEq, Nat.reduceDiv, Nat.reduceMod, Int.reduceLE, Int.reduceLT, Int.reduceEq, Int.reduceBEq, Int.reduceBNe, Int.reduceAdd, Int.reduceSub, Int.reduceNeg, Int.reduceToNat, Int.reduceMul, Int.reducePow, Nat.reducePow, reduceCtorEq, hR, hC, hbr, hbc, w5, w6, open_r, w7, wrap_i64 (n := (i : Int) + 1) (by omega) (by omega)]
              exact ih _ _ _ (by omega) ⟨i + 1, _, false, in0, gcs false in0, rfl, rfl, hlt, by decide, fun _ => rfl, gcs_can _ _, gcs_refs _ _, .inl ⟨.ro false [], rfl, rfl, rfl, rfl, rfl⟩⟩
            · have w7 := same_t 0 ⟨#[]⟩ false false ⟨0, 0, 0, ⟨#[]⟩⟩ ⟨#[]⟩
              have hin : in0.payload.size = 0 := rfl
              rw [hap] at hrc e1
              simp only [Perf.dP, gcsP, InV.dP, in0, Perf.d, Perf.cs, gRow, gcs, InV.cs, InV.d, bytesD_nil] at e1 e2 w7 hxc hrc
              simp only [fr5, gcsP]
              simp +contextual (maxSteps := 10000000) only [↓reduceIte, go_sem, Nat.reduceEqDiff, Nat.reduceAdd, Nat.reduceSub, Nat.reduceMul, Nat.reduceLeDiff, Nat.reduceLT, Nat.reduceBEq, Nat.reduceDiv, Nat.reduceMod, Int.reduceLE, Int.reduceLT, Int.reduceEq, Int.reduceBEq, Int.reduceBNe, Int.reduceAdd, Int.reduceSub, Int.reduceNeg, Int.reduceToNat, Int.reduceMul, Int.reducePow, Nat.reducePow, reduceCtorEq, hR, hC, hbr, hbc, w5, w6, open_r, hp, hlt', hz, hd', hd2, hdb, drop_w, rdrop_w, drop_rw, hx0, hxc, hxr, e1, e2, hrc, hrr, (hf p hpm).refs, (hf p hpm).can]
              rw [lpK_go]
              simp +contextual (maxSteps := 10000000) only [↓reduceIte, go_sem, Nat.reduceEqDiff, Nat.reduceAdd, Nat.reduceSub, Nat.reduceMul, Nat.reduceLeDiff, Nat.reduceLT, Nat.reduceBEq, Nat.reduceDiv, Nat.reduceMod, Int.reduceLE, Int.reduceLT, Int.reduceEq, Int.reduceBEq, Int.reduceBNe, Int.reduceAdd, Int.reduceSub, Int.reduceNeg, Int.reduceToNat, Int.reduceMul, Int.reducePow, Nat.reducePow, reduceCtorEq, hR, hC, hbr, hbc, w5, w6, open_r, w7, hrc, hrr, beq_self_eq_true, bne_self_eq_false, Bool.not_true, Bool.not_false, (hf p hpm).refs, (hf p hpm).can]
              rw [lpK_go]
              simp +contextual (maxSteps := 10000000) only [↓reduceIte, go_sem, Nat.reduceEqDiff, Nat.reduceAdd, Nat.reduceSub, Nat.reduceMul, Nat.reduceLeDiff, Nat.reduceLT, Nat.reduceBEq, Nat.reduceDiv, Nat.reduceMod, Int.reduceLE, Int.reduceLT, Int.reduceEq, Int.reduceBEq, Int.reduceBNe, Int.reduceAdd, Int.reduceSub, Int.reduceNeg, Int.reduceToNat, Int.reduceMul, Int.reducePow, Nat.reducePow, reduceCtorEq, hR, hC, hbr, hbc, w5, w6, open_r, w7, hrc, hrr, wrap_i64 (n := (i : Int) + 1) (by omega) (by omega)]
              exact ih _ _ _ (by omega) ⟨i + 1, _, true, (InV.mk id tag s r st ⟨#[]⟩), gcs true (InV.mk id tag s r st ⟨#[]⟩), rfl, rfl, hlt, Nat.zero_le _, fun h => absurd h (by decide), gcs_can _ _, gcs_refs _ _, .inl ⟨.ro false [], rfl, rfl, rfl, rfl, rfl⟩⟩
            · have w7 := same_t id tag s r st ⟨#[]⟩
              have hin : in0.payload.size = 0 := rfl
              rw [hap] at e1 e2
              simp only [Perf.dP, gcsP, InV.dP, in0, Perf.d, Perf.cs, gRow, gcs, InV.cs, InV.d, bytesD_nil] at e1 e2 w7 hxc
              simp only [fr5, gcsP]
              simp +contextual (maxSteps := 10000000) only [↓reduceIte, go_sem, Nat.reduceEqDiff, Nat.reduceAdd, Nat.reduceSub, Nat.reduceMul, Nat.reduceLeDiff, Nat.reduceLT, Nat.reduceBEq, Nat.reduceDiv, Nat.reduceMod, Int.reduceLE, Int.reduceLT, Int.reduceEq, Int.reduceBEq, Int.reduceBNe, Int.reduceAdd, Int.reduceSub, Int.reduceNeg, Int.reduceToNat, Int.reduceMul, Int.reducePow, Nat.reducePow, reduceCtorEq, hR, hC, hbr, hbc, w5, w6, open_r, hp, hlt', hz, hd', hd2, hdb, drop_w, rdrop_w, drop_rw, hx0, hxc, hxr, e1, e2, (hf p hpm).refs, (hf p hpm).can]
              rw [lpK_go]
              simp +contextual (maxSteps := 10000000) only [↓reduceIte, go_sem, Nat.reduceEqDiff, Nat.reduceAdd, Nat.reduceSub, Nat.reduceMul, Nat.reduceLeDiff, Nat.reduceLT, Nat.reduceBEq, Nat.reduceDiv, Nat.reduceMod, Int.reduceLE, Int.reduceLT, Int.reduceEq, Int.reduceBEq, Int.reduceBNe, Int.reduceAdd, Int.reduceSub, Int.reduceNeg, Int.reduceToNat, Int.reduceMul, Int.reducePow, Nat.reducePow, reduceCtorEq, hR, hC, hbr, hbc, w5, w6, open_r, w7, beq_self_eq_true, bne_self_eq_false, Bool.not_true, Bool.not_false, (hf p hpm).refs, (hf p hpm).can]
              rw [lpK_go]
              simp +contextual (maxSteps := 10000000) only [↓reduceIte, go_sem, Nat.reduceEqDiff, Nat.reduceAdd, Nat.reduceSub, Nat.reduceMul, Nat.reduceLeDiff, Nat.reduceLT, Nat.reduceBEq, Nat.reduceDiv, Nat.reduceMod, Int.reduceLE, Int.reduceLT, Int.reduceEq, Int.reduceBEq, Int.reduceBNe, Int.reduceAdd, Int.reduceSub, Int.reduceNeg, Int.reduceToNat, Int.reduceMul, Int.reducePow, Nat.reducePow, reduceCtorEq, hR, hC, hbr, hbc, w5, w6, open_r, w7, wrap_i64 (n := (i : Int) + 1) (by omega) (by omega)]
              exact ih _ _ _ (by omega) ⟨i + 1, _, false, in0, gcs false in0, rfl, rfl, hlt, by decide, fun _ => rfl, gcs_can _ _, gcs_refs _ _, .inl ⟨.ro false [], rfl, rfl, rfl, rfl, rfl⟩⟩
        · have hd' : decide ((i : Int) < dr.length) = false := by simpa using hd
          have hap : x.payload ++ p.payload = x.payload := bytes_nil hz _
          rcases s2n x p (by omega) hx0 hz (hf p hpm) with ⟨e1, e2⟩ | ⟨id, tag, n, e1, e2⟩ | ⟨id, tag, s, r, st, row, hs, hrc, hrr, e1, e2⟩ | ⟨id, tag, s, r, st, e1, e2⟩
          · have w7 := same_t 0 ⟨#[]⟩ false false ⟨0, 0, 0, ⟨#[]⟩⟩ ⟨#[]⟩
            simp only [Perf.dP, gcsP, InV.dP, in0, Perf.d, Perf.cs, gRow, gcs, InV.cs, InV.d, bytesD_nil] at e1 e2 w7 hxc
            simp only [fr5, gcsP]
            simp +contextual (maxSteps := 10000000) only [↓reduceIte, go_sem, Nat.reduceEqDiff, Nat.reduceAdd, Nat.reduceSub, Nat.reduceMul, Nat.reduceLeDiff, Nat.reduceLT, Nat.reduceBEq, Nat.reduceDiv, Nat.reduceMod, Int.reduceLE, Int.reduceLT, Int.reduceEq, Int.reduceBEq, Int.reduceBNe, Int.reduceAdd, Int.reduceSub, Int.reduceNeg, Int.reduceToNat, Int.reduceMul, Int.reducePow, Nat.reducePow, reduceCtorEq, hR, hC, hbr, hbc, w5, w6, open_r, hp, hlt', hz, hd', hx0, hxc, hxr, e1, e2, (hf p hpm).refs, (hf p hpm).can]
            rw [lpK_go]
            simp +contextual (maxSteps := 10000000) only [↓reduceIte, go_sem, Nat.reduceEqDiff, Nat.reduceAdd, Nat.reduceSub, Nat.reduceMul, Nat.reduceLeDiff, Nat.reduceLT, Nat.reduceBEq, Nat.reduceDiv, Nat.reduceMod, Int.reduceLE, Int.reduceLT, Int.reduceEq, Int.reduceBEq, Int.reduceBNe, Int.reduceAdd, Int.reduceSub, Int.reduceNeg, Int.reduceToNat, Int.reduceMul, Int.reducePow, Nat.reducePow, reduceCtorEq, hR, hC, hbr, hbc, w5, w6, open_r, w7, beq_self_eq_true, bne_self_eq_false, Bool.not_true, Bool.not_false, (hf p hpm).refs, (hf p hpm).can]
            rw [lpK_go]
            simp +contextual (maxSteps := 10000000) only [↓reduceIte, go_sem, Nat.reduceEqDiff, Nat.reduceAdd, Nat.reduceSub, Nat.reduceMul, Nat.reduceLeDiff, Nat.reduceLT, Nat.reduceBEq, Nat.reduceDiv, Nat.reduceMod, Int.reduceLE, Int.reduceLT, Int.reduceEq, Int.reduceBEq, Int.reduceBNe, Int.reduceAdd, Int.reduceSub, Int.reduceNeg, Int.reduceToNat, Int.reduceMul, Int.reducePow, Nat.reducePow, reduceCtorEq, hR, hC, hbr, hbc, w5, w6, open_r, w7, wrap_i64 (n := (i : Int) + 1) (by omega) (by omega)]
            exact ih _ _ _ (by omega) ⟨i + 1, _, true, x, gcs true x, rfl, rfl, hlt, hxs, fun h => absurd h (by decide), gcs_can _ _, gcs_refs _ _, .inr ⟨rfl, hx0, rfl, rfl⟩⟩
          · have w7 := same_t id tag false false ⟨0, 0, 0, ⟨#[]⟩⟩ ⟨#[]⟩
            simp only [Perf.dP, gcsP, InV.dP, in0, Perf.d, Perf.cs, gRow, gcs, InV.cs, InV.d, bytesD_nil] at e1 e2 w7 hxc
            simp only [fr5, gcsP]
            simp +contextual (maxSteps := 10000000) only [↓reduceIte, go_sem, Nat.reduceEqDiff, Nat.reduceAdd, Nat.reduceSub, Nat.reduceMul, Nat.reduceLeDiff, Nat.reduceLT, Nat.reduceBEq, Nat.reduceDiv, Nat.reduceMod, Int.reduceLE, Int.reduceLT, Int.reduceEq, Int.reduceBEq, Int.reduceBNe, Int.reduceAdd, Int.reduceSub, Int.reduceNeg, Int.reduceToNat, Int.reduceMul, Int.reducePow, Nat.reducePow, reduceCtorEq, hR, hC, hbr, hbc, w5, w6, open_r, hp, hlt', hz, hd', hx0, hxc, hxr, e1, e2, (hf p hpm).refs, (hf p hpm).can]
            rw [lpK_go]
            simp +contextual (maxSteps := 10000000) only [↓reduceIte, go_sem, Nat.reduceEqDiff, Nat.reduceAdd, Nat.reduceSub, Nat.reduceMul, Nat.reduceLeDiff, Nat.reduceLT, Nat.reduceBEq, Nat.reduceDiv, Nat.reduceMod, Int.reduceLE, Int.reduceLT, Int.reduceEq, Int.reduceBEq, Int.reduceBNe, Int.reduceAdd, Int.reduceSub, Int.reduceNeg, Int.reduceToNat, Int.reduceMul, Int.reducePow, Nat.reducePow, reduceCtorEq, hR, hC, hbr, hbc, w5, w6, open_r, w7, beq_self_eq_true, bne_self_eq_false, Bool.not_true, Bool.not_false, (hf p hpm).refs, (hf p hpm).can]
            rw [lpK_go]
            simp +contextual (maxSteps := 10000000) only [↓reduceIte, go_sem, Nat.reduceEqDiff, Nat.reduceAdd, Nat.reduceSub, Nat.reduceMul, Nat.reduceLeDiff, Nat.reduceLT, Nat.reduceBEq, Nat.reduceDiv, Nat.reduceMod, Int.reduceLE, Int.reduceLT, Int.reduceEq, Int.reduceBEq, Int.reduceBNe, Int.reduceAdd, Int.reduceSub, Int.reduceNeg, Int.reduceToNat, Int.reduceMul, Int.reducePow, Nat.reducePow, reduceCtorEq, hR, hC, hbr, hbc, w5, w6, open_r, w7, wrap_i64 (n := (i : Int) + 1) (by omega) (by omega)]
            exact ih _ _ _ (by omega) ⟨i + 1, _, false, in0, gcs false in0, rfl, rfl, hlt, by decide, fun _ => rfl, gcs_can _ _, gcs_refs _ _, .inl ⟨.ro false [], rfl, rfl, rfl, rfl, rfl⟩⟩
          · have w7 := same_t 0 ⟨#[]⟩ false false ⟨0, 0, 0, ⟨#[]⟩⟩ ⟨#[]⟩
            rw [hap] at hrc e1
            simp only [Perf.dP, gcsP, InV.dP, in0, Perf.d, Perf.cs, gRow, gcs, InV.cs, InV.d, bytesD_nil] at e1 e2 w7 hxc hrc
            simp only [fr5, gcsP]
            simp +contextual (maxSteps := 10000000) only [↓reduceIte, go_sem, Nat.reduceEqDiff, Nat.reduceAdd, Nat.reduceSub, Nat.reduceMul, Nat.reduceLeDiff, Nat.reduceLT, Nat.reduceBEq, Nat.reduceDiv, Nat.reduceMod, Int.reduceLE, Int.reduceLT, Int.reduceEq, Int.reduceBEq, Int.reduceBNe, Int.reduceAdd, Int.reduceSub, Int.reduceNeg, Int.reduceToNat, Int.reduceMul, Int.reducePow, Nat.reducePow, reduceCtorEq, hR, hC, hbr, hbc, w5, w6, open_r, hp, hlt', hz, hd', hx0, hxc, hxr, e1, e2, hrc, hrr, (hf p hpm).refs, (hf p hpm).can]
            rw [lpK_go]
            simp +contextual (maxSteps := 10000000) only [↓reduceIte, go_sem, Nat.reduceEqDiff, Nat.reduceAdd, Nat.reduceSub, Nat.reduceMul, Nat.reduceLeDiff, Nat.reduceLT, Nat.reduceBEq, Nat.reduceDiv, Nat.reduceMod, Int.reduceLE, Int.reduceLT, Int.reduceEq, Int.reduceBEq, Int.reduceBNe, Int.reduceAdd, Int.reduceSub, Int.reduceNeg, Int.reduceToNat, Int.reduceMul, Int.reducePow, Nat.reducePow, reduceCtorEq, hR, hC, hbr, hbc, w5, w6, open_r, w7, hrc, hrr, beq_self_eq_true, bne_self_eq_false, Bool.not_true, Bool.not_false, (hf p hpm).refs, (hf p hpm).can]
            rw [lpK_go]
            simp +contextual (maxSteps := 10000000) only [↓reduceIte, go_sem, Nat.reduceEqDiff, Nat.reduceAdd, Nat.reduceSub, Nat.reduceMul, Nat.reduceLeDiff, Nat.reduceLT, Nat.reduceBEq, Nat.reduceDiv, Nat.reduceMod, Int.reduceLE, Int.reduceLT, Int.reduceEq, Int.reduceBEq, Int.reduceBNe, Int.reduceAdd, Int.reduceSub, Int.reduceNeg, Int.reduceToNat, Int.reduceMul, Int.reducePow, Nat.reducePow, reduceCtorEq, hR, hC, hbr, hbc, w5, w6, open_r, w7, hrc, hrr, wrap_i64 (n := (i : Int) + 1) (by omega) (by omega)]
            exact ih _ _ _ (by omega) ⟨i + 1, _, true, (InV.mk id tag s r st x.payload), gcs true (InV.mk id tag s r st x.payload), rfl, rfl, hlt, by show x.payload.size ≤ 4096; omega, fun h => absurd h (by decide), gcs_can _ _, gcs_refs _ _, .inr ⟨rfl, by show 0 < x.payload.size; omega, rfl, rfl⟩⟩
          · have w7 := same_r id tag s r st x.payload (by omega)
            rw [hap] at e1 e2
            simp only [Perf.dP, gcsP, InV.dP, in0, Perf.d, Perf.cs, gRow, gcs, InV.cs, InV.d, bytesD_nil] at e1 e2 w7 hxc
            simp only [fr5, gcsP]
            simp +contextual (maxSteps := 10000000) only [↓reduceIte, go_sem, Nat.reduceEqDiff, Nat.reduceAdd, Nat.reduceSub, Nat.reduceMul, Nat.reduceLeDiff, Nat.reduceLT, Nat.reduceBEq, Nat.reduceDiv, Nat.reduceMod, Int.reduceLE, Int.reduceLT, Int.reduceEq, Int.reduceBEq, Int.reduceBNe, Int.reduceAdd, Int.reduceSub, Int.reduceNeg, Int.reduceToNat, Int.reduceMul, Int.reducePow, Nat.reducePow, reduceCtorEq, hR, hC, hbr, hbc, w5, w6, open_r, hp, hlt', hz, hd', hx0, hxc, hxr, e1, e2, (hf p hpm).refs, (hf p hpm).can]
            rw [lpK_go]
            simp +contextual (maxSteps := 10000000) only [↓reduceIte, go_sem, Nat.reduceEqDiff, Nat.reduceAdd, Nat.reduceSub, Nat.reduceMul, Nat.reduceLeDiff, Nat.reduceLT, Nat.reduceBEq, Nat.reduceDiv, Nat.reduceMod, Int.reduceLE, Int.reduceLT, Int.reduceEq, Int.reduceBEq, Int.reduceBNe, Int.reduceAdd, Int.reduceSub, Int.reduceNeg, Int.reduceToNat, Int.reduceMul, Int.reducePow, Nat.reducePow, reduceCtorEq, hR, hC, hbr, hbc, w5, w6, open_r, w7, beq_self_eq_true, bne_self_eq_false, Bool.not_true, Bool.not_false, (hf p hpm).refs, (hf p hpm).can]
            refine lpK_inv (fun m f es => ∃ (k : Nat) (kk : Int) (b : ByteArray), kk = k ∧ b.size = x.payload.size ∧ m = x.payload.size - k ∧ k ≤ x.payload.size ∧ f = [(0, .ro false (l.map Perf.d)), (1, .ro false (dr.map B)), (5, .ptr 0 0 0), (6, .ptr 1 0 0), (7, I i), (9, .ptr 2 0 0), (14, I kk)] ∧ es = [some ⟨0, gcs false in0⟩, some ⟨0, gcs false in0⟩, some ⟨0, ((InV.mk id tag s r st x.payload).dP (.ref 3 0 1 0 x.payload.size)).cells⟩, some ⟨0, bytesD b⟩]) (x.payload.size) ⟨0, _, x.payload, rfl, rfl, rfl, Nat.zero_le _, rfl, rfl⟩ ?_
            rintro m f es ⟨k2, kk2, b2, rfl, hb2, rfl, hk2, rfl, rfl⟩ ih2
            rcases Nat.lt_or_ge k2 (x.payload.size) with hkl2 | hkg2
            · have hkl3 : decide ((k2 : Int) < (x.payload.size : Int)) = true := by simp <;> omega
              have hsb := set_bytesD b2 k2 (by omega)
              have hk1 : k2 + 1 ≤ x.payload.size := hkl2
              have hki : ((k2 : Int) < (x.payload.size : Int)) = True := by simp <;> omega
              simp +contextual (maxSteps := 10000000) only [↓reduceIte, go_sem, Nat.reduceEqDiff, Nat.reduceAdd, Nat.reduceSub, Nat.reduceMul, Nat.reduceLeDiff, Nat.reduceLT, Nat.reduceBEq, Nat.reduceDiv, Nat.reduceMod, Int.reduceLE, Int.reduceLT, Int.reduceEq, Int.reduceBEq, Int.reduceBNe, Int.reduceAdd, Int.reduceSub, Int.reduceNeg, Int.reduceToNat, Int.reduceMul, Int.reducePow, Nat.reducePow, reduceCtorEq, hR, hC, hbr, hbc, hkl3, hki, hb2, hsb, hk1, Nat.mul_one, (hf p hpm).refs, (hf p hpm).can, wrap_i64 (n := (k2 : Int) + 1) (by omega) (by omega)]
              exact ih2 (x.payload.size - (k2 + 1)) _ _ (by omega) ⟨k2 + 1, _, setB b2 k2, rfl, (setB_size b2 k2).trans hb2, rfl, hkl2, rfl, rfl⟩
            clear ih2
            have hkl3 : decide ((k2 : Int) < (x.payload.size : Int)) = false := by simp <;> omega
            simp +contextual (maxSteps := 10000000) only [↓reduceIte, go_sem, Nat.reduceEqDiff, Nat.reduceAdd, Nat.reduceSub, Nat.reduceMul, Nat.reduceLeDiff, Nat.reduceLT, Nat.reduceBEq, Nat.reduceDiv, Nat.reduceMod, Int.reduceLE, Int.reduceLT, Int.reduceEq, Int.reduceBEq, Int.reduceBNe, Int.reduceAdd, Int.reduceSub, Int.reduceNeg, Int.reduceToNat, Int.reduceMul, Int.reducePow, Nat.reducePow, reduceCtorEq, hR, hC, hbr, hbc, hkl3, hb2, (hf p hpm).refs, (hf p hpm).can, wrap_i64 (n := (i : Int) + 1) (by omega) (by omega)]
            exact ih _ _ _ (by omega) ⟨i + 1, _, false, in0, gcs false in0, rfl, rfl, hlt, by decide, fun _ => rfl, gcs_can _ _, gcs_refs _ _, .inl ⟨.ro false [], rfl, rfl, rfl, rfl, rfl⟩⟩
    · have hbd : p.payload.size ≤ 140737488355328 := by omega
      rcases hcase with ⟨gd, hg1, hg2, hx0, rfl, rfl⟩ | ⟨rfl, hx0, rfl, rfl⟩
      · rcases Nat.lt_or_ge i dr.length with hd | hd
        · obtain ⟨b, hdb⟩ := get_lt hd
          have hd' : decide ((i : Int) < dr.length) = true := by simpa using hd
          have hd2 : (i : Int) < dr.length := by omega
          cases b
          · have hap : x.payload ++ p.payload = p.payload := by rw [bytes_empty hx0, nil_bytes]
            rcases s1r o x p ho hx0 hps (by omega) (hf p hpm) with ⟨e1, e2⟩ | ⟨id, tag, n, e1, e2⟩ | ⟨id, tag, s, r, st, row, hs, hrc, hrr, e1, e2⟩ | ⟨id, tag, s, r, st, e1, e2⟩
            · have w7 := same_t 0 ⟨#[]⟩ false false ⟨0, 0, 0, ⟨#[]⟩⟩ ⟨#[]⟩
              simp only [Perf.dP, gcsP, InV.dP, in0, Perf.d, Perf.cs, gRow, gcs, InV.cs, InV.d, bytesD_nil] at e1 e2 w7 hxc
              simp only [fr5, gcsP]
              simp +contextual (maxSteps := 10000000) only [↓reduceIte, go_sem, Nat.reduceEqDiff, Nat.reduceAdd, Nat.reduceSub, Nat.reduceMul, Nat.reduceLeDiff, Nat.reduceLT, Nat.reduceBEq, Nat.reduceDiv, Nat.reduceMod, Int.reduceLE, Int.reduceLT, Int.reduceEq, Int.reduceBEq, Int.reduceBNe, Int.reduceAdd, Int.reduceSub, Int.reduceNeg, Int.reduceToNat, Int.reduceMul, Int.reducePow, Nat.reducePow, reduceCtorEq, hR, hC, hbr, hbc, w5, w6, open_r, hp, hlt', hz, hbd, hd', hdb, hd2, hg1, hg2, hx0, hxc, hxr, e1, e2, (hf p hpm).refs, (hf p hpm).can]
              refine lpK_inv (fun m f es => ∃ (k : Nat) (kk : Int) (b : ByteArray), kk = k ∧ b.size = p.payload.size ∧ m = p.payload.size - k ∧ k ≤ p.payload.size ∧ f = [(0, .ro false (l.map Perf.d)), (1, .ro false (dr.map B)), (5, .ptr 0 0 0), (6, .ptr 1 0 0), (7, I i), (8, .ptr 2 0 0), (9, .ptr 4 0 0), (10, I 3), (11, .ptr 5 0 0), (12, I 3), (13, I kk)] ∧ es = [some ⟨0, gcsP o x (.ro false [])⟩, some ⟨0, gcs o x⟩, some ⟨0, (p.dP (.ref 3 0 1 0 p.payload.size)).cells⟩, some ⟨0, bytesD b⟩, some ⟨0, (in0.dP .nils).cells⟩, some ⟨0, in0.d.cells⟩]) p.payload.size ⟨0, _, p.payload, rfl, rfl, rfl, Nat.zero_le _, rfl, rfl⟩ ?_
              clear e1 e2
              rintro m f es ⟨k, kk, b, rfl, hs2, rfl, hk, rfl, rfl⟩ ih2
              rcases Nat.lt_or_ge k p.payload.size with hkl | hkg
              · have hkl' : decide ((k : Int) < p.payload.size) = true := by simpa using hkl
                have hsb := set_bytesD b k (by omega)
                have hk1 : k + 1 ≤ p.payload.size := hkl
                have hki : ((k : Int) < p.payload.size) = True := by simpa using hkl
                simp +contextual (maxSteps := 10000000) only [↓reduceIte, go_sem, Nat.reduceEqDiff, Nat.reduceAdd, Nat.reduceSub, Nat.reduceMul, Nat.reduceLeDiff, Nat.reduceLT, Nat.reduceBEq, Nat.reduceDiv, Nat.reduceMod, Int.reduceLE, Int.reduceLT, Int.reduceEq, Int.reduceBEq, Int.reduceBNe, Int.reduceAdd, Int.reduceSub, Int.reduceNeg, Int.reduceToNat, Int.reduceMul, Int.reducePow, Nat.reducePow, reduceCtorEq, hR, hC, hbr, hbc, hkl', hki, hs2, hsb, hk1, Nat.mul_one, (hf p hpm).refs, (hf p hpm).can, wrap_i64 (n := (k : Int) + 1) (by omega) (by omega)]
                exact ih2 (p.payload.size - (k + 1)) _ _ (by omega) ⟨k + 1, _, setB b k, rfl, (setB_size b k).trans hs2, rfl, hkl, rfl, rfl⟩
              clear ih2
              have hkl' : decide ((k : Int) < p.payload.size) = false := by simpa using hkg
              simp +contextual (maxSteps := 10000000) only [↓reduceIte, go_sem, Nat.reduceEqDiff, Nat.reduceAdd, Nat.reduceSub, Nat.reduceMul, Nat.reduceLeDiff, Nat.reduceLT, Nat.reduceBEq, Nat.reduceDiv, Nat.reduceMod, Int.reduceLE, Int.reduceLT, Int.reduceEq, Int.reduceBEq, Int.reduceBNe, Int.reduceAdd, Int.reduceSub, Int.reduceNeg, Int.reduceToNat, Int.reduceMul, Int.reducePow, Nat.reducePow, reduceCtorEq, hR, hC, hbr, hbc, w5, w6, open_r, w7, hkl', hs2, beq_self_eq_true, bne_self_eq_false, Bool.not_true, Bool.not_false, (hf p hpm).refs, (hf p hpm).can]
              rw [lpK_go]
              simp +contextual (maxSteps := 10000000) only [↓reduceIte, go_sem, Nat.reduceEqDiff, Nat.reduceAdd, Nat.reduceSub, Nat.reduceMul, Nat.reduceLeDiff, Nat.reduceLT, Nat.reduceBEq, Nat.reduceDiv, Nat.reduceMod, Int.reduceLE, Int.reduceLT, Int.reduceEq, Int.reduceBEq, Int.reduceBNe, Int.reduceAdd, Int.reduceSub, Int.reduceNeg, Int.reduceToNat, Int.reduceMul, Int.reducePow, Nat.reducePow, reduceCtorEq, hR, hC, hbr, hbc, w5, w6, open_r, w7, hkl', hs2, wrap_i64 (n := (i : Int) + 1) (by omega) (by omega)]
              exact ih _ _ _ (by omega) ⟨i + 1, _, o, x, gcs o x, rfl, rfl, hlt, hxs, ho, gcs_can o x, gcs_refs o x, .inl ⟨.ro false [], rfl, rfl, hx0, rfl, rfl⟩⟩
            · have w7 := same_t id tag false false ⟨0, 0, 0, ⟨#[]⟩⟩ ⟨#[]⟩
              simp only [Perf.dP, gcsP, InV.dP, in0, Perf.d, Perf.cs, gRow, gcs, InV.cs, InV.d, bytesD_nil] at e1 e2 w7 hxc
              simp only [fr5, gcsP]
              simp +contextual (maxSteps := 10000000) only [↓reduceIte, go_sem, Nat.reduceEqDiff, Nat.reduceAdd, Nat.reduceSub, Nat.reduceMul, Nat.reduceLeDiff, Nat.reduceLT, Nat.reduceBEq, Nat.reduceDiv, Nat.reduceMod, Int.reduceLE, Int.reduceLT, Int.reduceEq, Int.reduceBEq, Int.reduceBNe, Int.reduceAdd, Int.reduceSub, Int.reduceNeg, Int.reduceToNat, Int.reduceMul, Int.reducePow, Nat.reducePow, reduceCtorEq, hR, hC, hbr, hbc, w5, w6, open_r, hp, hlt', hz, hbd, hd', hdb, hd2, hg1, hg2, hx0, hxc, hxr, e1, e2, (hf p hpm).refs, (hf p hpm).can]
              refine lpK_inv (fun m f es => ∃ (k : Nat) (kk : Int) (b : ByteArray), kk = k ∧ b.size = p.payload.size ∧ m = p.payload.size - k ∧ k ≤ p.payload.size ∧ f = [(0, .ro false (l.map Perf.d)), (1, .ro false (dr.map B)), (5, .ptr 0 0 0), (6, .ptr 1 0 0), (7, I i), (8, .ptr 2 0 0), (9, .ptr 4 0 0), (10, I n), (11, .ptr 5 0 0), (12, I n), (13, I kk)] ∧ es = [some ⟨0, gz⟩, some ⟨0, gz⟩, some ⟨0, (p.dP (.ref 3 0 1 0 p.payload.size)).cells⟩, some ⟨0, bytesD b⟩, some ⟨0, ((InV.mk id tag false false ⟨0, 0, 0, ⟨#[]⟩⟩ ⟨#[]⟩).dP .nils).cells⟩, some ⟨0, (InV.mk id tag false false ⟨0, 0, 0, ⟨#[]⟩⟩ ⟨#[]⟩).d.cells⟩]) p.payload.size ⟨0, _, p.payload, rfl, rfl, rfl, Nat.zero_le _, rfl, rfl⟩ ?_
              clear e1 e2
              rintro m f es ⟨k, kk, b, rfl, hs2, rfl, hk, rfl, rfl⟩ ih2
              rcases Nat.lt_or_ge k p.payload.size with hkl | hkg
              · have hkl' : decide ((k : Int) < p.payload.size) = true := by simpa using hkl
                have hsb := set_bytesD b k (by omega)
                have hk1 : k + 1 ≤ p.payload.size := hkl
                have hki : ((k : Int) < p.payload.size) = True := by simpa using hkl
                simp +contextual (maxSteps := 10000000) only [↓reduceIte, go_sem, Nat.reduceEqDiff, Nat.reduceAdd, Nat.reduceSub, Nat.reduceMul, Nat.reduceLeDiff, Nat.reduceLT, Nat.reduceBEq, Nat.reduceDiv, Nat.reduceMod, Int.reduceLE, Int.reduceLT, Int.reduceEq, Int.reduceBEq, Int.reduceBNe, Int.reduceAdd, Int.reduceSub, Int.reduceNeg, Int.reduceToNat, Int.reduceMul, Int.reducePow, Nat.reducePow, reduceCtorEq, hR, hC, hbr, hbc, hkl', hki, hs2, hsb, hk1, Nat.mul_one, (hf p hpm).refs, (hf p hpm).can, wrap_i64 (n := (k : Int) + 1) (by omega) (by omega)]
                exact ih2 (p.payload.size - (k + 1)) _ _ (by omega) ⟨k + 1, _, setB b k, rfl, (setB_size b k).trans hs2, rfl, hkl, rfl, rfl⟩
              clear ih2
              have hkl' : decide ((k : Int) < p.payload.size) = false := by simpa using hkg
              simp +contextual (maxSteps := 10000000) only [↓reduceIte, go_sem, Nat.reduceEqDiff, Nat.reduceAdd, Nat.reduceSub, Nat.reduceMul, Nat.reduceLeDiff, Nat.reduceLT, Nat.reduceBEq, Nat.reduceDiv, Nat.reduceMod, Int.reduceLE, Int.reduceLT, Int.reduceEq, Int.reduceBEq, Int.reduceBNe, Int.reduceAdd, Int.reduceSub, Int.reduceNeg, Int.reduceToNat, Int.reduceMul, Int.reducePow, Nat.reducePow, reduceCtorEq, hR, hC, hbr, hbc, w5, w6, open_r, w7, hkl', hs2, beq_self_eq_true, bne_self_eq_false, Bool.not_true, Bool.not_false, (hf p hpm).refs, (hf p hpm).can]
              rw [lpK_go]
              simp +contextual (maxSteps := 10000000) only [↓reduceIte, go_sem, Nat.reduceEqDiff, Nat.reduceAdd, Nat.reduceSub, Nat.reduceMul, Nat.reduceLeDiff, Nat.reduceLT, Nat.reduceBEq, Nat.reduceDiv, Nat.reduceMod, Int.reduceLE, Int.reduceLT, Int.reduceEq, Int.reduceBEq, Int.reduceBNe, Int.reduceAdd, Int.reduceSub, Int.reduceNeg, Int.reduceToNat, Int.reduceMul, Int.reducePow, Nat.reducePow, reduceCtorEq, hR, hC, hbr, hbc, w5, w6, open_r, w7, hkl', hs2, wrap_i64 (n := (i : Int) + 1) (by omega) (by omega)]
              exact ih _ _ _ (by omega) ⟨i + 1, _, false, in0, gcs false in0, rfl, rfl, hlt, by decide, fun _ => rfl, gcs_can _ _, gcs_refs _ _, .inl ⟨.ro false [], rfl, rfl, rfl, rfl, rfl⟩⟩
            · have w7 := same_t 0 ⟨#[]⟩ false false ⟨0, 0, 0, ⟨#[]⟩⟩ ⟨#[]⟩
              rw [hap] at hrc e1
              simp only [Perf.dP, gcsP, InV.dP, in0, Perf.d, Perf.cs, gRow, gcs, InV.cs, InV.d, bytesD_nil] at e1 e2 w7 hxc hrc
              simp only [fr5, gcsP]
              simp +contextual (maxSteps := 10000000) only [↓reduceIte, go_sem, Nat.reduceEqDiff, Nat.reduceAdd, Nat.reduceSub, Nat.reduceMul, Nat.reduceLeDiff, Nat.reduceLT, Nat.reduceBEq, Nat.reduceDiv, Nat.reduceMod, Int.reduceLE, Int.reduceLT, Int.reduceEq, Int.reduceBEq, Int.reduceBNe, Int.reduceAdd, Int.reduceSub, Int.reduceNeg, Int.reduceToNat, Int.reduceMul, Int.reducePow, Nat.reducePow, reduceCtorEq, hR, hC, hbr, hbc, w5, w6, open_r, hp, hlt', hz, hbd, hd', hdb, hd2, hg1, hg2, hx0, hxc, hxr, e1, e2, hrc, hrr, (hf p hpm).refs, (hf p hpm).can]
              refine lpK_inv (fun m f es => ∃ (k : Nat) (kk : Int) (b : ByteArray), kk = k ∧ b.size = p.payload.size ∧ m = p.payload.size - k ∧ k ≤ p.payload.size ∧ f = [(0, .ro false (l.map Perf.d)), (1, .ro false (dr.map B)), (5, .ptr 0 0 0), (6, .ptr 2 0 0), (7, I i), (8, .ptr 3 0 0), (9, .ptr 5 0 0), (10, I 0), (11, .ptr 6 0 0), (12, I 0), (13, I kk)] ∧ es = [some ⟨0, gcsP true (InV.mk id tag s r st p.payload) (.ref 1 0 1 0 p.payload.size)⟩, some ⟨0, bytesD p.payload⟩, some ⟨0, row⟩, some ⟨0, (p.dP (.ref 4 0 1 0 p.payload.size)).cells⟩, some ⟨0, bytesD b⟩, some ⟨0, (in0.dP .nils).cells⟩, some ⟨0, in0.d.cells⟩]) p.payload.size ⟨0, _, p.payload, rfl, rfl, rfl, Nat.zero_le _, rfl, rfl⟩ ?_
              clear e1 e2
              rintro m f es ⟨k, kk, b, rfl, hs2, rfl, hk, rfl, rfl⟩ ih2
              rcases Nat.lt_or_ge k p.payload.size with hkl | hkg
              · have hkl' : decide ((k : Int) < p.payload.size) = true := by simpa using hkl
                have hsb := set_bytesD b k (by omega)
                have hk1 : k + 1 ≤ p.payload.size := hkl
                have hki : ((k : Int) < p.payload.size) = True := by simpa using hkl
                simp +contextual (maxSteps := 10000000) only [↓reduceIte, go_sem, Nat.reduceEqDiff, Nat.reduceAdd, Nat.reduceSub, Nat.reduceMul, Nat.reduceLeDiff, Nat.reduceLT, Nat.reduceBEq, Nat.reduceDiv, Nat.reduceMod, Int.reduceLE, Int.reduceLT, Int.reduceEq, Int.reduceBEq, Int.reduceBNe, Int.reduceAdd, Int.reduceSub, Int.reduceNeg, Int.reduceToNat, Int.reduceMul, Int.reducePow, Nat.reducePow, reduceCtorEq, hR, hC, hbr, hbc, hkl', hki, hs2, hsb, hk1, Nat.mul_one, hrc, hrr, (hf p hpm).refs, (hf p hpm).can, wrap_i64 (n := (k : Int) + 1) (by omega) (by omega)]
                exact ih2 (p.payload.size - (k + 1)) _ _ (by omega) ⟨k + 1, _, setB b k, rfl, (setB_size b k).trans hs2, rfl, hkl, rfl, rfl⟩
              clear ih2
              have hkl' : decide ((k : Int) < p.payload.size) = false := by simpa using hkg
              simp +contextual (maxSteps := 10000000) only [↓reduceIte, go_sem, Nat.reduceEqDiff, Nat.reduceAdd, Nat.reduceSub, Nat.reduceMul, Nat.reduceLeDiff, Nat.reduceLT, Nat.reduceBEq, Nat.reduceDiv, Nat.reduceMod, Int.reduceLE, Int.reduceLT, Int.reduceEq, Int.reduceBEq, Int.reduceBNe, Int.reduceAdd, Int.reduceSub, Int.reduceNeg, Int.reduceToNat, Int.reduceMul, Int.reducePow, Nat.reducePow, reduceCtorEq, hR, hC, hbr, hbc, w5, w6, open_r, w7, hrc, hrr, hkl', hs2, beq_self_eq_true, bne_self_eq_false, Bool.not_true, Bool.not_false, (hf p hpm).refs, (hf p hpm).can]
              rw [lpK_go]
              simp +contextual (maxSteps := 10000000) only [↓reduceIte, go_sem, Nat.reduceEqDiff, Nat.reduceAdd, Nat.reduceSub, Nat.reduceMul, Nat.reduceLeDiff, Nat.reduceLT, Nat.reduceBEq, Nat.reduceDiv, Nat.reduceMod, Int.reduceLE, Int.reduceLT, Int.reduceEq, Int.reduceBEq, Int.reduceBNe, Int.reduceAdd, Int.reduceSub, Int.reduceNeg, Int.reduceToNat, Int.reduceMul, Int.reducePow, Nat.reducePow, reduceCtorEq, hR, hC, hbr, hbc, w5, w6, open_r, w7, hrc, hrr, hkl', hs2, wrap_i64 (n := (i : Int) + 1) (by omega) (by omega)]
              exact ih _ _ _ (by omega) ⟨i + 1, _, true, (InV.mk id tag s r st p.payload), gcs true (InV.mk id tag s r st p.payload), rfl, rfl, hlt, by show p.payload.size ≤ 4096; omega, fun h => absurd h (by decide), gcs_can _ _, gcs_refs _ _, .inr ⟨rfl, by show 0 < p.payload.size; omega, rfl, rfl⟩⟩
            · have w7 := same_r id tag s r st p.payload (by omega)
              rw [hap] at e1 e2
              simp only [Perf.dP, gcsP, InV.dP, in0, Perf.d, Perf.cs, gRow, gcs, InV.cs, InV.d, bytesD_nil] at e1 e2 w7 hxc
              simp only [fr5, gcsP]
              simp +contextual (maxSteps := 10000000) only [↓reduceIte, go_sem, Nat.reduceEqDiff, Nat.reduceAdd, Nat.reduceSub, Nat.reduceMul, Nat.reduceLeDiff, Nat.reduceLT, Nat.reduceBEq, Nat.reduceDiv, Nat.reduceMod, Int.reduceLE, Int.reduceLT, Int.reduceEq, Int.reduceBEq, Int.reduceBNe, Int.reduceAdd, Int.reduceSub, Int.reduceNeg, Int.reduceToNat, Int.reduceMul, Int.reducePow, Nat.reducePow, reduceCtorEq, hR, hC, hbr, hbc, w5, w6, open_r, hp, hlt', hz, hbd, hd', hdb, hd2, hg1, hg2, hx0, hxc, hxr, e1, e2, (hf p hpm).refs, (hf p hpm).can]
              refine lpK_inv (fun m f es => ∃ (k : Nat) (kk : Int) (b : ByteArray), kk = k ∧ b.size = p.payload.size ∧ m = p.payload.size - k ∧ k ≤ p.payload.size ∧ f = [(0, .ro false (l.map Perf.d)), (1, .ro false (dr.map B)), (5, .ptr 0 0 0), (6, .ptr 1 0 0), (7, I i), (8, .ptr 2 0 0), (9, .ptr 4 0 0), (10, I 1), (11, .ptr 6 0 0), (12, I 1), (13, I kk)] ∧ es = [some ⟨0, gz⟩, some ⟨0, gz⟩, some ⟨0, (p.dP (.ref 3 0 1 0 p.payload.size)).cells⟩, some ⟨0, bytesD b⟩, some ⟨0, ((InV.mk id tag s r st p.payload).dP (.ref 5 0 1 0 p.payload.size)).cells⟩, some ⟨0, bytesD p.payload⟩, some ⟨0, (InV.mk id tag s r st p.payload).d.cells⟩]) p.payload.size ⟨0, _, p.payload, rfl, rfl, rfl, Nat.zero_le _, rfl, rfl⟩ ?_
              clear e1 e2
              rintro m f es ⟨k, kk, b, rfl, hs2, rfl, hk, rfl, rfl⟩ ih2
              rcases Nat.lt_or_ge k p.payload.size with hkl | hkg
              · have hkl' : decide ((k : Int) < p.payload.size) = true := by simpa using hkl
                have hsb := set_bytesD b k (by omega)
                have hk1 : k + 1 ≤ p.payload.size := hkl
                have hki : ((k : Int) < p.payload.size) = True := by simpa using hkl
                simp +contextual (maxSteps := 10000000) only [↓reduceIte, go_sem, Nat.reduceEqDiff, Nat.reduceAdd, Nat.reduceSub, Nat.reduceMul, Nat.reduceLeDiff, Nat.reduceLT, Nat.reduceBEq, Nat.reduceDiv, Nat.reduceMod, Int.reduceLE, Int.reduceLT, Int.reduceEq, Int.reduceBEq, Int.reduceBNe, Int.reduceAdd, Int.reduceSub, Int.reduceNeg, Int.reduceToNat, Int.reduceMul, Int.reducePow, Nat.reducePow, reduceCtorEq, hR, hC, hbr, hbc, hkl', hki, hs2, hsb, hk1, Nat.mul_one, (hf p hpm).refs, (hf p hpm).can, wrap_i64 (n := (k : Int) + 1) (by omega) (by omega)]
                exact ih2 (p.payload.size - (k + 1)) _ _ (by omega) ⟨k + 1, _, setB b k, rfl, (setB_size b k).trans hs2, rfl, hkl, rfl, rfl⟩
              clear ih2
              have hkl' : decide ((k : Int) < p.payload.size) = false := by simpa using hkg
              simp +contextual (maxSteps := 10000000) only [↓reduceIte, go_sem, Nat.reduceEqDiff, Nat.reduceAdd, Nat.reduceSub, Nat.reduceMul, Nat.reduceLeDiff, Nat.reduceLT, Nat.reduceBEq, Nat.reduceDiv, Nat.reduceMod, Int.reduceLE, Int.reduceLT, Int.reduceEq, Int.reduceBEq, Int.reduceBNe, Int.reduceAdd, Int.reduceSub, Int.reduceNeg, Int.reduceToNat, Int.reduceMul, Int.reducePow, Nat.reducePow, reduceCtorEq, hR, hC, hbr, hbc, w5, w6, open_r, w7, hkl', hs2, beq_self_eq_true, bne_self_eq_false, Bool.not_true, Bool.not_false, (hf p hpm).refs, (hf p hpm).can]
              refine lpK_inv (fun m f es => ∃ (k : Nat) (kk : Int) (b : ByteArray), kk = k ∧ b.size = p.payload.size ∧ m = p.payload.size - k ∧ k ≤ p.payload.size ∧ f = [(0, .ro false (l.map Perf.d)), (1, .ro false (dr.map B)), (5, .ptr 0 0 0), (6, .ptr 1 0 0), (7, I i), (9, .ptr 2 0 0), (14, I kk)] ∧ es = [some ⟨0, gcs false in0⟩, some ⟨0, gcs false in0⟩, some ⟨0, ((InV.mk id tag s r st p.payload).dP (.ref 3 0 1 0 p.payload.size)).cells⟩, some ⟨0, bytesD b⟩]) (p.payload.size) ⟨0, _, p.payload, rfl, rfl, rfl, Nat.zero_le _, rfl, rfl⟩ ?_
              rintro m f es ⟨k2, kk2, b2, rfl, hb2, rfl, hk2, rfl, rfl⟩ ih2
              rcases Nat.lt_or_ge k2 (p.payload.size) with hkl2 | hkg2
              · have hkl3 : decide ((k2 : Int) < (p.payload.size : Int)) = true := by simp <;> omega
                have hsb := set_bytesD b2 k2 (by omega)
                have hk1 : k2 + 1 ≤ p.payload.size := hkl2
                have hki : ((k2 : Int) < (p.payload.size : Int)) = True := by simp <;> omega
                simp +contextual (maxSteps := 10000000) only [↓reduceIte, go_sem, Nat.reduceEqDiff, Nat.reduceAdd, Nat.reduceSub, Nat.reduceMul, Nat.reduceLeDiff, Nat.reduceLT, Nat.reduceBEq, Nat.reduceDiv, Nat.reduceMod, Int.reduceLE, Int.reduceLT, Int.reduceEq, Int.reduceBEq, Int.reduceBNe, Int.reduceAdd, Int.reduceSub, Int.reduceNeg, Int.reduceToNat, Int.reduceMul, Int.reducePow, Nat.reducePow, reduceCtorEq, hR, hC, hbr, hbc, hkl3, hki, hb2, hsb, hk1, Nat.mul_one, (hf p hpm).refs, (hf p hpm).can, wrap_i64 (n := (k2 : Int) + 1) (by omega) (by omega)]
                exact ih2 (p.payload.size - (k2 + 1)) _ _ (by omega) ⟨k2 + 1, _, setB b2 k2, rfl, (setB_size b2 k2).trans hb2, rfl, hkl2, rfl, rfl⟩
              clear ih2
              have hkl3 : decide ((k2 : Int) < (p.payload.size : Int)) = false := by simp <;> omega
              simp +contextual (maxSteps := 10000000) only [↓reduceIte, go_sem, Nat.reduceEqDiff, Nat.reduceAdd, Nat.reduceSub, Nat.reduceMul, Nat.reduceLeDiff, Nat.reduceLT, Nat.reduceBEq, Nat.reduceDiv, Nat.reduceMod, Int.reduceLE, Int.reduceLT, Int.reduceEq, Int.reduceBEq, Int.reduceBNe, Int.reduceAdd, Int.reduceSub, Int.reduceNeg, Int.reduceToNat, Int.reduceMul, Int.reducePow, Nat.reducePow, reduceCtorEq, hR, hC, hbr, hbc, hkl3, hb2, (hf p hpm).refs, (hf p hpm).can, wrap_i64 (n := (i : Int) + 1) (by omega) (by omega)]
              exact ih _ _ _ (by omega) ⟨i + 1, _, false, in0, gcs false in0, rfl, rfl, hlt, by decide, fun _ => rfl, gcs_can _ _, gcs_refs _ _, .inl ⟨.ro false [], rfl, rfl, rfl, rfl, rfl⟩⟩
          · have hap : in0.payload ++ p.payload = p.payload := nil_bytes _
            rcases s1r false in0 p (fun _ => rfl) rfl hps (by omega) (hf p hpm) with ⟨e1, e2⟩ | ⟨id, tag, n, e1, e2⟩ | ⟨id, tag, s, r, st, row, hs, hrc, hrr, e1, e2⟩ | ⟨id, tag, s, r, st, e1, e2⟩
            · have w7 := same_t 0 ⟨#[]⟩ false false ⟨0, 0, 0, ⟨#[]⟩⟩ ⟨#[]⟩
              have hin : in0.payload.size = 0 := rfl
              simp only [Perf.dP, gcsP, InV.dP, in0, Perf.d, Perf.cs, gRow, gcs, InV.cs, InV.d, bytesD_nil] at e1 e2 w7 hxc
              simp only [fr5, gcsP]
              simp +contextual (maxSteps := 10000000) only [↓reduceIte, go_sem, Nat.reduceEqDiff, Nat.reduceAdd, Nat.reduceSub, Nat.reduceMul, Nat.reduceLeDiff, Nat.reduceLT, Nat.reduceBEq, Nat.reduceDiv, Nat.reduceMod, Int.reduceLE, Int.reduceLT, Int.reduceEq, Int.reduceBEq, Int.reduceBNe, Int.reduceAdd, Int.reduceSub, Int.reduceNeg, Int.reduceToNat, Int.reduceMul, Int.reducePow, Nat.reducePow, reduceCtorEq, hR, hC, hbr, hbc, w5, w6, open_r, hp, hlt', hz, hbd, hd', hd2, hdb, drop_w, rdrop_w, drop_rw, hg1, hg2, hx0, hxc, hxr, e1, e2, (hf p hpm).refs, (hf p hpm).can]
              refine lpK_inv (fun m f es => ∃ (k : Nat) (kk : Int) (b : ByteArray), kk = k ∧ b.size = p.payload.size ∧ m = p.payload.size - k ∧ k ≤ p.payload.size ∧ f = [(0, .ro false (l.map Perf.d)), (1, .ro false (dr.map B)), (5, .ptr 0 0 0), (6, .ptr 1 0 0), (7, I i), (8, .ptr 2 0 0), (9, .ptr 4 0 0), (10, I 3), (11, .ptr 5 0 0), (12, I 3), (13, I kk)] ∧ es = [some ⟨0, gcsP false in0 (.ro false [])⟩, some ⟨0, gcs false in0⟩, some ⟨0, (p.dP (.ref 3 0 1 0 p.payload.size)).cells⟩, some ⟨0, bytesD b⟩, some ⟨0, (in0.dP .nils).cells⟩, some ⟨0, in0.d.cells⟩]) p.payload.size ⟨0, _, p.payload, rfl, rfl, rfl, Nat.zero_le _, rfl, rfl⟩ ?_
              clear e1 e2
              rintro m f es ⟨k, kk, b, rfl, hs2, rfl, hk, rfl, rfl⟩ ih2
              rcases Nat.lt_or_ge k p.payload.size with hkl | hkg
              · have hkl' : decide ((k : Int) < p.payload.size) = true := by simpa using hkl
                have hsb := set_bytesD b k (by omega)
                have hk1 : k + 1 ≤ p.payload.size := hkl
                have hki : ((k : Int) < p.payload.size) = True := by simpa using hkl
                simp +contextual (maxSteps := 10000000) only [↓reduceIte, go_sem, Nat.reduceEqDiff, Nat.reduceAdd, Nat.reduceSub, Nat.reduceMul, Nat.reduceLeDiff, Nat.reduceLT, Nat.reduceBEq, Nat.reduceDiv, Nat.reduceMod, Int.reduceLE, Int.reduceLT, Int.reduceEq, Int.reduceBEq, Int.reduceBNe, Int.reduceAdd, Int.reduceSub, Int.reduceNeg, Int.reduceToNat, Int.reduceMul, Int.reducePow, Nat.reducePow, reduceCtorEq, hR, hC, hbr, hbc, hkl', hki, hs2, hsb, hk1, Nat.mul_one, (hf p hpm).refs, (hf p hpm).can, wrap_i64 (n := (k : Int) + 1) (by omega) (by omega)]
                exact ih2 (p.payload.size - (k + 1)) _ _ (by omega) ⟨k + 1, _, setB b k, rfl, (setB_size b k).trans hs2, rfl, hkl, rfl, rfl⟩
              clear ih2
              have hkl' : decide ((k : Int) < p.payload.size) = false := by simpa using hkg
              simp +contextual (maxSteps := 10000000) only [↓reduceIte, go_sem, Nat.reduceEqDiff, Nat.reduceAdd, Nat.reduceSub, Nat.reduceMul, Nat.reduceLeDiff, Nat.reduceLT, Nat.reduceBEq, Nat.reduceDiv, Nat.reduceMod, Int.reduceLE, Int.reduceLT, Int.reduceEq, Int.reduceBEq, Int.reduceBNe, Int.reduceAdd, Int.reduceSub, Int.reduceNeg, Int.reduceToNat, Int.reduceMul, Int.reducePow, Nat.reducePow, reduceCtorEq, hR, hC, hbr, hbc, w5, w6, open_r, w7, hkl', hs2, beq_self_eq_true, bne_self_eq_false, Bool.not_true, Bool.not_false, (hf p hpm).refs, (hf p hpm).can]
              rw [lpK_go]
              simp +contextual (maxSteps := 10000000) only [↓reduceIte, go_sem, Nat.reduceEqDiff, Nat.reduceAdd, Nat.reduceSub, Nat.reduceMul, Nat.reduceLeDiff, Nat.reduceLT, Nat.reduceBEq, Nat.reduceDiv, Nat.reduceMod, Int.reduceLE, Int.reduceLT, Int.reduceEq, Int.reduceBEq, Int.reduceBNe, Int.reduceAdd, Int.reduceSub, Int.reduceNeg, Int.reduceToNat, Int.reduceMul, Int.reducePow, Nat.reducePow, reduceCtorEq, hR, hC, hbr, hbc, w5, w6, open_r, w7, hkl', hs2, wrap_i64 (n := (i : Int) + 1) (by omega) (by omega)]
              exact ih _ _ _ (by omega) ⟨i + 1, _, false, in0, gcs false in0, rfl, rfl, hlt, by decide, fun _ => rfl, gcs_can _ _, gcs_refs _ _, .inl ⟨.ro false [], rfl, rfl, rfl, rfl, rfl⟩⟩
            · have w7 := same_t id tag false false ⟨0, 0, 0, ⟨#[]⟩⟩ ⟨#[]⟩
              have hin : in0.payload.size = 0 := rfl
              simp only [Perf.dP, gcsP, InV.dP, in0, Perf.d, Perf.cs, gRow, gcs, InV.cs, InV.d, bytesD_nil] at e1 e2 w7 hxc
              simp only [fr5, gcsP]
              simp +contextual (maxSteps := 10000000) only [↓reduceIte, go_sem, Nat.reduceEqDiff, Nat.reduceAdd, Nat.reduceSub, Nat.reduceMul, Nat.reduceLeDiff, Nat.reduceLT, Nat.reduceBEq, Nat.reduceDiv, Nat.reduceMod, Int.reduceLE, Int.reduceLT, Int.reduceEq, Int.reduceBEq, Int.reduceBNe, Int.reduceAdd, Int.reduceSub, Int.reduceNeg, Int.reduceToNat, Int.reduceMul, Int.reducePow, Nat.reducePow, reduceCtorEq, hR, hC, hbr, hbc, w5, w6, open_r, hp, hlt', hz, hbd, hd', hd2, hdb, drop_w, rdrop_w, drop_rw, hg1, hg2, hx0, hxc, hxr, e1, e2, (hf p hpm).refs, (hf p hpm).can]
              refine lpK_inv (fun m f es => ∃ (k : Nat) (kk : Int) (b : ByteArray), kk = k ∧ b.size = p.payload.size ∧ m = p.payload.size - k ∧ k ≤ p.payload.size ∧ f = [(0, .ro false (l.map Perf.d)), (1, .ro false (dr.map B)), (5, .ptr 0 0 0), (6, .ptr 1 0 0), (7, I i), (8, .ptr 2 0 0), (9, .ptr 4 0 0), (10, I n), (11, .ptr 5 0 0), (12, I n), (13, I kk)] ∧ es = [some ⟨0, gz⟩, some ⟨0, gz⟩, some ⟨0, (p.dP (.ref 3 0 1 0 p.payload.size)).cells⟩, some ⟨0, bytesD b⟩, some ⟨0, ((InV.mk id tag false false ⟨0, 0, 0, ⟨#[]⟩⟩ ⟨#[]⟩).dP .nils).cells⟩, some ⟨0, (InV.mk id tag false false ⟨0, 0, 0, ⟨#[]⟩⟩ ⟨#[]⟩).d.cells⟩]) p.payload.size ⟨0, _, p.payload, rfl, rfl, rfl, Nat.zero_le _, rfl, rfl⟩ ?_
              clear e1 e2
              rintro m f es ⟨k, kk, b, rfl, hs2, rfl, hk, rfl, rfl⟩ ih2
              rcases Nat.lt_or_ge k p.payload.size with hkl | hkg
              · have hkl' : decide ((k : Int) < p.payload.size) = true := by simpa using hkl
                have hsb := set_bytesD b k (by omega)
                have hk1 : k + 1 ≤ p.payload.size := hkl
                have hki : ((k : Int) < p.payload.size) = True := by simpa using hkl
                simp +contextual (maxSteps := 10000000) only [↓reduceIte, go_sem, Nat.reduceEqDiff, Nat.reduceAdd, Nat.reduceSub, Nat.reduceMul, Nat.reduceLeDiff, Nat.reduceLT, Nat.reduceBEq, Nat.reduceDiv, Nat.reduceMod, Int.reduceLE, Int.reduceLT, Int.reduceEq, Int.reduceBEq, Int.reduceBNe, Int.reduceAdd, Int.reduceSub, Int.reduceNeg, Int.reduceToNat, Int.reduceMul, Int.reducePow, Nat.reducePow, reduceCtorEq, hR, hC, hbr, hbc, hkl', hki, hs2, hsb, hk1, Nat.mul_one, (hf p hpm).refs, (hf p hpm).can, wrap_i64 (n := (k : Int) + 1) (by omega) (by omega)]
                exact ih2 (p.payload.size - (k + 1)) _ _ (by omega) ⟨k + 1, _, setB b k, rfl, (setB_size b k).trans hs2, rfl, hkl, rfl, rfl⟩
              clear ih2
              have hkl' : decide ((k : Int) < p.payload.size) = false := by simpa using hkg
              simp +contextual (maxSteps := 10000000) only [↓reduceIte, go_sem, Nat.reduceEqDiff, Nat.reduceAdd, Nat.reduceSub, Nat.reduceMul, Nat.reduceLeDiff, Nat.reduceLT, Nat.reduceBEq, Nat.reduceDiv, Nat.reduceMod, Int.reduceLE, Int.reduceLT, Int.reduceEq, Int.reduceBEq, Int.reduceBNe, Int.reduceAdd, Int.reduceSub, Int.reduceNeg, Int.reduceToNat, Int.reduceMul, Int.reducePow, Nat.reducePow, reduceCtorEq, hR, hC, hbr, hbc, w5, w6, open_r, w7, hkl', hs2, beq_self_eq_true, bne_self_eq_false, Bool.not_true, Bool.not_false, (hf p hpm).refs, (hf p hpm).can]
              rw [lpK_go]
              simp +contextual (maxSteps := 10000000) only [↓reduceIte, go_sem, Nat.reduceEqDiff, Nat.reduceAdd, Nat.reduceSub, Nat.reduceMul, Nat.reduceLeDiff, Nat.reduceLT, Nat.reduceBEq, Nat.reduceDiv, Nat.reduceMod, Int.reduceLE, Int.reduceLT, Int.reduceEq, Int.reduceBEq, Int.reduceBNe, Int.reduceAdd, Int.reduceSub, Int.reduceNeg, Int.reduceToNat, Int.reduceMul, Int.reducePow, Nat.reducePow, reduceCtorEq, hR, hC, hbr, hbc, w5, w6, open_r, w7, hkl', hs2, wrap_i64 (n := (i : Int) + 1) (by omega) (by omega)]
              exact ih _ _ _ (by omega) ⟨i + 1, _, false, in0, gcs false in0, rfl, rfl, hlt, by decide, fun _ => rfl, gcs_can _ _, gcs_refs _ _, .inl ⟨.ro false [], rfl, rfl, rfl, rfl, rfl⟩⟩
            · have w7 := same_t 0 ⟨#[]⟩ false false ⟨0, 0, 0, ⟨#[]⟩⟩ ⟨#[]⟩
              have hin : in0.payload.size = 0 := rfl
              rw [hap] at hrc e1
              simp only [Perf.dP, gcsP, InV.dP, in0, Perf.d, Perf.cs, gRow, gcs, InV.cs, InV.d, bytesD_nil] at e1 e2 w7 hxc hrc
              simp only [fr5, gcsP]
              simp +contextual (maxSteps := 10000000) only [↓reduceIte, go_sem, Nat.reduceEqDiff, Nat.reduceAdd, Nat.reduceSub, Nat.reduceMul, Nat.reduceLeDiff, Nat.reduceLT, Nat.reduceBEq, Nat.reduceDiv, Nat.reduceMod, Int.reduceLE, Int.reduceLT, Int.reduceEq, Int.reduceBEq, Int.reduceBNe, Int.reduceAdd, Int.reduceSub, Int.reduceNeg, Int.reduceToNat, Int.reduceMul, Int.reducePow, Nat.reducePow, reduceCtorEq, hR, hC, hbr, hbc, w5, w6, open_r, hp, hlt', hz, hbd, hd', hd2, hdb, drop_w, rdrop_w, drop_rw, hg1, hg2, hx0, hxc, hxr, e1, e2, hrc, hrr, (hf p hpm).refs, (hf p hpm).can]
              refine lpK_inv (fun m f es => ∃ (k : Nat) (kk : Int) (b : ByteArray), kk = k ∧ b.size = p.payload.size ∧ m = p.payload.size - k ∧ k ≤ p.payload.size ∧ f = [(0, .ro false (l.map Perf.d)), (1, .ro false (dr.map B)), (5, .ptr 0 0 0), (6, .ptr 2 0 0), (7, I i), (8, .ptr 3 0 0), (9, .ptr 5 0 0), (10, I 0), (11, .ptr 6 0 0), (12, I 0), (13, I kk)] ∧ es = [some ⟨0, gcsP true (InV.mk id tag s r st p.payload) (.ref 1 0 1 0 p.payload.size)⟩, some ⟨0, bytesD p.payload⟩, some ⟨0, row⟩, some ⟨0, (p.dP (.ref 4 0 1 0 p.payload.size)).cells⟩, some ⟨0, bytesD b⟩, some ⟨0, (in0.dP .nils).cells⟩, some ⟨0, in0.d.cells⟩]) p.payload.size ⟨0, _, p.payload, rfl, rfl, rfl, Nat.zero_le _, rfl, rfl⟩ ?_
              clear e1 e2
              rintro m f es ⟨k, kk, b, rfl, hs2, rfl, hk, rfl, rfl⟩ ih2
              rcases Nat.lt_or_ge k p.payload.size with hkl | hkg
              · have hkl' : decide ((k : Int) < p.payload.size) = true := by simpa using hkl
                have hsb := set_bytesD b k (by omega)
                have hk1 : k + 1 ≤ p.payload.size := hkl
                have hki : ((k : Int) < p.payload.size) = True := by simpa using hkl
                simp +contextual (maxSteps := 10000000) only [↓reduceIte, go_sem, Nat.reduceEqDiff, Nat.reduceAdd, Nat.reduceSub, Nat.reduceMul, Nat.reduceLeDiff, Nat.reduceLT, Nat.reduceBEq, Nat.reduceDiv, Nat.reduceMod, Int.reduceLE, Int.reduceLT, Int.reduceEq, Int.reduceBEq, Int.reduceBNe, Int.reduceAdd, Int.reduceSub, Int.reduceNeg, Int.reduceToNat, Int.reduceMul, Int.reducePow, Nat.reducePow, reduceCtorEq, hR, hC, hbr, hbc, hkl', hki, hs2, hsb, hk1, Nat.mul_one, hrc, hrr, (hf p hpm).refs, (hf p hpm).can, wrap_i64 (n := (k : Int) + 1) (by omega) (by omega)]
                exact ih2 (p.payload.size - (k + 1)) _ _ (by omega) ⟨k + 1, _, setB b k, rfl, (setB_size b k).trans hs2, rfl, hkl, rfl, rfl⟩
              clear ih2
              have hkl' : decide ((k : Int) < p.payload.size) = false := by simpa using hkg
              simp +contextual (maxSteps := 10000000) only [↓reduceIte, go_sem, Nat.reduceEqDiff, Nat.reduceAdd, Nat.reduceSub, Nat.reduceMul, Nat.reduceLeDiff, Nat.reduceLT, Nat.reduceBEq, Nat.reduceDiv, Nat.reduceMod, Int.reduceLE, Int.reduceLT, Int.reduceEq, Int.reduceBEq, Int.reduceBNe, Int.reduceAdd, Int.reduceSub, Int.reduceNeg, Int.reduceToNat, Int.reduceMul, Int.reducePow, Nat.reducePow, reduceCtorEq, hR, hC, hbr, hbc, w5, w6, open_r, w7, hrc, hrr, hkl', hs2, beq_self_eq_true, bne_self_eq_false, Bool.not_true, Bool.not_false, (hf p hpm).refs, (hf p hpm).can]
              rw [lpK_go]
              simp +contextual (maxSteps := 10000000) only [↓reduceIte, go_sem, Nat.reduceEqDiff, Nat.reduceAdd, Nat.reduceSub, Nat.reduceMul, Nat.reduceLeDiff, Nat.reduceLT, Nat.reduceBEq, Nat.reduceDiv, Nat.reduceMod, Int.reduceLE, Int.reduceLT, Int.reduceEq, Int.reduceBEq, Int.reduceBNe, Int.reduceAdd, Int.reduceSub, Int.reduceNeg, Int.reduceToNat, Int.reduceMul, Int.reducePow, Nat.reducePow, reduceCtorEq, hR, hC, hbr, hbc, w5, w6, open_r, w7, hrc, hrr, hkl', hs2, wrap_i64 (n := (i : Int) + 1) (by omega) (by omega)]
              exact ih _ _ _ (by omega) ⟨i + 1, _, true, (InV.mk id tag s r st p.payload), gcs true (InV.mk id tag s r st p.payload), rfl, rfl, hlt, by show p.payload.size ≤ 4096; omega, fun h => absurd h (by decide), gcs_can _ _, gcs_refs _ _, .inr ⟨rfl, by show 0 < p.payload.size; omega, rfl, rfl⟩⟩
            · have w7 := same_r id tag s r st p.payload (by omega)
              have hin : in0.payload.size = 0 := rfl
              rw [hap] at e1 e2
              simp only [Perf.dP, gcsP, InV.dP, in0, Perf.d, Perf.cs, gRow, gcs, InV.cs, InV.d, bytesD_nil] at e1 e2 w7 hxc
              simp only [fr5, gcsP]
              simp +contextual (maxSteps := 10000000) only [↓reduceIte, go_sem, Nat.reduceEqDiff, Nat.reduceAdd, Nat.reduceSub, Nat.reduceMul, Nat.reduceLeDiff, Nat.reduceLT, Nat.reduceBEq, Nat.reduceDiv, Nat.reduceMod, Int.reduceLE, Int.reduceLT, Int.reduceEq, Int.reduceBEq, Int.reduceBNe, Int.reduceAdd, Int.reduceSub, Int.reduceNeg, Int.reduceToNat, Int.reduceMul, Int.reducePow, Nat.reducePow, reduceCtorEq, hR, hC, hbr, hbc, w5, w6, open_r, hp, hlt', hz, hbd, hd', hd2, hdb, drop_w, rdrop_w, drop_rw, hg1, hg2, hx0, hxc, hxr, e1, e2, (hf p hpm).refs, (hf p hpm).can]
              refine lpK_inv (fun m f es => ∃ (k : Nat) (kk : Int) (b : ByteArray), kk = k ∧ b.size = p.payload.size ∧ m = p.payload.size - k ∧ k ≤ p.payload.size ∧ f = [(0, .ro false (l.map Perf.d)), (1, .ro false (dr.map B)), (5, .ptr 0 0 0), (6, .ptr 1 0 0), (7, I i), (8, .ptr 2 0 0), (9, .ptr 4 0 0), (10, I 1), (11, .ptr 6 0 0), (12, I 1), (13, I kk)] ∧ es = [some ⟨0, gz⟩, some ⟨0, gz⟩, some ⟨0, (p.dP (.ref 3 0 1 0 p.payload.size)).cells⟩, some ⟨0, bytesD b⟩, some ⟨0, ((InV.mk id tag s r st p.payload).dP (.ref 5 0 1 0 p.payload.size)).cells⟩, some ⟨0, bytesD p.payload⟩, some ⟨0, (InV.mk id tag s r st p.payload).d.cells⟩]) p.payload.size ⟨0, _, p.payload, rfl, rfl, rfl, Nat.zero_le _, rfl, rfl⟩ ?_
              clear e1 e2
              rintro m f es ⟨k, kk, b, rfl, hs2, rfl, hk, rfl, rfl⟩ ih2
              rcases Nat.lt_or_ge k p.payload.size with hkl | hkg
              · have hkl' : decide ((k : Int) < p.payload.size) = true := by simpa using hkl
                have hsb := set_bytesD b k (by omega)
                have hk1 : k + 1 ≤ p.payload.size := hkl
                have hki : ((k : Int) < p.payload.size) = True := by simpa using hkl
                simp +contextual (maxSteps := 10000000) only [↓reduceIte, go_sem, Nat.reduceEqDiff, Nat.reduceAdd, Nat.reduceSub, Nat.reduceMul, Nat.reduceLeDiff, Nat.reduceLT, Nat.reduceBEq, Nat.reduceDiv, Nat.reduceMod, Int.reduceLE, Int.reduceLT, Int.reduceEq, Int.reduceBEq, Int.reduceBNe, Int.reduceAdd, Int.reduceSub, Int.reduceNeg, Int.reduceToNat, Int.reduceMul, Int.reducePow, Nat.reducePow, reduceCtorEq, hR, hC, hbr, hbc, hkl', hki, hs2, hsb, hk1, Nat.mul_one, (hf p hpm).refs, (hf p hpm).can, wrap_i64 (n := (k : Int) + 1) (by omega) (by omega)]
                exact ih2 (p.payload.size - (k + 1)) _ _ (by omega) ⟨k + 1, _, setB b k, rfl, (setB_size b k).trans hs2, rfl, hkl, rfl, rfl⟩
              clear ih2
              have hkl' : decide ((k : Int) < p.payload.size) = false := by simpa using hkg
              simp +contextual (maxSteps := 10000000) only [↓reduceIte, go_sem, Nat.reduceEqDiff, Nat.reduceAdd, Nat.reduceSub, Nat.reduceMul, Nat.reduceLeDiff, Nat.reduceLT, Nat.reduceBEq, Nat.reduceDiv, Nat.reduceMod, Int.reduceLE, Int.reduceLT, Int.reduceEq, Int.reduceBEq, Int.reduceBNe, Int.reduceAdd, Int.reduceSub, Int.reduceNeg, Int.reduceToNat, Int.reduceMul, Int.reducePow, Nat.reducePow, reduceCtorEq, hR, hC, hbr, hbc, w5, w6, open_r, w7, hkl', hs2, beq_self_eq_true, bne_self_eq_false, Bool.not_true, Bool.not_false, (hf p hpm).refs, (hf p hpm).can]
              refine lpK_inv (fun m f es => ∃ (k : Nat) (kk : Int) (b : ByteArray), kk = k ∧ b.size = p.payload.size ∧ m = p.payload.size - k ∧ k ≤ p.payload.size ∧ f = [(0, .ro false (l.map Perf.d)), (1, .ro false (dr.map B)), (5, .ptr 0 0 0), (6, .ptr 1 0 0), (7, I i), (9, .ptr 2 0 0), (14, I kk)] ∧ es = [some ⟨0, gcs false in0⟩, some ⟨0, gcs false in0⟩, some ⟨0, ((InV.mk id tag s r st p.payload).dP (.ref 3 0 1 0 p.payload.size)).cells⟩, some ⟨0, bytesD b⟩]) (p.payload.size) ⟨0, _, p.payload, rfl, rfl, rfl, Nat.zero_le _, rfl, rfl⟩ ?_
              rintro m f es ⟨k2, kk2, b2, rfl, hb2, rfl, hk2, rfl, rfl⟩ ih2
              rcases Nat.lt_or_ge k2 (p.payload.size) with hkl2 | hkg2
              · have hkl3 : decide ((k2 : Int) < (p.payload.size : Int)) = true := by simp <;> omega
                have hsb := set_bytesD b2 k2 (by omega)
                have hk1 : k2 + 1 ≤ p.payload.size := hkl2
                have hki : ((k2 : Int) < (p.payload.size : Int)) = True := by simp <;> omega
                simp +contextual (maxSteps := 10000000) only [↓reduceIte, go_sem, Nat.reduceEqDiff, Nat.reduceAdd, Nat.reduceSub, Nat.reduceMul, Nat.reduceLeDiff, Nat.reduceLT, Nat.reduceBEq, Nat.reduceDiv, Nat.reduceMod, Int.reduceLE, Int.reduceLT, Int.reduceEq, Int.reduceBEq, Int.reduceBNe, Int.reduceAdd, Int.reduceSub, Int.reduceNeg, Int.reduceToNat, Int.reduceMul, Int.reducePow, Nat.reducePow, reduceCtorEq, hR, hC, hbr, hbc, hkl3, hki, hb2, hsb, hk1, Nat.mul_one, (hf p hpm).refs, (hf p hpm).can, wrap_i64 (n := (k2 : Int) + 1) (by omega) (by omega)]
                exact ih2 (p.payload.size - (k2 + 1)) _ _ (by omega) ⟨k2 + 1, _, setB b2 k2, rfl, (setB_size b2 k2).trans hb2, rfl, hkl2, rfl, rfl⟩
              clear ih2
              have hkl3 : decide ((k2 : Int) < (p.payload.size : Int)) = false := by simp <;> omega
              simp +contextual (maxSteps := 10000000) only [↓reduceIte, go_sem, Nat.reduceEqDiff, Nat.reduceAdd, Nat.reduceSub, Nat.reduceMul, Nat.reduceLeDiff, Nat.reduceLT, Nat.reduceBEq, Nat.reduceDiv, Nat.reduceMod, Int.reduceLE, Int.reduceLT, Int.reduceEq, Int.reduceBEq, Int.reduceBNe, Int.reduceAdd, Int.reduceSub, Int.reduceNeg, Int.reduceToNat, Int.reduceMul, Int.reducePow, Nat.reducePow, reduceCtorEq, hR, hC, hbr, hbc, hkl3, hb2, (hf p hpm).refs, (hf p hpm).can, wrap_i64 (n := (i : Int) + 1) (by omega) (by omega)]
              exact ih _ _ _ (by omega) ⟨i + 1, _, false, in0, gcs false in0, rfl, rfl, hlt, by decide, fun _ => rfl, gcs_can _ _, gcs_refs _ _, .inl ⟨.ro false [], rfl, rfl, rfl, rfl, rfl⟩⟩
        · have hd' : decide ((i : Int) < dr.length) = false := by simpa using hd
          have hap : x.payload ++ p.payload = p.payload := by rw [bytes_empty hx0, nil_bytes]
          rcases s1r o x p ho hx0 hps (by omega) (hf p hpm) with ⟨e1, e2⟩ | ⟨id, tag, n, e1, e2⟩ | ⟨id, tag, s, r, st, row, hs, hrc, hrr, e1, e2⟩ | ⟨id, tag, s, r, st, e1, e2⟩
          · have w7 := same_t 0 ⟨#[]⟩ false false ⟨0, 0, 0, ⟨#[]⟩⟩ ⟨#[]⟩
            simp only [Perf.dP, gcsP, InV.dP, in0, Perf.d, Perf.cs, gRow, gcs, InV.cs, InV.d, bytesD_nil] at e1 e2 w7 hxc
            simp only [fr5, gcsP]
            simp +contextual (maxSteps := 10000000) only [↓reduceIte, go_sem, Nat.reduceEqDiff, Nat.reduceAdd, Nat.reduceSub, Nat.reduceMul, Nat.reduceLeDiff, Nat.reduceLT, Nat.reduceBEq, Nat.reduceDiv, Nat.reduceMod, Int.reduceLE, Int.reduceLT, Int.reduceEq, Int.reduceBEq, Int.reduceBNe, Int.reduceAdd, Int.reduceSub, Int.reduceNeg, Int.reduceToNat, Int.reduceMul, Int.reducePow, Nat.reducePow, reduceCtorEq, hR, hC, hbr, hbc, w5, w6, open_r, hp, hlt', hz, hbd, hd', hg1, hg2, hx0, hxc, hxr, e1, e2, (hf p hpm).refs, (hf p hpm).can]
            refine lpK_inv (fun m f es => ∃ (k : Nat) (kk : Int) (b : ByteArray), kk = k ∧ b.size = p.payload.size ∧ m = p.payload.size - k ∧ k ≤ p.payload.size ∧ f = [(0, .ro false (l.map Perf.d)), (1, .ro false (dr.map B)), (5, .ptr 0 0 0), (6, .ptr 1 0 0), (7, I i), (8, .ptr 2 0 0), (9, .ptr 4 0 0), (10, I 3), (11, .ptr 5 0 0), (12, I 3), (13, I kk)] ∧ es = [some ⟨0, gcsP o x (.ro false [])⟩, some ⟨0, gcs o x⟩, some ⟨0, (p.dP (.ref 3 0 1 0 p.payload.size)).cells⟩, some ⟨0, bytesD b⟩, some ⟨0, (in0.dP .nils).cells⟩, some ⟨0, in0.d.cells⟩]) p.payload.size ⟨0, _, p.payload, rfl, rfl, rfl, Nat.zero_le _, rfl, rfl⟩ ?_
            clear e1 e2
            rintro m f es ⟨k, kk, b, rfl, hs2, rfl, hk, rfl, rfl⟩ ih2
            rcases Nat.lt_or_ge k p.payload.size with hkl | hkg
            · have hkl' : decide ((k : Int) < p.payload.size) = true := by simpa using hkl
              have hsb := set_bytesD b k (by omega)
              have hk1 : k + 1 ≤ p.payload.size := hkl
              have hki : ((k : Int) < p.payload.size) = True := by simpa using hkl
              simp +contextual (maxSteps := 10000000) only [↓reduceIte, go_sem, Nat.reduceEqDiff, Nat.reduceAdd, Nat.reduceSub, Nat.reduceMul, Nat.reduceLeDiff, Nat.reduceLT, Nat.reduceBEq, Nat.reduceDiv, Nat.reduceMod, Int.reduceLE, Int.reduceLT, Int.reduceEq, Int.reduceBEq, Int.reduceBNe, Int.reduceAdd, Int.reduceSub, Int.reduceNeg, Int.reduceToNat, Int.reduceMul, Int.reducePow, Nat.reducePow, reduceCtorEq, hR, hC, hbr, hbc, hkl', hki, hs2, hsb, hk1, Nat.mul_one, (hf p hpm).refs, (hf p hpm).can, wrap_i64 (n := (k : Int) + 1) (by omega) (by omega)]
              exact ih2 (p.payload.size - (k + 1)) _ _ (by omega) ⟨k + 1, _, setB b k, rfl, (setB_size b k).trans hs2, rfl, hkl, rfl, rfl⟩
            clear ih2
            have hkl' : decide ((k : Int) < p.payload.size) = false := by simpa using hkg
            simp +contextual (maxSteps := 10000000) only [↓reduceIte, go_sem, Nat.reduceEqDiff, Nat.reduceAdd, Nat.reduceSub, Nat.reduceMul, Nat.reduceLeDiff, Nat.reduceLT, Nat.reduceBEq, Nat.reduceDiv, Nat.reduceMod, Int.reduceLE, Int.reduceLT, Int.reduceEq, Int.reduceBEq, Int.reduceBNe, Int.reduceAdd, Int.reduceSub, Int.reduceNeg, Int.reduceToNat, Int.reduceMul, Int.reducePow, Nat.reducePow, reduceCtorEq, hR, hC, hbr, hbc, w5, w6, open_r, w7, hkl', hs2, beq_self_eq_true, bne_self_eq_false, Bool.not_true, Bool.not_false, (hf p hpm).refs, (hf p hpm).can]
            rw [lpK_go]
            simp +contextual (maxSteps := 10000000) only [↓reduceIte, go_sem, Nat.reduceEqDiff, Nat.reduceAdd, Nat.reduceSub, Nat.reduceMul, Nat.reduceLeDiff, Nat.reduceLT, Nat.reduceBEq, Nat.reduceDiv, Nat.reduceMod, Int.reduceLE, Int.reduceLT, Int.reduceEq, Int.reduceBEq, Int.reduceBNe, Int.reduceAdd, Int.reduceSub, Int.reduceNeg, Int.reduceToNat, Int.reduceMul, Int.reducePow, Nat.reducePow, reduceCtorEq, hR, hC, hbr, hbc, w5, w6, open_r, w7, hkl', hs2, wrap_i64 (n := (i : Int) + 1) (by omega) (by omega)]
            exact ih _ _ _ (by omega) ⟨i + 1, _, o, x, gcs o x, rfl, rfl, hlt, hxs, ho, gcs_can o x, gcs_refs o x, .inl ⟨.ro false [], rfl, rfl, hx0, rfl, rfl⟩⟩
          · have w7 := same_t id tag false false ⟨0, 0, 0, ⟨#[]⟩⟩ ⟨#[]⟩
            simp only [Perf.dP, gcsP, InV.dP, in0, Perf.d, Perf.cs, gRow, gcs, InV.cs, InV.d, bytesD_nil] at e1 e2 w7 hxc
            simp only [fr5, gcsP]
            simp +contextual (maxSteps := 10000000) only [↓reduceIte, go_sem, Nat.reduceEqDiff, Nat.reduceAdd, Nat.reduceSub, Nat.reduceMul, Nat.reduceLeDiff, Nat.reduceLT, Nat.reduceBEq, Nat.reduceDiv, Nat.reduceMod, Int.reduceLE, Int.reduceLT, Int.reduceEq, Int.reduceBEq, Int.reduceBNe, Int.reduceAdd, Int.reduceSub, Int.reduceNeg, Int.reduceToNat, Int.reduceMul, Int.reducePow, Nat.reducePow, reduceCtorEq, hR, hC, hbr, hbc, w5, w6, open_r, hp, hlt', hz, hbd, hd', hg1, hg2, hx0, hxc, hxr, e1, e2, (hf p hpm).refs, (hf p hpm).can]
            refine lpK_inv (fun m f es => ∃ (k : Nat) (kk : Int) (b : ByteArray), kk = k ∧ b.size = p.payload.size ∧ m = p.payload.size - k ∧ k ≤ p.payload.size ∧ f = [(0, .ro false (l.map Perf.d)), (1, .ro false (dr.map B)), (5, .ptr 0 0 0), (6, .ptr 1 0 0), (7, I i), (8, .ptr 2 0 0), (9, .ptr 4 0 0), (10, I n), (11, .ptr 5 0 0), (12, I n), (13, I kk)] ∧ es = [some ⟨0, gz⟩, some ⟨0, gz⟩, some ⟨0, (p.dP (.ref 3 0 1 0 p.payload.size)).cells⟩, some ⟨0, bytesD b⟩, some ⟨0, ((InV.mk id tag false false ⟨0, 0, 0, ⟨#[]⟩⟩ ⟨#[]⟩).dP .nils).cells⟩, some ⟨0, (InV.mk id tag false false ⟨0, 0, 0, ⟨#[]⟩⟩ ⟨#[]⟩).d.cells⟩]) p.payload.size ⟨0, _, p.payload, rfl, rfl, rfl, Nat.zero_le _, rfl, rfl⟩ ?_
            clear e1 e2
            rintro m f es ⟨k, kk, b, rfl, hs2, rfl, hk, rfl, rfl⟩ ih2
            rcases Nat.lt_or_ge k p.payload.size with hkl | hkg
            · have hkl' : decide ((k : Int) < p.payload.size) = true := by simpa using hkl
              have hsb := set_bytesD b k (by omega)
              have hk1 : k + 1 ≤ p.payload.size := hkl
              have hki : ((k : Int) < p.payload.size) = True := by simpa using hkl
              simp +contextual (maxSteps := 10000000) only [↓reduceIte, go_sem, Nat.reduceEqDiff, Nat.reduceAdd, Nat.reduceSub, Nat.reduceMul, Nat.reduceLeDiff, Nat.reduceLT, Nat.reduceBEq, Nat.reduceDiv, Nat.reduceMod, Int.reduceLE, Int.reduceLT, Int.reduceEq, Int.reduceBEq, Int.reduceBNe, Int.reduceAdd, Int.reduceSub, Int.reduceNeg, Int.reduceToNat, Int.reduceMul, Int.reducePow, Nat.reducePow, reduceCtorEq, hR, hC, hbr, hbc, hkl', hki, hs2, hsb, hk1, Nat.mul_one, (hf p hpm).refs, (hf p hpm).can, wrap_i64 (n := (k : Int) + 1) (by omega) (by omega)]
              exact ih2 (p.payload.size - (k + 1)) _ _ (by omega) ⟨k + 1, _, setB b k, rfl, (setB_size b k).trans hs2, rfl, hkl, rfl, rfl⟩
            clear ih2
            have hkl' : decide ((k : Int) < p.payload.size) = false := by simpa using hkg
            simp +contextual (maxSteps := 10000000) only [↓reduceIte, go_sem, Nat.reduceEqDiff, Nat.reduceAdd, Nat.reduceSub, Nat.reduceMul, Nat.reduceLeDiff, Nat.reduceLT, Nat.reduceBEq, Nat.reduceDiv, Nat.reduceMod, Int.reduceLE, Int.reduceLT, Int.reduceEq, Int.reduceBEq, Int.reduceBNe, Int.reduceAdd, Int.reduceSub, Int.reduceNeg, Int.reduceToNat, Int.reduceMul, Int.reducePow, Nat.reducePow, reduceCtorEq, hR, hC, hbr, hbc, w5, w6, open_r, w7, hkl', hs2, beq_self_eq_true, bne_self_eq_false, Bool.not_true, Bool.not_false, (hf p hpm).refs, (hf p hpm).can]
            rw [lpK_go]
            simp +contextual (maxSteps := 10000000) only [↓reduceIte, go_sem, Nat.reduceEqDiff, Nat.reduceAdd, Nat.reduceSub, Nat.reduceMul, Nat.reduceLeDiff, Nat.reduceLT, Nat.reduceBEq, Nat.reduceDiv, Nat.reduceMod, Int.reduceLE, Int.reduceLT, Int.reduceEq, Int.reduceBEq, Int.reduceBNe, Int.reduceAdd, Int.reduceSub, Int.reduceNeg, Int.reduceToNat, Int.reduceMul, Int.reducePow, Nat.reducePow, reduceCtorEq, hR, hC, hbr, hbc, w5, w6, open_r, w7, hkl', hs2, wrap_i64 (n := (i : Int) + 1) (by omega) (by omega)]
            exact ih _ _ _ (by omega) ⟨i + 1, _, false, in0, gcs false in0, rfl, rfl, hlt, by decide, fun _ => rfl, gcs_can _ _, gcs_refs _ _, .inl ⟨.ro false [], rfl, rfl, rfl, rfl, rfl⟩⟩
          · have w7 := same_t 0 ⟨#[]⟩ false false ⟨0, 0, 0, ⟨#[]⟩⟩ ⟨#[]⟩
            rw [hap] at hrc e1
            simp only [Perf.dP, gcsP, InV.dP, in0, Perf.d, Perf.cs, gRow, gcs, InV.cs, InV.d, bytesD_nil] at e1 e2 w7 hxc hrc
            simp only [fr5, gcsP]
            simp +contextual (maxSteps := 10000000) only [↓reduceIte, go_sem, Nat.reduceEqDiff, Nat.reduceAdd, Nat.reduceSub, Nat.reduceMul, Nat.reduceLeDiff, Nat.reduceLT, Nat.reduceBEq, Nat.reduceDiv, Nat.reduceMod, Int.reduceLE, Int.reduceLT, Int.reduceEq, Int.reduceBEq, Int.reduceBNe, Int.reduceAdd, Int.reduceSub, Int.reduceNeg, Int.reduceToNat, Int.reduceMul, Int.reducePow, Nat.reducePow, reduceCtorEq, hR, hC, hbr, hbc, w5, w6, open_r, hp, hlt', hz, hbd, hd', hg1, hg2, hx0, hxc, hxr, e1, e2, hrc, hrr, (hf p hpm).refs, (hf p hpm).can]
            refine lpK_inv (fun m f es => ∃ (k : Nat) (kk : Int) (b : ByteArray), kk = k ∧ b.size = p.payload.size ∧ m = p.payload.size - k ∧ k ≤ p.payload.size ∧ f = [(0, .ro false (l.map Perf.d)), (1, .ro false (dr.map B)), (5, .ptr 0 0 0), (6, .ptr 2 0 0), (7, I i), (8, .ptr 3 0 0), (9, .ptr 5 0 0), (10, I 0), (11, .ptr 6 0 0), (12, I 0), (13, I kk)] ∧ es = [some ⟨0, gcsP true (InV.mk id tag s r st p.payload) (.ref 1 0 1 0 p.payload.size)⟩, some ⟨0, bytesD p.payload⟩, some ⟨0, row⟩, some ⟨0, (p.dP (.ref 4 0 1 0 p.payload.size)).cells⟩, some ⟨0, bytesD b⟩, some ⟨0, (in0.dP .nils).cells⟩, some ⟨0, in0.d.cells⟩]) p.payload.size ⟨0, _, p.payload, rfl, rfl, rfl, Nat.zero_le _, rfl, rfl⟩ ?_
            clear e1 e2
            rintro m f es ⟨k, kk, b, rfl, hs2, rfl, hk, rfl, rfl⟩ ih2
            rcases Nat.lt_or_ge k p.payload.size with hkl | hkg
            · have hkl' : decide ((k : Int) < p.payload.size) = true := by simpa using hkl
              have hsb := set_bytesD b k (by omega)
              have hk1 : k + 1 ≤ p.payload.size := hkl
              have hki : ((k : Int) < p.payload.size) = True := by simpa using hkl
              simp +contextual (maxSteps := 10000000) only [↓reduceIte, go_sem, Nat.reduceEqDiff, Nat.reduceAdd, Nat.reduceSub, Nat.reduceMul, Nat.reduceLeDiff, Nat.reduceLT, Nat.reduceBEq, Nat.reduceDiv, Nat.reduceMod, Int.reduceLE, Int.reduceLT, Int.reduceEq, Int.reduceBEq, Int.reduceBNe, Int.reduceAdd, Int.reduceSub, Int.reduceNeg, Int.reduceToNat, Int.reduceMul, Int.reducePow, Nat.reducePow, reduceCtorEq, hR, hC, hbr, hbc, hkl', hki, hs2, hsb, hk1, Nat.mul_one, hrc, hrr, (hf p hpm).refs, (hf p hpm).can, wrap_i64 (n := (k : Int) + 1) (by omega) (by omega)]
              exact ih2 (p.payload.size - (k + 1)) _ _ (by omega) ⟨k + 1, _, setB b k, rfl, (setB_size b k).trans hs2, rfl, hkl, rfl, rfl⟩
            clear ih2
            have hkl' : decide ((k : Int) < p.payload.size) = false := by simpa using hkg
            simp +contextual (maxSteps := 10000000) only [↓reduceIte, go_sem, Nat.reduceEqDiff, Nat.reduceAdd, Nat.reduceSub, Nat.reduceMul, Nat.reduceLeDiff, Nat.reduceLT, Nat.reduceBEq, Nat.reduceDiv, Nat.reduceMod, Int.reduceLE, Int.reduceLT, Int.reduceEq, Int.reduceBEq, Int.reduceBNe, Int.reduceAdd, Int.reduceSub, Int.reduceNeg, Int.reduceToNat, Int.reduceMul, Int.reducePow, Nat.reducePow, reduceCtorEq, hR, hC, hbr, hbc, w5, w6, open_r, w7, hrc, hrr, hkl', hs2, beq_self_eq_true, bne_self_eq_false, Bool.not_true, Bool.not_false, (hf p hpm).refs, (hf p hpm).can]
            rw [lpK_go]
            simp +contextual (maxSteps := 10000000) only [↓reduceIte, go_sem, Nat.reduceEqDiff, Nat.reduceAdd, Nat.reduceSub, Nat.reduceMul, Nat.reduceLeDiff, Nat.reduceLT, Nat.reduceBEq, Nat.reduceDiv, Nat.reduceMod, Int.reduceLE, Int.reduceLT, Int.reduceEq, Int.reduceBEq, Int.reduceBNe, Int.reduceAdd, Int.reduceSub, Int.reduceNeg, Int.reduceToNat, Int.reduceMul, Int.reducePow, Nat.reducePow, reduceCtorEq, hR, hC, hbr, hbc, w5, w6, open_r, w7, hrc, hrr, hkl', hs2, wrap_i64 (n := (i : Int) + 1) (by omega) (by omega)]
            exact ih _ _ _ (by omega) ⟨i + 1, _, true, (InV.mk id tag s r st p.payload), gcs true (InV.mk id tag s r st p.payload), rfl, rfl, hlt, by show p.payload.size ≤ 4096; omega, fun h => absurd h (by decide), gcs_can _ _, gcs_refs _ _, .inr ⟨rfl, by show 0 < p.payload.size; omega, rfl, rfl⟩⟩
          · have w7 := same_r id tag s r st p.payload (by omega)
            rw [hap] at e1 e2
            simp only [Perf.dP, gcsP, InV.dP, in0, Perf.d, Perf.cs, gRow, gcs, InV.cs, InV.d, bytesD_nil] at e1 e2 w7 hxc
            simp only [fr5, gcsP]
            simp +contextual (maxSteps := 10000000) only [↓reduceIte, go_sem, Nat.reduceEqDiff, Nat.reduceAdd, Nat.reduceSub, Nat.reduceMul, Nat.reduceLeDiff, Nat.reduceLT, Nat.reduceBEq, Nat.reduceDiv, Nat.reduceMod, Int.reduceLE, Int.reduceLT, Int.reduceEq, Int.reduceBEq, Int.reduceBNe, Int.reduceAdd, Int.reduceSub, Int.reduceNeg, Int.reduceToNat, Int.reduceMul, Int.reducePow, Nat.reducePow, reduceCtorEq, hR, hC, hbr, hbc, w5, w6, open_r, hp, hlt', hz, hbd, hd', hg1, hg2, hx0, hxc, hxr, e1, e2, (hf p hpm).refs, (hf p hpm).can]
            refine lpK_inv (fun m f es => ∃ (k : Nat) (kk : Int) (b : ByteArray), kk = k ∧ b.size = p.payload.size ∧ m = p.payload.size - k ∧ k ≤ p.payload.size ∧ f = [(0, .ro false (l.map Perf.d)), (1, .ro false (dr.map B)), (5, .ptr 0 0 0), (6, .ptr 1 0 0), (7, I i), (8, .ptr 2 0 0), (9, .ptr 4 0 0), (10, I 1), (11, .ptr 6 0 0), (12, I 1), (13, I kk)] ∧ es = [some ⟨0, gz⟩, some ⟨0, gz⟩, some ⟨0, (p.dP (.ref 3 0 1 0 p.payload.size)).cells⟩, some ⟨0, bytesD b⟩, some ⟨0, ((InV.mk id tag s r st p.payload).dP (.ref 5 0 1 0 p.payload.size)).cells⟩, some ⟨0, bytesD p.payload⟩, some ⟨0, (InV.mk id tag s r st p.payload).d.cells⟩]) p.payload.size ⟨0, _, p.payload, rfl, rfl, rfl, Nat.zero_le _, rfl, rfl⟩ ?_
            clear e1 e2
            rintro m f es ⟨k, kk, b, rfl, hs2, rfl, hk, rfl, rfl⟩ ih2
            rcases Nat.lt_or_ge k p.payload.size with hkl | hkg
            · have hkl' : decide ((k : Int) < p.payload.size) = true := by simpa using hkl
              have hsb := set_bytesD b k (by omega)
              have hk1 : k + 1 ≤ p.payload.size := hkl
              have hki : ((k : Int) < p.payload.size) = True := by simpa using hkl
              simp +contextual (maxSteps := 10000000) only [↓reduceIte, go_sem, Nat.reduceEqDiff, Nat.reduceAdd, Nat.reduceSub, Nat.reduceMul, Nat.reduceLeDiff, Nat.reduceLT, Nat.reduceBEq, Nat.reduceDiv, Nat.reduceMod, Int.reduceLE, Int.reduceLT, Int.reduceEq, Int.reduceBEq, Int.reduceBNe, Int.reduceAdd, Int.reduceSub, Int.reduceNeg, Int.reduceToNat, Int.reduceMul, Int.reducePow, Nat.reducePow, reduceCtorEq, hR, hC, hbr, hbc, hkl', hki, hs2, hsb, hk1, Nat.mul_one, (hf p hpm).refs, (hf p hpm).can, wrap_i64 (n := (k : Int) + 1) (by omega) (by omega)]
              exact ih2 (p.payload.size - (k + 1)) _ _ (by omega) ⟨k + 1, _, setB b k, rfl, (setB_size b k).trans hs2, rfl, hkl, rfl, rfl⟩
            clear ih2
            have hkl' : decide ((k : Int) < p.payload.size) = false := by simpa using hkg
            simp +contextual (maxSteps := 10000000) only [↓reduceIte, go_sem, Nat.reduceEqDiff, Nat.reduceAdd, Nat.reduceSub, Nat.reduceMul, Nat.reduceLeDiff, Nat.reduceLT, Nat.reduceBEq, Nat.reduceDiv, Nat.reduceMod, Int.reduceLE, Int.reduceLT, Int.reduceEq, Int.reduceBEq, Int.reduceBNe, Int.reduceAdd, Int.reduceSub, Int.reduceNeg, Int.reduceToNat, Int.reduceMul, Int.reducePow, Nat.reducePow, reduceCtorEq, hR, hC, hbr, hbc, w5, w6, open_r, w7, hkl', hs2, beq_self_eq_true, bne_self_eq_false, Bool.not_true, Bool.not_false, (hf p hpm).refs, (hf p hpm).can]
            refine lpK_inv (fun m f es => ∃ (k : Nat) (kk : Int) (b : ByteArray), kk = k ∧ b.size = p.payload.size ∧ m = p.payload.size - k ∧ k ≤ p.payload.size ∧ f = [(0, .ro false (l.map Perf.d)), (1, .ro false (dr.map B)), (5, .ptr 0 0 0), (6, .ptr 1 0 0), (7, I i), (9, .ptr 2 0 0), (14, I kk)] ∧ es = [some ⟨0, gcs false in0⟩, some ⟨0, gcs false in0⟩, some ⟨0, ((InV.mk id tag s r st p.payload).dP (.ref 3 0 1 0 p.payload.size)).cells⟩, some ⟨0, bytesD b⟩]) (p.payload.size) ⟨0, _, p.payload, rfl, rfl, rfl, Nat.zero_le _, rfl, rfl⟩ ?_
            rintro m f es ⟨k2, kk2, b2, rfl, hb2, rfl, hk2, rfl, rfl⟩ ih2
            rcases Nat.lt_or_ge k2 (p.payload.size) with hkl2 | hkg2
            · have hkl3 : decide ((k2 : Int) < (p.payload.size : Int)) = true := by simp <;> omega
              have hsb := set_bytesD b2 k2 (by omega)
              have hk1 : k2 + 1 ≤ p.payload.size := hkl2
              have hki : ((k2 : Int) < (p.payload.size : Int)) = True := by simp <;> omega
              simp +contextual (maxSteps := 10000000) only [↓reduceIte, go_sem, Nat.reduceEqDiff, Nat.reduceAdd, Nat.reduceSub, Nat.reduceMul, Nat.reduceLeDiff, Nat.reduceLT, Nat.reduceBEq, Nat.reduceDiv, Nat.reduceMod, Int.reduceLE, Int.reduceLT, Int.reduceEq, Int.reduceBEq, Int.reduceBNe, Int.reduceAdd, Int.reduceSub, Int.reduceNeg, Int.reduceToNat, Int.reduceMul, Int.reducePow, Nat.reducePow, reduceCtorEq, hR, hC, hbr, hbc, hkl3, hki, hb2, hsb, hk1, Nat.mul_one, (hf p hpm).refs, (hf p hpm).can, wrap_i64 (n := (k2 : Int) + 1) (by omega) (by omega)]
              exact ih2 (p.payload.size - (k2 + 1)) _ _ (by omega) ⟨k2 + 1, _, setB b2 k2, rfl, (setB_size b2 k2).trans hb2, rfl, hkl2, rfl, rfl⟩
            clear ih2
            have hkl3 : decide ((k2 : Int) < (p.payload.size : Int)) = false := by simp <;> omega
            simp +contextual (maxSteps := 10000000) only [↓reduceIte, go_sem, Nat.reduceEqDiff, Nat.reduceAdd, Nat.reduceSub, Nat.reduceMul, Nat.reduceLeDiff, Nat.reduceLT, Nat.reduceBEq, Nat.reduceDiv, Nat.reduceMod, Int.reduceLE, Int.reduceLT, Int.reduceEq, Int.reduceBEq, Int.reduceBNe, Int.reduceAdd, Int.reduceSub, Int.reduceNeg, Int.reduceToNat, Int.reduceMul, Int.reducePow, Nat.reducePow, reduceCtorEq, hR, hC, hbr, hbc, hkl3, hb2, (hf p hpm).refs, (hf p hpm).can, wrap_i64 (n := (i : Int) + 1) (by omega) (by omega)]
            exact ih _ _ _ (by omega) ⟨i + 1, _, false, in0, gcs false in0, rfl, rfl, hlt, by decide, fun _ => rfl, gcs_can _ _, gcs_refs _ _, .inl ⟨.ro false [], rfl, rfl, rfl, rfl, rfl⟩⟩
      · rcases Nat.lt_or_ge i dr.length with hd | hd
        · obtain ⟨b, hdb⟩ := get_lt hd
          have hd' : decide ((i : Int) < dr.length) = true := by simpa using hd
          have hd2 : (i : Int) < dr.length := by omega
          cases b
          · rcases s2r x p (by omega) hx0 hps (by omega) (hf p hpm) with ⟨e1, e2⟩ | ⟨id, tag, n, e1, e2⟩ | ⟨id, tag, s, r, st, row, hs, hrc, hrr, e1, e2⟩ | ⟨id, tag, s, r, st, e1, e2⟩
            · have w7 := same_t 0 ⟨#[]⟩ false false ⟨0, 0, 0, ⟨#[]⟩⟩ ⟨#[]⟩
              simp only [Perf.dP, gcsP, InV.dP, in0, Perf.d, Perf.cs, gRow, gcs, InV.cs, InV.d, bytesD_nil] at e1 e2 w7 hxc
              simp only [fr5, gcsP]
              simp +contextual (maxSteps := 10000000) only [↓reduceIte, go_sem, Nat.reduceEqDiff, Nat.reduceAdd, Nat.reduceSub, Nat.reduceMul, Nat.reduceLeDiff, Nat.reduceLT, Nat.reduceBEq, Nat.reduceDiv, Nat.reduceMod, Int.reduceLE, Int.reduceLT, Int.reduceEq, Int.reduceBEq, Int.reduceBNe, Int.reduceAdd, Int.reduceSub, Int.reduceNeg, Int.reduceToNat, Int.reduceMul, Int.reducePow, Nat.reducePow, reduceCtorEq, hR, hC, hbr, hbc, w5, w6, open_r, hp, hlt', hz, hbd, hd', hdb, hd2, hx0, hxc, hxr, e1, e2, (hf p hpm).refs, (hf p hpm).can]
              refine lpK_inv (fun m f es => ∃ (k : Nat) (kk : Int) (b : ByteArray), kk = k ∧ b.size = p.payload.size ∧ m = p.payload.size - k ∧ k ≤ p.payload.size ∧ f = [(0, .ro false (l.map Perf.d)), (1, .ro false (dr.map B)), (5, .ptr 0 0 0), (6, .ptr 2 0 0), (7, I i), (8, .ptr 3 0 0), (9, .ptr 5 0 0), (10, I 3), (11, .ptr 6 0 0), (12, I 3), (13, I kk)] ∧ es = [some ⟨0, gcsP true x (.ref 1 0 1 0 x.payload.size)⟩, some ⟨0, bytesD x.payload⟩, some ⟨0, gcs true x⟩, some ⟨0, (p.dP (.ref 4 0 1 0 p.payload.size)).cells⟩, some ⟨0, bytesD b⟩, some ⟨0, (in0.dP .nils).cells⟩, some ⟨0, in0.d.cells⟩]) p.payload.size ⟨0, _, p.payload, rfl, rfl, rfl, Nat.zero_le _, rfl, rfl⟩ ?_
              clear e1 e2
              rintro m f es ⟨k, kk, b, rfl, hs2, rfl, hk, rfl, rfl⟩ ih2
              rcases Nat.lt_or_ge k p.payload.size with hkl | hkg
              · have hkl' : decide ((k : Int) < p.payload.size) = true := by simpa using hkl
                have hsb := set_bytesD b k (by omega)
                have hk1 : k + 1 ≤ p.payload.size := hkl
                have hki : ((k : Int) < p.payload.size) = True := by simpa using hkl
                simp +contextual (maxSteps := 10000000) only [↓reduceIte, go_sem, Nat.reduceEqDiff, Nat.reduceAdd, Nat.reduceSub, Nat.reduceMul, Nat.reduceLeDiff, Nat.reduceLT, Nat.reduceBEq, Nat.reduceDiv, Nat.reduceMod, Int.reduceLE, Int.reduceLT, Int.reduceEq, Int.reduceBEq, Int.reduceBNe, Int.reduceAdd, Int.reduceSub, Int.reduceNeg, Int.reduceToNat, Int.reduceMul, Int.reducePow, Nat.reducePow, reduceCtorEq, hR, hC, hbr, hbc, hkl', hki, hs2, hsb, hk1, Nat.mul_one, (hf p hpm).refs, (hf p hpm).can, wrap_i64 (n := (k : Int) + 1) (by omega) (by omega)]
                exact ih2 (p.payload.size - (k + 1)) _ _ (by omega) ⟨k + 1, _, setB b k, rfl, (setB_size b k).trans hs2, rfl, hkl, rfl, rfl⟩
              clear ih2
              have hkl' : decide ((k : Int) < p.payload.size) = false := by simpa using hkg
              simp +contextual (maxSteps := 10000000) only [↓reduceIte, go_sem, Nat.reduceEqDiff, Nat.reduceAdd, Nat.reduceSub, Nat.reduceMul, Nat.reduceLeDiff, Nat.reduceLT, Nat.reduceBEq, Nat.reduceDiv, Nat.reduceMod, Int.reduceLE, Int.reduceLT, Int.reduceEq, Int.reduceBEq, Int.reduceBNe, Int.reduceAdd, Int.reduceSub, Int.reduceNeg, Int.reduceToNat, Int.reduceMul, Int.reducePow, Nat.reducePow, reduceCtorEq, hR, hC, hbr, hbc, w5, w6, open_r, w7, hkl', hs2, beq_self_eq_true, bne_self_eq_false, Bool.not_true, Bool.not_false, (hf p hpm).refs, (hf p hpm).can]
              rw [lpK_go]
              simp +contextual (maxSteps := 10000000) only [↓reduceIte, go_sem, Nat.reduceEqDiff, Nat.reduceAdd, Nat.reduceSub, Nat.reduceMul, Nat.reduceLeDiff, Nat.reduceLT, Nat.reduceBEq, Nat.reduceDiv, Nat.reduceMod, Int.reduceLE, Int.reduceLT, Int.reduceEq, Int.reduceBEq, Int.reduceBNe, Int.reduceAdd, Int.reduceSub, Int.reduceNeg, Int.reduceToNat, Int.reduceMul, Int.reducePow, Nat.reducePow, reduceCtorEq, hR, hC, hbr, hbc, w5, w6, open_r, w7, hkl', hs2, wrap_i64 (n := (i : Int) + 1) (by omega) (by omega)]
              exact ih _ _ _ (by omega) ⟨i + 1, _, true, x, gcs true x, rfl, rfl, hlt, hxs, fun h => absurd h (by decide), gcs_can _ _, gcs_refs _ _, .inr ⟨rfl, hx0, rfl, rfl⟩⟩
            · have w7 := same_t id tag false false ⟨0, 0, 0, ⟨#[]⟩⟩ ⟨#[]⟩
              simp only [Perf.dP, gcsP, InV.dP, in0, Perf.d, Perf.cs, gRow, gcs, InV.cs, InV.d, bytesD_nil] at e1 e2 w7 hxc
              simp only [fr5, gcsP]
              simp +contextual (maxSteps := 10000000) only [↓reduceIte, go_sem, Nat.reduceEqDiff, Nat.reduceAdd, Nat.reduceSub, Nat.reduceMul, Nat.reduceLeDiff, Nat.reduceLT, Nat.reduceBEq, Nat.reduceDiv, Nat.reduceMod, Int.reduceLE, Int.reduceLT, Int.reduceEq, Int.reduceBEq, Int.reduceBNe, Int.reduceAdd, Int.reduceSub, Int.reduceNeg, Int.reduceToNat, Int.reduceMul, Int.reducePow, Nat.reducePow, reduceCtorEq, hR, hC, hbr, hbc, w5, w6, open_r, hp, hlt', hz, hbd, hd', hdb, hd2, hx0, hxc, hxr, e1, e2, (hf p hpm).refs, (hf p hpm).can]
              refine lpK_inv (fun m f es => ∃ (k : Nat) (kk : Int) (b : ByteArray), kk = k ∧ b.size = p.payload.size ∧ m = p.payload.size - k ∧ k ≤ p.payload.size ∧ f = [(0, .ro false (l.map Perf.d)), (1, .ro false (dr.map B)), (5, .ptr 0 0 0), (6, .ptr 1 0 0), (7, I i), (8, .ptr 2 0 0), (9, .ptr 4 0 0), (10, I n), (11, .ptr 5 0 0), (12, I n), (13, I kk)] ∧ es = [some ⟨0, gz⟩, some ⟨0, gz⟩, some ⟨0, (p.dP (.ref 3 0 1 0 p.payload.size)).cells⟩, some ⟨0, bytesD b⟩, some ⟨0, ((InV.mk id tag false false ⟨0, 0, 0, ⟨#[]⟩⟩ ⟨#[]⟩).dP .nils).cells⟩, some ⟨0, (InV.mk id tag false false ⟨0, 0, 0, ⟨#[]⟩⟩ ⟨#[]⟩).d.cells⟩]) p.payload.size ⟨0, _, p.payload, rfl, rfl, rfl, Nat.zero_le _, rfl, rfl⟩ ?_
              clear e1 e2
              rintro m f es ⟨k, kk, b, rfl, hs2, rfl, hk, rfl, rfl⟩ ih2
              rcases Nat.lt_or_ge k p.payload.size with hkl | hkg
              · have hkl' : decide ((k : Int) < p.payload.size) = true := by simpa using hkl
                have hsb := set_bytesD b k (by omega)
                have hk1 : k + 1 ≤ p.payload.size := hkl
                have hki : ((k : Int) < p.payload.size) = True := by simpa using hkl
                simp +contextual (maxSteps := 10000000) only [↓reduceIte, go_sem, Nat.reduceEqDiff, Nat.reduceAdd, Nat.reduceSub, Nat.reduceMul, Nat.reduceLeDiff, Nat.reduceLT, Nat.reduceBEq, Nat.reduceDiv, Nat.reduceMod, Int.reduceLE, Int.reduceLT, Int.reduceEq, Int.reduceBEq, Int.reduceBNe, Int.reduceAdd, Int.reduceSub, Int.reduceNeg, Int.reduceToNat, Int.reduceMul, Int.reducePow, Nat.reducePow, reduceCtorEq, hR, hC, hbr, hbc, hkl', hki, hs2, hsb, hk1, Nat.mul_one, (hf p hpm).refs, (hf p hpm).can, wrap_i64 (n := (k : Int) + 1) (by omega) (by omega)]
                exact ih2 (p.payload.size - (k + 1)) _ _ (by omega) ⟨k + 1, _, setB b k, rfl, (setB_size b k).trans hs2, rfl, hkl, rfl, rfl⟩
              clear ih2
              have hkl' : decide ((k : Int) < p.payload.size) = false := by simpa using hkg
              simp +contextual (maxSteps := 10000000) only [↓reduceIte, go_sem, Nat.reduceEqDiff, Nat.reduceAdd, Nat.reduceSub, Nat.reduceMul, Nat.reduceLeDiff, Nat.reduceLT, Nat.reduceBEq, Nat.reduceDiv, Nat.reduceMod, Int.reduceLE, Int.reduceLT, Int.reduceEq, Int.reduceBEq, Int.reduceBNe, Int.reduceAdd, Int.reduceSub, Int.reduceNeg, Int.reduceToNat, Int.reduceMul, Int.reducePow, Nat.reducePow, reduceCtorEq, hR, hC, hbr, hbc, w5, w6, open_r, w7, hkl', hs2, beq_self_eq_true, bne_self_eq_false, Bool.not_true, Bool.not_false, (hf p hpm).refs, (hf p hpm).can]
              rw [lpK_go]
              simp +contextual (maxSteps := 10000000) only [↓reduceIte, go_sem, Nat.reduceEqDiff, Nat.reduceAdd, Nat.reduceSub, Nat.reduceMul, Nat.reduceLeDiff, Nat.reduceLT, Nat.reduceBEq, Nat.reduceDiv, Nat.reduceMod, Int.reduceLE, Int.reduceLT, Int.reduceEq, Int.reduceBEq, Int.reduceBNe, Int.reduceAdd, Int.reduceSub, Int.reduceNeg, Int.reduceToNat, Int.reduceMul, Int.reducePow, Nat.reducePow, reduceCtorEq, hR, hC, hbr, hbc, w5, w6, open_r, w7, hkl', hs2, wrap_i64 (n := (i : Int) + 1) (by omega) (by omega)]
              exact ih _ _ _ (by omega) ⟨i + 1, _, false, in0, gcs false in0, rfl, rfl, hlt, by decide, fun _ => rfl, gcs_can _ _, gcs_refs _ _, .inl ⟨.ro false [], rfl, rfl, rfl, rfl, rfl⟩⟩
            · have w7 := same_t 0 ⟨#[]⟩ false false ⟨0, 0, 0, ⟨#[]⟩⟩ ⟨#[]⟩
              have hsz : (x.payload ++ p.payload).size = x.payload.size + p.payload.size := ByteArray.size_append ..
              simp only [Perf.dP, gcsP, InV.dP, in0, Perf.d, Perf.cs, gRow, gcs, InV.cs, InV.d, bytesD_nil] at e1 e2 w7 hxc hrc
              simp only [fr5, gcsP]
              simp +contextual (maxSteps := 10000000) only [↓reduceIte, go_sem, Nat.reduceEqDiff, Nat.reduceAdd, Nat.reduceSub, Nat.reduceMul, Nat.reduceLeDiff, Nat.reduceLT, Nat.reduceBEq, Nat.reduceDiv, Nat.reduceMod, Int.reduceLE, Int.reduceLT, Int.reduceEq, Int.reduceBEq, Int.reduceBNe, Int.reduceAdd, Int.reduceSub, Int.reduceNeg, Int.reduceToNat, Int.reduceMul, Int.reducePow, Nat.reducePow, reduceCtorEq, hR, hC, hbr, hbc, w5, w6, open_r, hp, hlt', hz, hbd, hd', hdb, hd2, hx0, hxc, hxr, e1, e2, hrc, hrr, hsz, (hf p hpm).refs, (hf p hpm).can]
              refine lpK_inv (fun m f es => ∃ (k : Nat) (kk : Int) (b : ByteArray), kk = k ∧ b.size = p.payload.size ∧ m = p.payload.size - k ∧ k ≤ p.payload.size ∧ f = [(0, .ro false (l.map Perf.d)), (1, .ro false (dr.map B)), (5, .ptr 0 0 0), (6, .ptr 2 0 0), (7, I i), (8, .ptr 3 0 0), (9, .ptr 5 0 0), (10, I 0), (11, .ptr 6 0 0), (12, I 0), (13, I kk)] ∧ es = [some ⟨0, gcsP true (InV.mk id tag s r st (x.payload ++ p.payload)) (.ref 1 0 1 0 (x.payload.size + p.payload.size))⟩, some ⟨0, bytesD (x.payload ++ p.payload)⟩, some ⟨0, row⟩, some ⟨0, (p.dP (.ref 4 0 1 0 p.payload.size)).cells⟩, some ⟨0, bytesD b⟩, some ⟨0, (in0.dP .nils).cells⟩, some ⟨0, in0.d.cells⟩]) p.payload.size ⟨0, _, p.payload, rfl, rfl, rfl, Nat.zero_le _, rfl, rfl⟩ ?_
              clear e1 e2
              rintro m f es ⟨k, kk, b, rfl, hs2, rfl, hk, rfl, rfl⟩ ih2
              rcases Nat.lt_or_ge k p.payload.size with hkl | hkg
              · have hkl' : decide ((k : Int) < p.payload.size) = true := by simpa using hkl
                have hsb := set_bytesD b k (by omega)
                have hk1 : k + 1 ≤ p.payload.size := hkl
                have hki : ((k : Int) < p.payload.size) = True := by simpa using hkl
                simp +contextual (maxSteps := 10000000) only [↓reduceIte, go_sem, Nat.reduceEqDiff, Nat.reduceAdd, Nat.reduceSub, Nat.reduceMul, Nat.reduceLeDiff, Nat.reduceLT, Nat.reduceBEq, Nat.reduceDiv, Nat.reduceMod, Int.reduceLE, Int.reduceLT, Int.reduceEq, Int.reduceBEq, Int.reduceBNe, Int.reduceAdd, Int.reduceSub, Int.reduceNeg, Int.reduceToNat, Int.reduceMul, Int.reducePow, Nat.reducePow, reduceCtorEq, hR, hC, hbr, hbc, hkl', hki, hs2, hsb, hk1, Nat.mul_one, hrc, hrr, hsz, (hf p hpm).refs, (hf p hpm).can, wrap_i64 (n := (k : Int) + 1) (by omega) (by omega)]
                exact ih2 (p.payload.size - (k + 1)) _ _ (by omega) ⟨k + 1, _, setB b k, rfl, (setB_size b k).trans hs2, rfl, hkl, rfl, rfl⟩
              clear ih2
              have hkl' : decide ((k : Int) < p.payload.size) = false := by simpa using hkg
              simp +contextual (maxSteps := 10000000) only [↓reduceIte, go_sem, Nat.reduceEqDiff, Nat.reduceAdd, Nat.reduceSub, Nat.reduceMul, Nat.reduceLeDiff, Nat.reduceLT, Nat.reduceBEq, Nat.reduceDiv, Nat.reduceMod, Int.reduceLE, Int.reduceLT, Int.reduceEq, Int.reduceBEq, Int.reduceBNe, Int.reduceAdd, Int.reduceSub, Int.reduceNeg, Int.reduceToNat, Int.reduceMul, Int.reducePow, Nat.reducePow, reduceCtorEq, hR, hC, hbr, hbc, w5, w6, open_r, w7, hrc, hrr, hsz, hkl', hs2, beq_self_eq_true, bne_self_eq_false, Bool.not_true, Bool.not_false, (hf p hpm).refs, (hf p hpm).can]
              rw [lpK_go]
              simp +contextual (maxSteps := 10000000) only [↓reduceIte, go_sem, Nat.reduceEqDiff, Nat.reduceAdd, Nat.reduceSub, Nat.reduceMul, Nat.reduceLeDiff, Nat.reduceLT, Nat.reduceBEq, Nat.reduceDiv, Nat.reduceMod, Int.reduceLE, Int.reduceLT, Int.reduceEq, Int.reduceBEq, Int.reduceBNe, Int.reduceAdd, Int.reduceSub, Int.reduceNeg, Int.reduceToNat, Int.reduceMul, Int.reducePow, Nat.reducePow, reduceCtorEq, hR, hC, hbr, hbc, w5, w6, open_r, w7, hrc, hrr, hsz, hkl', hs2, wrap_i64 (n := (i : Int) + 1) (by omega) (by omega)]
              exact ih _ _ _ (by omega) ⟨i + 1, _, true, (InV.mk id tag s r st (x.payload ++ p.payload)), gcs true (InV.mk id tag s r st (x.payload ++ p.payload)), rfl, rfl, hlt, by show (x.payload ++ p.payload).size ≤ 4096; omega, fun h => absurd h (by decide), gcs_can _ _, gcs_refs _ _, .inr ⟨rfl, by show 0 < (x.payload ++ p.payload).size; omega, rfl, by rw [show (InV.payload (InV.mk id tag s r st (x.payload ++ p.payload))).size = _ from hsz]; rfl⟩⟩
            · have w7 := same_r id tag s r st (x.payload ++ p.payload) (by rw [ByteArray.size_append]; omega)
              have hsz : (x.payload ++ p.payload).size = x.payload.size + p.payload.size := ByteArray.size_append ..
              rw [hsz] at w7
              simp only [Perf.dP, gcsP, InV.dP, in0, Perf.d, Perf.cs, gRow, gcs, InV.cs, InV.d, bytesD_nil] at e1 e2 w7 hxc
              simp only [fr5, gcsP]
              simp +contextual (maxSteps := 10000000) only [↓reduceIte, go_sem, Nat.reduceEqDiff, Nat.reduceAdd, Nat.reduceSub, Nat.reduceMul, Nat.reduceLeDiff, Nat.reduceLT, Nat.reduceBEq, Nat.reduceDiv, Nat.reduceMod, Int.reduceLE, Int.reduceLT, Int.reduceEq, Int.reduceBEq, Int.reduceBNe, Int.reduceAdd, Int.reduceSub, Int.reduceNeg, Int.reduceToNat, Int.reduceMul, Int.reducePow, Nat.reducePow, reduceCtorEq, hR, hC, hbr, hbc, w5, w6, open_r, hp, hlt', hz, hbd, hd', hdb, hd2, hx0, hxc, hxr, e1, e2, hsz, (hf p hpm).refs, (hf p hpm).can]
              refine lpK_inv (fun m f es => ∃ (k : Nat) (kk : Int) (b : ByteArray), kk = k ∧ b.size = p.payload.size ∧ m = p.payload.size - k ∧ k ≤ p.payload.size ∧ f = [(0, .ro false (l.map Perf.d)), (1, .ro false (dr.map B)), (5, .ptr 0 0 0), (6, .ptr 1 0 0), (7, I i), (8, .ptr 2 0 0), (9, .ptr 4 0 0), (10, I 1), (11, .ptr 6 0 0), (12, I 1), (13, I kk)] ∧ es = [some ⟨0, gz⟩, some ⟨0, gz⟩, some ⟨0, (p.dP (.ref 3 0 1 0 p.payload.size)).cells⟩, some ⟨0, bytesD b⟩, some ⟨0, ((InV.mk id tag s r st (x.payload ++ p.payload)).dP (.ref 5 0 1 0 (x.payload.size + p.payload.size))).cells⟩, some ⟨0, bytesD (x.payload ++ p.payload)⟩, some ⟨0, (InV.mk id tag s r st (x.payload ++ p.payload)).d.cells⟩]) p.payload.size ⟨0, _, p.payload, rfl, rfl, rfl, Nat.zero_le _, rfl, rfl⟩ ?_
              clear e1 e2
              rintro m f es ⟨k, kk, b, rfl, hs2, rfl, hk, rfl, rfl⟩ ih2
              rcases Nat.lt_or_ge k p.payload.size with hkl | hkg
              · have hkl' : decide ((k : Int) < p.payload.size) = true := by simpa using hkl
                have hsb := set_bytesD b k (by omega)
                have hk1 : k + 1 ≤ p.payload.size := hkl
                have hki : ((k : Int) < p.payload.size) = True := by simpa using hkl
                simp +contextual (maxSteps := 10000000) only [↓reduceIte, go_sem, Nat.reduceEqDiff, Nat.reduceAdd, Nat.reduceSub, Nat.reduceMul, Nat.reduceLeDiff, Nat.reduceLT, Nat.reduceBEq, Nat.reduceDiv, Nat.reduceMod, Int.reduceLE, Int.reduceLT, Int.reduceEq, Int.reduceBEq, Int.reduceBNe, Int.reduceAdd, Int.reduceSub, Int.reduceNeg, Int.reduceToNat, Int.reduceMul, Int.reducePow, Nat.reducePow, reduceCtorEq, hR, hC, hbr, hbc, hkl', hki, hs2, hsb, hk1, Nat.mul_one, hsz, (hf p hpm).refs, (hf p hpm).can, wrap_i64 (n := (k : Int) + 1) (by omega) (by omega)]
                exact ih2 (p.payload.size - (k + 1)) _ _ (by omega) ⟨k + 1, _, setB b k, rfl, (setB_size b k).trans hs2, rfl, hkl, rfl, rfl⟩
              clear ih2
              have hkl' : decide ((k : Int) < p.payload.size) = false := by simpa using hkg
              simp +contextual (maxSteps := 10000000) only [↓reduceIte, go_sem, Nat.reduceEqDiff, Nat.reduceAdd, Nat.reduceSub, Nat.reduceMul, Nat.reduceLeDiff, Nat.reduceLT, Nat.reduceBEq, Nat.reduceDiv, Nat.reduceMod, Int.reduceLE, Int.reduceLT, Int.reduceEq, Int.reduceBEq, Int.reduceBNe, Int.reduceAdd, Int.reduceSub, Int.reduceNeg, Int.reduceToNat, Int.reduceMul, Int.reducePow, Nat.reducePow, reduceCtorEq, hR, hC, hbr, hbc, w5, w6, open_r, w7, hsz, hkl', hs2, beq_self_eq_true, bne_self_eq_false, Bool.not_true, Bool.not_false, (hf p hpm).refs, (hf p hpm).can]
              refine lpK_inv (fun m f es => ∃ (k : Nat) (kk : Int) (b : ByteArray), kk = k ∧ b.size = (x.payload.size + p.payload.size) ∧ m = (x.payload.size + p.payload.size) - k ∧ k ≤ (x.payload.size + p.payload.size) ∧ f = [(0, .ro false (l.map Perf.d)), (1, .ro false (dr.map B)), (5, .ptr 0 0 0), (6, .ptr 1 0 0), (7, I i), (9, .ptr 2 0 0), (14, I kk)] ∧ es = [some ⟨0, gcs false in0⟩, some ⟨0, gcs false in0⟩, some ⟨0, ((InV.mk id tag s r st (x.payload ++ p.payload)).dP (.ref 3 0 1 0 (x.payload.size + p.payload.size))).cells⟩, some ⟨0, bytesD b⟩]) ((x.payload.size + p.payload.size)) ⟨0, _, (x.payload ++ p.payload), rfl, hsz, rfl, Nat.zero_le _, rfl, rfl⟩ ?_
              rintro m f es ⟨k2, kk2, b2, rfl, hb2, rfl, hk2, rfl, rfl⟩ ih2
              rcases Nat.lt_or_ge k2 ((x.payload.size + p.payload.size)) with hkl2 | hkg2
              · have hkl3 : decide ((k2 : Int) < ((x.payload.size : Int) + p.payload.size)) = true := by simp <;> omega
                have hsb := set_bytesD b2 k2 (by omega)
                have hk1 : k2 + 1 ≤ (x.payload.size + p.payload.size) := hkl2
                have hki : ((k2 : Int) < ((x.payload.size : Int) + p.payload.size)) = True := by simp <;> omega
                simp +contextual (maxSteps := 10000000) only [↓reduceIte, go_sem, Nat.reduceEqDiff, Nat.reduceAdd, Nat.reduceSub, Nat.reduceMul, Nat.reduceLeDiff, Nat.reduceLT, Nat.reduceBEq, Nat.reduceDiv, Nat.reduceMod, Int.reduceLE, Int.reduceLT, Int.reduceEq, Int.reduceBEq, Int.reduceBNe, Int.reduceAdd, Int.reduceSub, Int.reduceNeg, Int.reduceToNat, Int.reduceMul, Int.reducePow, Nat.reducePow, reduceCtorEq, hR, hC, hbr, hbc, hkl3, hki, hb2, hsb, hk1, Nat.mul_one, (hf p hpm).refs, (hf p hpm).can, wrap_i64 (n := (k2 : Int) + 1) (by omega) (by omega)]
                exact ih2 ((x.payload.size + p.payload.size) - (k2 + 1)) _ _ (by omega) ⟨k2 + 1, _, setB b2 k2, rfl, (setB_size b2 k2).trans hb2, rfl, hkl2, rfl, rfl⟩
              clear ih2
              have hkl3 : decide ((k2 : Int) < ((x.payload.size : Int) + p.payload.size)) = false := by simp <;> omega
              simp +contextual (maxSteps := 10000000) only [↓reduceIte, go_sem, Nat.reduceEqDiff, Nat.reduceAdd, Nat.reduceSub, Nat.reduceMul, Nat.reduceLeDiff, Nat.reduceLT, Nat.reduceBEq, Nat.reduceDiv, Nat.reduceMod, Int.reduceLE, Int.reduceLT, Int.reduceEq, Int.reduceBEq, Int.reduceBNe, Int.reduceAdd, Int.reduceSub, Int.reduceNeg, Int.reduceToNat, Int.reduceMul, Int.reducePow, Nat.reducePow, reduceCtorEq, hR, hC, hbr, hbc, hkl3, hb2, (hf p hpm).refs, (hf p hpm).can, wrap_i64 (n := (i : Int) + 1) (by omega) (by omega)]
              exact ih _ _ _ (by omega) ⟨i + 1, _, false, in0, gcs false in0, rfl, rfl, hlt, by decide, fun _ => rfl, gcs_can _ _, gcs_refs _ _, .inl ⟨.ro false [], rfl, rfl, rfl, rfl, rfl⟩⟩
          · have hap : in0.payload ++ p.payload = p.payload := nil_bytes _
            rcases s1r false in0 p (fun _ => rfl) rfl hps (by omega) (hf p hpm) with ⟨e1, e2⟩ | ⟨id, tag, n, e1, e2⟩ | ⟨id, tag, s, r, st, row, hs, hrc, hrr, e1, e2⟩ | ⟨id, tag, s, r, st, e1, e2⟩
            · have w7 := same_t 0 ⟨#[]⟩ false false ⟨0, 0, 0, ⟨#[]⟩⟩ ⟨#[]⟩
              have hin : in0.payload.size = 0 := rfl
              simp only [Perf.dP, gcsP, InV.dP, in0, Perf.d, Perf.cs, gRow, gcs, InV.cs, InV.d, bytesD_nil] at e1 e2 w7 hxc
              simp only [fr5, gcsP]
              simp +contextual (maxSteps := 10000000) only [↓reduceIte, go_sem, Nat.reduceEqDiff, Nat.reduceAdd, Nat.reduceSub, Nat.reduceMul, Nat.reduceLeDiff, Nat.reduceLT, Nat.reduceBEq, Nat.reduceDiv, Nat.reduceMod, Int.reduceLE, Int.reduceLT, Int.reduceEq, Int.reduceBEq, Int.reduceBNe, Int.reduceAdd, Int.reduceSub, Int.reduceNeg, Int.reduceToNat, Int.reduceMul, Int.reducePow, Nat.reducePow, reduceCtorEq, hR, hC, hbr, hbc, w5, w6, open_r, hp, hlt', hz, hbd, hd', hd2, hdb, drop_w, rdrop_w, drop_rw, hx0, hxc, hxr, e1, e2, (hf p hpm).refs, (hf p hpm).can]
              refine lpK_inv (fun m f es => ∃ (k : Nat) (kk : Int) (b : ByteArray), kk = k ∧ b.size = p.payload.size ∧ m = p.payload.size - k ∧ k ≤ p.payload.size ∧ f = [(0, .ro false (l.map Perf.d)), (1, .ro false (dr.map B)), (5, .ptr 0 0 0), (6, .ptr 1 0 0), (7, I i), (8, .ptr 2 0 0), (9, .ptr 4 0 0), (10, I 3), (11, .ptr 5 0 0), (12, I 3), (13, I kk)] ∧ es = [some ⟨0, gcsP false in0 (.ro false [])⟩, some ⟨0, gcs false in0⟩, some ⟨0, (p.dP (.ref 3 0 1 0 p.payload.size)).cells⟩, some ⟨0, bytesD b⟩, some ⟨0, (in0.dP .nils).cells⟩, some ⟨0, in0.d.cells⟩]) p.payload.size ⟨0, _, p.payload, rfl, rfl, rfl, Nat.zero_le _, rfl, rfl⟩ ?_
              clear e1 e2
              rintro m f es ⟨k, kk, b, rfl, hs2, rfl, hk, rfl, rfl⟩ ih2
              rcases Nat.lt_or_ge k p.payload.size with hkl | hkg
              · have hkl' : decide ((k : Int) < p.payload.size) = true := by simpa using hkl
                have hsb := set_bytesD b k (by omega)
                have hk1 : k + 1 ≤ p.payload.size := hkl
                have hki : ((k : Int) < p.payload.size) = True := by simpa using hkl
                simp +contextual (maxSteps := 10000000) only [↓reduceIte, go_sem, Nat.reduceEqDiff, Nat.reduceAdd, Nat.reduceSub, Nat.reduceMul, Nat.reduceLeDiff, Nat.reduceLT, Nat.reduceBEq, Nat.reduceDiv, Nat.reduceMod, Int.reduceLE, Int.reduceLT, Int.reduceEq, Int.reduceBEq, Int.reduceBNe, Int.reduceAdd, Int.reduceSub, Int.reduceNeg, Int.reduceToNat, Int.reduceMul, Int.reducePow, Nat.reducePow, reduceCtorEq, hR, hC, hbr, hbc, hkl', hki, hs2, hsb, hk1, Nat.mul_one, (hf p hpm).refs, (hf p hpm).can, wrap_i64 (n := (k : Int) + 1) (by omega) (by omega)]
                exact ih2 (p.payload.size - (k + 1)) _ _ (by omega) ⟨k + 1, _, setB b k, rfl, (setB_size b k).trans hs2, rfl, hkl, rfl, rfl⟩
              clear ih2
              have hkl' : decide ((k : Int) < p.payload.size) = false := by simpa using hkg
              simp +contextual (maxSteps := 10000000) only [↓reduceIte, go_sem, Nat.reduceEqDiff, Nat.reduceAdd, Nat.reduceSub, Nat.reduceMul, Nat.reduceLeDiff, Nat.reduceLT, Nat.reduceBEq, Nat.reduceDiv, Nat.reduceMod, Int.reduceLE, Int.reduceLT, Int.reduceEq, Int.reduceBEq, Int.reduceBNe, Int.reduceAdd, Int.reduceSub, Int.reduceNeg, Int.reduceToNat, Int.reduceMul, Int.reducePow, Nat.reducePow, reduceCtorEq, hR, hC, hbr, hbc, w5, w6, open_r, w7, hkl', hs2, beq_self_eq_true, bne_self_eq_false, Bool.not_true, Bool.not_false, (hf p hpm).refs, (hf p hpm).can]
              rw [lpK_go]
              simp +contextual (maxSteps := 10000000) only [↓reduceIte, go_sem, Nat.reduceEqDiff, Nat.reduceAdd, Nat.reduceSub, Nat.reduceMul, Nat.reduceLeDiff, Nat.reduceLT, Nat.reduceBEq, Nat.reduceDiv, Nat.reduceMod, Int.reduceLE, Int.reduceLT, Int.reduceEq, Int.reduceBEq, Int.reduceBNe, Int.reduceAdd, Int.reduceSub, Int.reduceNeg, Int.reduceToNat, Int.reduceMul, Int.reducePow, Nat.reducePow, reduceCtorEq, hR, hC, hbr, hbc, w5, w6, open_r, w7, hkl', hs2, wrap_i64 (n := (i : Int) + 1) (by omega) (by omega)]
              exact ih _ _ _ (by omega) ⟨i + 1, _, false, in0, gcs false in0, rfl, rfl, hlt, by decide, fun _ => rfl, gcs_can _ _, gcs_refs _ _, .inl ⟨.ro false [], rfl, rfl, rfl, rfl, rfl⟩⟩
            · have w7 := same_t id tag false false ⟨0, 0, 0, ⟨#[]⟩⟩ ⟨#[]⟩
              have hin : in0.payload.size = 0 := rfl
              simp only [Perf.dP, gcsP, InV.dP, in0, Perf.d, Perf.cs, gRow, gcs, InV.cs, InV.d, bytesD_nil] at e1 e2 w7 hxc
              simp only [fr5, gcsP]
              simp +contextual (maxSteps := 10000000) only [↓reduceIte, go_sem, Nat.reduceEqDiff, Nat.reduceAdd, Nat.reduceSub, Nat.reduceMul, Nat.reduceLeDiff, Nat.reduceLT, Nat.reduceBEq, Nat.reduceDiv, Nat.reduceMod, Int.reduceLE, Int.reduceLT, Int.reduceEq, Int.reduceBEq, Int.reduceBNe, Int.reduceAdd, Int.reduceSub, Int.reduceNeg, Int.reduceToNat, Int.reduceMul, Int.reducePow, Nat.reducePow, reduceCtorEq, hR, hC, hbr, hbc, w5, w6, open_r, hp, hlt', hz, hbd, hd', hd2, hdb, drop_w, rdrop_w, drop_rw, hx0, hxc, hxr, e1, e2, (hf p hpm).refs, (hf p hpm).can]
              refine lpK_inv (fun m f es => ∃ (k : Nat) (kk : Int) (b : ByteArray), kk = k ∧ b.size = p.payload.size ∧ m = p.payload.size - k ∧ k ≤ p.payload.size ∧ f = [(0, .ro false (l.map Perf.d)), (1, .ro false (dr.map B)), (5, .ptr 0 0 0), (6, .ptr 1 0 0), (7, I i), (8, .ptr 2 0 0), (9, .ptr 4 0 0), (10, I n), (11, .ptr 5 0 0), (12, I n), (13, I kk)] ∧ es = [some ⟨0, gz⟩, some ⟨0, gz⟩, some ⟨0, (p.dP (.ref 3 0 1 0 p.payload.size)).cells⟩, some ⟨0, bytesD b⟩, some ⟨0, ((InV.mk id tag false false ⟨0, 0, 0, ⟨#[]⟩⟩ ⟨#[]⟩).dP .nils).cells⟩, some ⟨0, (InV.mk id tag false false ⟨0, 0, 0, ⟨#[]⟩⟩ ⟨#[]⟩).d.cells⟩]) p.payload.size ⟨0, _, p.payload, rfl, rfl, rfl, Nat.zero_le _, rfl, rfl⟩ ?_
              clear e1 e2
              rintro m f es ⟨k, kk, b, rfl, hs2, rfl, hk, rfl, rfl⟩ ih2
              rcases Nat.lt_or_ge k p.payload.size with hkl | hkg
              · have hkl' : decide ((k : Int) < p.payload.size) = true := by simpa using hkl
                have hsb := set_bytesD b k (by omega)
                have hk1 : k + 1 ≤ p.payload.size := hkl
                have hki : ((k : Int) < p.payload.size) = True := by simpa using hkl
                simp +contextual (maxSteps := 10000000) only [↓reduceIte, go_sem, Nat.reduceEqDiff, Nat.reduceAdd, Nat.reduceSub, Nat.reduceMul, Nat.reduceLeDiff, Nat.reduceLT, Nat.reduceBEq, Nat.reduceDiv, Nat.reduceMod, Int.reduceLE, Int.reduceLT, Int.reduceEq, Int.reduceBEq, Int.reduceBNe, Int.reduceAdd, Int.reduceSub, Int.reduceNeg, Int.reduceToNat, Int.reduceMul, Int.reducePow, Nat.reducePow, reduceCtorEq, hR, hC, hbr, hbc, hkl', hki, hs2, hsb, hk1, Nat.mul_one, (hf p hpm).refs, (hf p hpm).can, wrap_i64 (n := (k : Int) + 1) (by omega) (by omega)]
                exact ih2 (p.payload.size - (k + 1)) _ _ (by omega) ⟨k + 1, _, setB b k, rfl, (setB_size b k).trans hs2, rfl, hkl, rfl, rfl⟩
              clear ih2
              have hkl' : decide ((k : Int) < p.payload.size) = false := by simpa using hkg
              simp +contextual (maxSteps := 10000000) only [↓reduceIte, go_sem, Nat.reduceEqDiff, Nat.reduceAdd, Nat.reduceSub, Nat.reduceMul, Nat.reduceLeDiff, Nat.reduceLT, Nat.reduceBEq, Nat.reduceDiv, Nat.reduceMod, Int.reduceLE, Int.reduceLT, Int.reduceEq, Int.reduceBEq, Int.reduceBNe, Int.reduceAdd, Int.reduceSub, Int.reduceNeg, Int.reduceToNat, Int.reduceMul, Int.reducePow, Nat.reducePow, reduceCtorEq, hR, hC, hbr, hbc, w5, w6, open_r, w7, hkl', hs2, beq_self_eq_true, bne_self_eq_false, Bool.not_true, Bool.not_false, (hf p hpm).refs, (hf p hpm).can]
              rw [lpK_go]
              simp +contextual (maxSteps := 10000000) only [↓reduceIte, go_sem, Nat.reduceEqDiff, Nat.reduceAdd, Nat.reduceSub, Nat.reduceMul, Nat.reduceLeDiff, Nat.reduceLT, Nat.reduceBEq, Nat.reduceDiv, Nat.reduceMod, Int.reduceLE, Int.reduceLT, Int.reduceEq, Int.reduceBEq, Int.reduceBNe, Int.reduceAdd, Int.reduceSub, Int.reduceNeg, Int.reduceToNat, Int.reduceMul, Int.reducePow, Nat.reducePow, reduceCtorEq, hR, hC, hbr, hbc, w5, w6, open_r, w7, hkl', hs2, wrap_i64 (n := (i : Int) + 1) (by omega) (by omega)]
              exact ih _ _ _ (by omega) ⟨i + 1, _, false, in0, gcs false in0, rfl, rfl, hlt, by decide, fun _ => rfl, gcs_can _ _, gcs_refs _ _, .inl ⟨.ro false [], rfl, rfl, rfl, rfl, rfl⟩⟩
            · have w7 := same_t 0 ⟨#[]⟩ false false ⟨0, 0, 0, ⟨#[]⟩⟩ ⟨#[]⟩
              have hin : in0.payload.size = 0 := rfl
              rw [hap] at hrc e1
              simp only [Perf.dP, gcsP, InV.dP, in0, Perf.d, Perf.cs, gRow, gcs, InV.cs, InV.d, bytesD_nil] at e1 e2 w7 hxc hrc
              simp only [fr5, gcsP]
              simp +contextual (maxSteps := 10000000) only [↓reduceIte, go_sem, Nat.reduceEqDiff, Nat.reduceAdd, Nat.reduceSub, Nat.reduceMul, Nat.reduceLeDiff, Nat.reduceLT, Nat.reduceBEq, Nat.reduceDiv, Nat.reduceMod, Int.reduceLE, Int.reduceLT, Int.reduceEq, Int.reduceBEq, Int.reduceBNe, Int.reduceAdd, Int.reduceSub, Int.reduceNeg, Int.reduceToNat, Int.reduceMul, Int.reducePow, Nat.reducePow, reduceCtorEq, hR, hC, hbr, hbc, w5, w6, open_r, hp, hlt', hz, hbd, hd', hd2, hdb, drop_w, rdrop_w, drop_rw, hx0, hxc, hxr, e1, e2, hrc, hrr, (hf p hpm).refs, (hf p hpm).can]
              refine lpK_inv (fun m f es => ∃ (k : Nat) (kk : Int) (b : ByteArray), kk = k ∧ b.size = p.payload.size ∧ m = p.payload.size - k ∧ k ≤ p.payload.size ∧ f = [(0, .ro false (l.map Perf.d)), (1, .ro false (dr.map B)), (5, .ptr 0 0 0), (6, .ptr 2 0 0), (7, I i), (8, .ptr 3 0 0), (9, .ptr 5 0 0), (10, I 0), (11, .ptr 6 0 0), (12, I 0), (13, I kk)] ∧ es = [some ⟨0, gcsP true (InV.mk id tag s r st p.payload) (.ref 1 0 1 0 p.payload.size)⟩, some ⟨0, bytesD p.payload⟩, some ⟨0, row⟩, some ⟨0, (p.dP (.ref 4 0 1 0 p.payload.size)).cells⟩, some ⟨0, bytesD b⟩, some ⟨0, (in0.dP .nils).cells⟩, some ⟨0, in0.d.cells⟩]) p.payload.size ⟨0, _, p.payload, rfl, rfl, rfl, Nat.zero_le _, rfl, rfl⟩ ?_
              clear e1 e2
              rintro m f es ⟨k, kk, b, rfl, hs2, rfl, hk, rfl, rfl⟩ ih2
              rcases Nat.lt_or_ge k p.payload.size with hkl | hkg
              · have hkl' : decide ((k : Int) < p.payload.size) = true := by simpa using hkl
                have hsb := set_bytesD b k (by omega)
                have hk1 : k + 1 ≤ p.payload.size := hkl
                have hki : ((k : Int) < p.payload.size) = True := by simpa using hkl
                simp +contextual (maxSteps := 10000000) only [↓reduceIte, go_sem, Nat.reduceEqDiff, Nat.reduceAdd, Nat.reduceSub, Nat.reduceMul, Nat.reduceLeDiff, Nat.reduceLT, Nat.reduceBEq, Nat.reduceDiv, Nat.reduceMod, Int.reduceLE, Int.reduceLT, Int.reduceEq, Int.reduceBEq, Int.reduceBNe, Int.reduceAdd, Int.reduceSub, Int.reduceNeg, Int.reduceToNat, Int.reduceMul, Int.reducePow, Nat.reducePow, reduceCtorEq, hR, hC, hbr, hbc, hkl', hki, hs2, hsb, hk1, Nat.mul_one, hrc, hrr, (hf p hpm).refs, (hf p hpm).can, wrap_i64 (n := (k : Int) + 1) (by omega) (by omega)]
                exact ih2 (p.payload.size - (k + 1)) _ _ (by omega) ⟨k + 1, _, setB b k, rfl, (setB_size b k).trans hs2, rfl, hkl, rfl, rfl⟩
              clear ih2
              have hkl' : decide ((k : Int) < p.payload.size) = false := by simpa using hkg
              simp +contextual (maxSteps := 10000000) only [↓reduceIte, go_sem, Nat.reduceEqDiff, Nat.reduceAdd, Nat.reduceSub, Nat.reduceMul, Nat.reduceLeDiff, Nat.reduceLT, Nat.reduceBEq, Nat.reduceDiv, Nat.reduceMod, Int.reduceLE, Int.reduceLT, Int.reduceEq, Int.reduceBEq, Int.reduceBNe, Int.reduceAdd, Int.reduceSub, Int.reduceNeg, Int.reduceToNat, Int.reduceMul, Int.reducePow, Nat.reducePow, reduceCtorEq, hR, hC, hbr, hbc, w5, w6, open_r, w7, hrc, hrr, hkl', hs2, beq_self_eq_true, bne_self_eq_false, Bool.not_true, Bool.not_false, (hf p hpm).refs, (hf p hpm).can]
              rw [lpK_go]
              simp +contextual (maxSteps := 10000000) only [↓reduceIte, go_sem, Nat.reduceEqDiff, Nat.reduceAdd, Nat.reduceSub, Nat.reduceMul, Nat.reduceLeDiff, Nat.reduceLT, Nat.reduceBEq, Nat.reduceDiv, Nat.reduceMod, Int.reduceLE, Int.reduceLT, Int.reduceEq, Int.reduceBEq, Int.reduceBNe, Int.reduceAdd, Int.reduceSub, Int.reduceNeg, Int.reduceToNat, Int.reduceMul, Int.reducePow, Nat.reducePow, reduceCtorEq, hR, hC, hbr, hbc, w5, w6, open_r, w7, hrc, hrr, hkl', hs2, wrap_i64 (n := (i : Int) + 1) (by omega) (by omega)]
              exact ih _ _ _ (by omega) ⟨i + 1, _, true, (InV.mk id tag s r st p.payload), gcs true (InV.mk id tag s r st p.payload), rfl, rfl, hlt, by show p.payload.size ≤ 4096; omega, fun h => absurd h (by decide), gcs_can _ _, gcs_refs _ _, .inr ⟨rfl, by show 0 < p.payload.size; omega, rfl, rfl⟩⟩
            · have w7 := same_r id tag s r st p.payload (by omega)
              have hin : in0.payload.size = 0 := rfl
              rw [hap] at e1 e2
              simp only [Perf.dP, gcsP, InV.dP, in0, Perf.d, Perf.cs, gRow, gcs, InV.cs, InV.d, bytesD_nil] at e1 e2 w7 hxc
              simp only [fr5, gcsP]
              simp +contextual (maxSteps := 10000000) only [↓reduceIte, go_sem, Nat.reduceEqDiff, Nat.reduceAdd, Nat.reduceSub, Nat.reduceMul, Nat.reduceLeDiff, Nat.reduceLT, Nat.reduceBEq, Nat.reduceDiv, Nat.reduceMod, Int.reduceLE, Int.reduceLT, Int.reduceEq, Int.reduceBEq, Int.reduceBNe, Int.reduceAdd, Int.reduceSub, Int.reduceNeg, Int.reduceToNat, Int.reduceMul, Int.reducePow, Nat.reducePow, reduceCtorEq, hR, hC, hbr, hbc, w5, w6, open_r, hp, hlt', hz, hbd, hd', hd2, hdb, drop_w, rdrop_w, drop_rw, hx0, hxc, hxr, e1, e2, (hf p hpm).refs, (hf p hpm).can]
              refine lpK_inv (fun m f es => ∃ (k : Nat) (kk : Int) (b : ByteArray), kk = k ∧ b.size = p.payload.size ∧ m = p.payload.size - k ∧ k ≤ p.payload.size ∧ f = [(0, .ro false (l.map Perf.d)), (1, .ro false (dr.map B)), (5, .ptr 0 0 0), (6, .ptr 1 0 0), (7, I i), (8, .ptr 2 0 0), (9, .ptr 4 0 0), (10, I 1), (11, .ptr 6 0 0), (12, I 1), (13, I kk)] ∧ es = [some ⟨0, gz⟩, some ⟨0, gz⟩, some ⟨0, (p.dP (.ref 3 0 1 0 p.payload.size)).cells⟩, some ⟨0, bytesD b⟩, some ⟨0, ((InV.mk id tag s r st p.payload).dP (.ref 5 0 1 0 p.payload.size)).cells⟩, some ⟨0, bytesD p.payload⟩, some ⟨0, (InV.mk id tag s r st p.payload).d.cells⟩]) p.payload.size ⟨0, _, p.payload, rfl, rfl, rfl, Nat.zero_le _, rfl, rfl⟩ ?_
              clear e1 e2
              rintro m f es ⟨k, kk, b, rfl, hs2, rfl, hk, rfl, rfl⟩ ih2
              rcases Nat.lt_or_ge k p.payload.size with hkl | hkg
              · have hkl' : decide ((k : Int) < p.payload.size) = true := by simpa using hkl
                have hsb := set_bytesD b k (by omega)
                have hk1 : k + 1 ≤ p.payload.size := hkl
                have hki : ((k : Int) < p.payload.size) = True := by simpa using hkl
                simp +contextual (maxSteps := 10000000) only [↓reduceIte, go_sem, Nat.reduceEqDiff, Nat.reduceAdd, Nat.reduceSub, Nat.reduceMul, Nat.reduceLeDiff, Nat.reduceLT, Nat.reduceBEq, Nat.reduceDiv, Nat.reduceMod, Int.reduceLE, Int.reduceLT, Int.reduceEq, Int.reduceBEq, Int.reduceBNe, Int.reduceAdd, Int.reduceSub, Int.reduceNeg, Int.reduceToNat, Int.reduceMul, Int.reducePow, Nat.reducePow, reduceCtorEq, hR, hC, hbr, hbc, hkl', hki, hs2, hsb, hk1, Nat.mul_one, (hf p hpm).refs, (hf p hpm).can, wrap_i64 (n := (k : Int) + 1) (by omega) (by omega)]
                exact ih2 (p.payload.size - (k + 1)) _ _ (by omega) ⟨k + 1, _, setB b k, rfl, (setB_size b k).trans hs2, rfl, hkl, rfl, rfl⟩
              clear ih2
              have hkl' : decide ((k : Int) < p.payload.size) = false := by simpa using hkg
              simp +contextual (maxSteps := 10000000) only [↓reduceIte, go_sem, Nat.reduceEqDiff, Nat.reduceAdd, Nat.reduceSub, Nat.reduceMul, Nat.reduceLeDiff, Nat.reduceLT, Nat.reduceBEq, Nat.reduceDiv, Nat.reduceMod, Int.reduceLE, Int.reduceLT, Int.reduceEq, Int.reduceBEq, Int.reduceBNe, Int.reduceAdd, Int.reduceSub, Int.reduceNeg, Int.reduceToNat, Int.reduceMul, Int.reducePow, Nat.reducePow, reduceCtorEq, hR, hC, hbr, hbc, w5, w6, open_r, w7, hkl', hs2, beq_self_eq_true, bne_self_eq_false, Bool.not_true, Bool.not_false, (hf p hpm).refs, (hf p hpm).can]
              refine lpK_inv (fun m f es => ∃ (k : Nat) (kk : Int) (b : ByteArray), kk = k ∧ b.size = p.payload.size ∧ m = p.payload.size - k ∧ k ≤ p.payload.size ∧ f = [(0, .ro false (l.map Perf.d)), (1, .ro false (dr.map B)), (5, .ptr 0 0 0), (6, .ptr 1 0 0), (7, I i), (9, .ptr 2 0 0), (14, I kk)] ∧ es = [some ⟨0, gcs false in0⟩, some ⟨0, gcs false in0⟩, some ⟨0, ((InV.mk id tag s r st p.payload).dP (.ref 3 0 1 0 p.payload.size)).cells⟩, some ⟨0, bytesD b⟩]) (p.payload.size) ⟨0, _, p.payload, rfl, rfl, rfl, Nat.zero_le _, rfl, rfl⟩ ?_
              rintro m f es ⟨k2, kk2, b2, rfl, hb2, rfl, hk2, rfl, rfl⟩ ih2
              rcases Nat.lt_or_ge k2 (p.payload.size) with hkl2 | hkg2
              · have hkl3 : decide ((k2 : Int) < (p.payload.size : Int)) = true := by simp <;> omega
                have hsb := set_bytesD b2 k2 (by omega)
                have hk1 : k2 + 1 ≤ p.payload.size := hkl2
                have hki : ((k2 : Int) < (p.payload.size : Int)) = True := by simp <;> omega
                simp +contextual (maxSteps := 10000000) only [↓reduceIte, go_sem, Nat.reduceEqDiff, Nat.reduceAdd, Nat.reduceSub, Nat.reduceMul, Nat.reduceLeDiff, Nat.reduceLT, Nat.reduceBEq, Nat.reduceDiv, Nat.reduceMod, Int.reduceLE, Int.reduceLT, Int.reduceEq, Int.reduceBEq, Int.reduceBNe, Int.reduceAdd, Int.reduceSub, Int.reduceNeg, Int.reduceToNat, Int.reduceMul, Int.reducePow, Nat.reducePow, reduceCtorEq, hR, hC, hbr, hbc, hkl3, hki, hb2, hsb, hk1, Nat.mul_one, (hf p hpm).refs, (hf p hpm).can, wrap_i64 (n := (k2 : Int) + 1) (by omega) (by omega)]
                exact ih2 (p.payload.size - (k2 + 1)) _ _ (by omega) ⟨k2 + 1, _, setB b2 k2, rfl, (setB_size b2 k2).trans hb2, rfl, hkl2, rfl, rfl⟩
              clear ih2
              have hkl3 : decide ((k2 : Int) < (p.payload.size : Int)) = false := by simp <;> omega
              simp +contextual (maxSteps := 10000000) only [↓reduceIte, go_sem, Nat.reduceEqDiff, Nat.reduceAdd, Nat.reduceSub, Nat.reduceMul, Nat.reduceLeDiff, Nat.reduceLT, Nat.reduceBEq, Nat.reduceDiv, Nat.reduceMod, Int.reduceLE, Int.reduceLT, Int.reduceEq, Int.reduceBEq, Int.reduceBNe, Int.reduceAdd, Int.reduceSub, Int.reduceNeg, Int.reduceToNat, Int.reduceMul, Int.reducePow, Nat.reducePow, reduceCtorEq, hR, hC, hbr, hbc, hkl3, hb2, (hf p hpm).refs, (hf p hpm).can, wrap_i64 (n := (i : Int) + 1) (by omega) (by omega)]
              exact ih _ _ _ (by omega) ⟨i + 1, _, false, in0, gcs false in0, rfl, rfl, hlt, by decide, fun _ => rfl, gcs_can _ _, gcs_refs _ _, .inl ⟨.ro false [], rfl, rfl, rfl, rfl, rfl⟩⟩
        · have hd' : decide ((i : Int) < dr.length) = false := by simpa using hd
          rcases s2r x p (by omega) hx0 hps (by omega) (hf p hpm) with ⟨e1, e2⟩ | ⟨id, tag, n, e1, e2⟩ | ⟨id, tag, s, r, st, row, hs, hrc, hrr, e1, e2⟩ | ⟨id, tag, s, r, st, e1, e2⟩
          · have w7 := same_t 0 ⟨#[]⟩ false false ⟨0, 0, 0, ⟨#[]⟩⟩ ⟨#[]⟩
            simp only [Perf.dP, gcsP, InV.dP, in0, Perf.d, Perf.cs, gRow, gcs, InV.cs, InV.d, bytesD_nil] at e1 e2 w7 hxc
            simp only [fr5, gcsP]
            simp +contextual (maxSteps := 10000000) only [↓reduceIte, go_sem, Nat.reduceEqDiff, Nat.reduceAdd, Nat.reduceSub, Nat.reduceMul, Nat.reduceLeDiff, Nat.reduceLT, Nat.reduceBEq, Nat.reduceDiv, Nat.reduceMod, Int.reduceLE, Int.reduceLT, Int.reduceEq, Int.reduceBEq, Int.reduceBNe, Int.reduceAdd, Int.reduceSub, Int.reduceNeg, Int.reduceToNat, Int.reduceMul, Int.reducePow, Nat.reducePow, reduceCtorEq, hR, hC, hbr, hbc, w5, w6, open_r, hp, hlt', hz, hbd, hd', hx0, hxc, hxr, e1, e2, (hf p hpm).refs, (hf p hpm).can]
            refine lpK_inv (fun m f es => ∃ (k : Nat) (kk : Int) (b : ByteArray), kk = k ∧ b.size = p.payload.size ∧ m = p.payload.size - k ∧ k ≤ p.payload.size ∧ f = [(0, .ro false (l.map Perf.d)), (1, .ro false (dr.map B)), (5, .ptr 0 0 0), (6, .ptr 2 0 0), (7, I i), (8, .ptr 3 0 0), (9, .ptr 5 0 0), (10, I 3), (11, .ptr 6 0 0), (12, I 3), (13, I kk)] ∧ es = [some ⟨0, gcsP true x (.ref 1 0 1 0 x.payload.size)⟩, some ⟨0, bytesD x.payload⟩, some ⟨0, gcs true x⟩, some ⟨0, (p.dP (.ref 4 0 1 0 p.payload.size)).cells⟩, some ⟨0, bytesD b⟩, some ⟨0, (in0.dP .nils).cells⟩, some ⟨0, in0.d.cells⟩]) p.payload.size ⟨0, _, p.payload, rfl, rfl, rfl, Nat.zero_le _, rfl, rfl⟩ ?_
            clear e1 e2
            rintro m f es ⟨k, kk, b, rfl, hs2, rfl, hk, rfl, rfl⟩ ih2
            rcases Nat.lt_or_ge k p.payload.size with hkl | hkg
            · have hkl' : decide ((k : Int) < p.payload.size) = true := by simpa using hkl
              have hsb := set_bytesD b k (by omega)
              have hk1 : k + 1 ≤ p.payload.size := hkl
              have hki : ((k : Int) < p.payload.size) = True := by simpa using hkl
              simp +contextual (maxSteps := 10000000) only [↓reduceIte, go_sem, Nat.reduceEqDiff, Nat.reduceAdd, Nat.reduceSub, Nat.reduceMul, Nat.reduceLeDiff, Nat.reduceLT, Nat.reduceBEq, Nat.reduceDiv, Nat.reduceMod, Int.reduceLE, Int.reduceLT, Int.reduceEq, Int.reduceBEq, Int.reduceBNe, Int.reduceAdd, Int.reduceSub, Int.reduceNeg, Int.reduceToNat, Int.reduceMul, Int.reducePow, Nat.reducePow, reduceCtorEq, hR, hC, hbr, hbc, hkl', hki, hs2, hsb, hk1, Nat.mul_one, (hf p hpm).refs, (hf p hpm).can, wrap_i64 (n := (k : Int) + 1) (by omega) (by omega)]
              exact ih2 (p.payload.size - (k + 1)) _ _ (by omega) ⟨k + 1, _, setB b k, rfl, (setB_size b k).trans hs2, rfl, hkl, rfl, rfl⟩
            clear ih2
            have hkl' : decide ((k : Int) < p.payload.size) = false := by simpa using hkg
            simp +contextual (maxSteps := 10000000) only [↓reduceIte, go_sem, Nat.reduceEqDiff, Nat.reduceAdd, Nat.reduceSub, Nat.reduceMul, Nat.reduceLeDiff, Nat.reduceLT, Nat.reduceBEq, Nat.reduceDiv, Nat.reduceMod, Int.reduceLE, Int.reduceLT, Int.reduceEq, Int.reduceBEq, Int.reduceBNe, Int.reduceAdd, Int.reduceSub, Int.reduceNeg, Int.reduceToNat, Int.reduceMul, Int.reducePow, Nat.reducePow, reduceCtorEq, hR, hC, hbr, hbc, w5, w6, open_r, w7, hkl', hs2, beq_self_eq_true, bne_self_eq_false, Bool.not_true, Bool.not_false, (hf p hpm).refs, (hf p hpm).can]
            rw [lpK_go]
            simp +contextual (maxSteps := 10000000) only [↓reduceIte, go_sem, Nat.reduceEqDiff, Nat.reduceAdd, Nat.reduceSub, Nat.reduceMul, Nat.reduceLeDiff, Nat.reduceLT, Nat.reduceBEq, Nat.reduceDiv, Nat.reduceMod, Int.reduceLE, Int.reduceLT, Int.reduceEq, Int.reduceBEq, Int.reduceBNe, Int.reduceAdd, Int.reduceSub, Int.reduceNeg, Int.reduceToNat, Int.reduceMul, Int.reducePow, Nat.reducePow, reduceCtorEq, hR, hC, hbr, hbc, w5, w6, open_r, w7, hkl', hs2, wrap_i64 (n := (i : Int) + 1) (by omega) (by omega)]
            exact ih _ _ _ (by omega) ⟨i + 1, _, true, x, gcs true x, rfl, rfl, hlt, hxs, fun h => absurd h (by decide), gcs_can _ _, gcs_refs _ _, .inr ⟨rfl, hx0, rfl, rfl⟩⟩
          · have w7 := same_t id tag false false ⟨0, 0, 0, ⟨#[]⟩⟩ ⟨#[]⟩
            simp only [Perf.dP, gcsP, InV.dP, in0, Perf.d, Perf.cs, gRow, gcs, InV.cs, InV.d, bytesD_nil] at e1 e2 w7 hxc
            simp only [fr5, gcsP]
            simp +contextual (maxSteps := 10000000) only [↓reduceIte, go_sem, Nat.reduceEqDiff, Nat.reduceAdd, Nat.reduceSub, Nat.reduceMul, Nat.reduceLeDiff, Nat.reduceLT, Nat.reduceBEq, Nat.reduceDiv, Nat.reduceMod, Int.reduceLE, Int.reduceLT, Int.reduceEq, Int.reduceBEq, Int.reduceBNe, Int.reduceAdd, Int.reduceSub, Int.reduceNeg, Int.reduceToNat, Int.reduceMul, Int.reducePow, Nat.reducePow, reduceCtorEq, hR, hC, hbr, hbc, w5, w6, open_r, hp, hlt', hz, hbd, hd', hx0, hxc, hxr, e1, e2, (hf p hpm).refs, (hf p hpm).can]
            refine lpK_inv (fun m f es => ∃ (k : Nat) (kk : Int) (b : ByteArray), kk = k ∧ b.size = p.payload.size ∧ m = p.payload.size - k ∧ k ≤ p.payload.size ∧ f = [(0, .ro false (l.map Perf.d)), (1, .ro false (dr.map B)), (5, .ptr 0 0 0), (6, .ptr 1 0 0), (7, I i), (8, .ptr 2 0 0), (9, .ptr 4 0 0), (10, I n), (11, .ptr 5 0 0), (12, I n), (13, I kk)] ∧ es = [some ⟨0, gz⟩, some ⟨0, gz⟩, some ⟨0, (p.dP (.ref 3 0 1 0 p.payload.size)).cells⟩, some ⟨0, bytesD b⟩, some ⟨0, ((InV.mk id tag false false ⟨0, 0, 0, ⟨#[]⟩⟩ ⟨#[]⟩).dP .nils).cells⟩, some ⟨0, (InV.mk id tag false false ⟨0, 0, 0, ⟨#[]⟩⟩ ⟨#[]⟩).d.cells⟩]) p.payload.size ⟨0, _, p.payload, rfl, rfl, rfl, Nat.zero_le _, rfl, rfl⟩ ?_
            clear e1 e2
            rintro m f es ⟨k, kk, b, rfl, hs2, rfl, hk, rfl, rfl⟩ ih2
            rcases Nat.lt_or_ge k p.payload.size with hkl | hkg
            · have hkl' : decide ((k : Int) < p.payload.size) = true := by simpa using hkl
              have hsb := set_bytesD b k (by omega)
              have hk1 : k + 1 ≤ p.payload.size := hkl
              have hki : ((k : Int) < p.payload.size) = True := by simpa using hkl
              simp +contextual (maxSteps := 10000000) only [↓reduceIte, go_sem, Nat.reduceEqDiff, Nat.reduceAdd, Nat.reduceSub, Nat.reduceMul, Nat.reduceLeDiff, Nat.reduceLT, Nat.reduceBEq, Nat.reduceDiv, Nat.reduceMod, Int.reduceLE, Int.reduceLT, Int.reduceEq, Int.reduceBEq, Int.reduceBNe, Int.reduceAdd, Int.reduceSub, Int.reduceNeg, Int.reduceToNat, Int.reduceMul, Int.reducePow, Nat.reducePow, reduceCtorEq, hR, hC, hbr, hbc, hkl', hki, hs2, hsb, hk1, Nat.mul_one, (hf p hpm).refs, (hf p hpm).can, wrap_i64 (n := (k : Int) + 1) (by omega) (by omega)]
              exact ih2 (p.payload.size - (k + 1)) _ _ (by omega) ⟨k + 1, _, setB b k, rfl, (setB_size b k).trans hs2, rfl, hkl, rfl, rfl⟩
            clear ih2
            have hkl' : decide ((k : Int) < p.payload.size) = false := by simpa using hkg
            simp +contextual (maxSteps := 10000000) only [↓reduceIte, go_sem, Nat.reduceEqDiff, Nat.reduceAdd, Nat.reduceSub, Nat.reduceMul, Nat.reduceLeDiff, Nat.reduceLT, Nat.reduceBEq, Nat.reduceDiv, Nat.reduceMod, Int.reduceLE, Int.reduceLT, Int.reduceEq, Int.reduceBEq, Int.reduceBNe, Int.reduceAdd, Int.reduceSub, Int.reduceNeg, Int.reduceToNat, Int.reduceMul, Int.reducePow, Nat.reducePow, reduceCtorEq, hR, hC, hbr, hbc, w5, w6, open_r, w7, hkl', hs2, beq_self_eq_true, bne_self_eq_false, Bool.not_true, Bool.not_false, (hf p hpm).refs, (hf p hpm).can]
            rw [lpK_go]
            simp +contextual (maxSteps := 10000000) only [↓reduceIte, go_sem, Nat.reduceEqDiff, Nat.reduceAdd, Nat.reduceSub, Nat.reduceMul, Nat.reduceLeDiff, Nat.reduceLT, Nat.reduceBEq, Nat.reduceDiv, Nat.reduceMod, Int.reduceLE, Int.reduceLT, Int.reduceEq, Int.reduceBEq, Int.reduceBNe, Int.reduceAdd, Int.reduceSub, Int.reduceNeg, Int.reduceToNat, Int.reduceMul, Int.reducePow, Nat.reducePow, reduceCtorEq, hR, hC, hbr, hbc, w5, w6, open_r, w7, hkl', hs2, wrap_i64 (n := (i : Int) + 1) (by omega) (by omega)]
            exact ih _ _ _ (by omega) ⟨i + 1, _, false, in0, gcs false in0, rfl, rfl, hlt, by decide, fun _ => rfl, gcs_can _ _, gcs_refs _ _, .inl ⟨.ro false [], rfl, rfl, rfl, rfl, rfl⟩⟩
          · have w7 := same_t 0 ⟨#[]⟩ false false ⟨0, 0, 0, ⟨#[]⟩⟩ ⟨#[]⟩
            have hsz : (x.payload ++ p.payload).size = x.payload.size + p.payload.size := ByteArray.size_append ..
            simp only [Perf.dP, gcsP, InV.dP, in0, Perf.d, Perf.cs, gRow, gcs, InV.cs, InV.d, bytesD_nil] at e1 e2 w7 hxc hrc
            simp only [fr5, gcsP]
            simp +contextual (maxSteps := 10000000) only [↓reduceIte, go_sem, Nat.reduceEqDiff, Nat.reduceAdd, Nat.reduceSub, Nat.reduceMul, Nat.reduceLeDiff, Nat.reduceLT, Nat.reduceBEq, Nat.reduceDiv, Nat.reduceMod, Int.reduceLE, Int.reduceLT, Int.reduceEq, Int.reduceBEq, Int.reduceBNe, Int.reduceAdd, Int.reduceSub, Int.reduceNeg, Int.reduceToNat, Int.reduceMul, Int.reducePow, Nat.reducePow, reduceCtorEq, hR, hC, hbr, hbc, w5, w6, open_r, hp, hlt', hz, hbd, hd', hx0, hxc, hxr, e1, e2, hrc, hrr, hsz, (hf p hpm).refs, (hf p hpm).can]
            refine lpK_inv (fun m f es => ∃ (k : Nat) (kk : Int) (b : ByteArray), kk = k ∧ b.size = p.payload.size ∧ m = p.payload.size - k ∧ k ≤ p.payload.size ∧ f = [(0, .ro false (l.map Perf.d)), (1, .ro false (dr.map B)), (5, .ptr 0 0 0), (6, .ptr 2 0 0), (7, I i), (8, .ptr 3 0 0), (9, .ptr 5 0 0), (10, I 0), (11, .ptr 6 0 0), (12, I 0), (13, I kk)] ∧ es = [some ⟨0, gcsP true (InV.mk id tag s r st (x.payload ++ p.payload)) (.ref 1 0 1 0 (x.payload.size + p.payload.size))⟩, some ⟨0, bytesD (x.payload ++ p.payload)⟩, some ⟨0, row⟩, some ⟨0, (p.dP (.ref 4 0 1 0 p.payload.size)).cells⟩, some ⟨0, bytesD b⟩, some ⟨0, (in0.dP .nils).cells⟩, some ⟨0, in0.d.cells⟩]) p.payload.size ⟨0, _, p.payload, rfl, rfl, rfl, Nat.zero_le _, rfl, rfl⟩ ?_
            clear e1 e2
            rintro m f es ⟨k, kk, b, rfl, hs2, rfl, hk, rfl, rfl⟩ ih2
            rcases Nat.lt_or_ge k p.payload.size with hkl | hkg
            · have hkl' : decide ((k : Int) < p.payload.size) = true := by simpa using hkl
              have hsb := set_bytesD b k (by omega)
              have hk1 : k + 1 ≤ p.payload.size := hkl
              have hki : ((k : Int) < p.payload.size) = True := by simpa using hkl
              simp +contextual (maxSteps := 10000000) only [↓reduceIte, go_sem, Nat.reduceEqDiff, Nat.reduceAdd, Nat.reduceSub, Nat.reduceMul, Nat.reduceLeDiff, Nat.reduceLT, Nat.reduceBEq, Nat.reduceDiv, Nat.reduceMod, Int.reduceLE, Int.reduceLT, Int.reduceEq, Int.reduceBEq, Int.reduceBNe, Int.reduceAdd, Int.reduceSub, Int.reduceNeg, Int.reduceToNat, Int.reduceMul, Int.reducePow, Nat.reducePow, reduceCtorEq, hR, hC, hbr, hbc, hkl', hki, hs2, hsb, hk1, Nat.mul_one, hrc, hrr, hsz, (hf p hpm).refs, (hf p hpm).can, wrap_i64 (n := (k : Int) + 1) (by omega) (by omega)]
              exact ih2 (p.payload.size - (k + 1)) _ _ (by omega) ⟨k + 1, _, setB b k, rfl, (setB_size b k).trans hs2, rfl, hkl, rfl, rfl⟩
            clear ih2
            have hkl' : decide ((k : Int) < p.payload.size) = false := by simpa using hkg
            simp +contextual (maxSteps := 10000000) only [↓reduceIte, go_sem, Nat.reduceEqDiff, Nat.reduceAdd, Nat.reduceSub, Nat.reduceMul, Nat.reduceLeDiff, Nat.reduceLT, Nat.reduceBEq, Nat.reduceDiv, Nat.reduceMod, Int.reduceLE, Int.reduceLT, Int.reduceEq, Int.reduceBEq, Int.reduceBNe, Int.reduceAdd, Int.reduceSub, Int.reduceNeg, Int.reduceToNat, Int.reduceMul, Int.reducePow, Nat.reducePow, reduceCtorEq, hR, hC, hbr, hbc, w5, w6, open_r, w7, hrc, hrr, hsz, hkl', hs2, beq_self_eq_true, bne_self_eq_false, Bool.not_true, Bool.not_false, (hf p hpm).refs, (hf p hpm).can]
            rw [lpK_go]
            simp +contextual (maxSteps := 10000000) only [↓reduceIte, go_sem, Nat.reduceEqDiff, Nat.reduceAdd, Nat.reduceSub, Nat.reduceMul, Nat.reduceLeDiff, Nat.reduceLT, Nat.reduceBEq, Nat.reduceDiv, Nat.reduceMod, Int.reduceLE, Int.reduceLT, Int.reduceEq, Int.reduceBEq, Int.reduceBNe, Int.reduceAdd, Int.reduceSub, Int.reduceNeg, Int.reduceToNat, Int.reduceMul, Int.reducePow, Nat.reducePow, reduceCtorEq, hR, hC, hbr, hbc, w5, w6, open_r, w7, hrc, hrr, hsz, hkl', hs2, wrap_i64 (n := (i : Int) + 1) (by omega) (by omega)]
            exact ih _ _ _ (by omega) ⟨i + 1, _, true, (InV.mk id tag s r st (x.payload ++ p.payload)), gcs true (InV.mk id tag s r st (x.payload ++ p.payload)), rfl, rfl, hlt, by show (x.payload ++ p.payload).size ≤ 4096; omega, fun h => absurd h (by decide), gcs_can _ _, gcs_refs _ _, .inr ⟨rfl, by show 0 < (x.payload ++ p.payload).size; omega, rfl, by rw [show (InV.payload (InV.mk id tag s r st (x.payload ++ p.payload))).size = _ from hsz]; rfl⟩⟩
          · have w7 := same_r id tag s r st (x.payload ++ p.payload) (by rw [ByteArray.size_append]; omega)
            have hsz : (x.payload ++ p.payload).size = x.payload.size + p.payload.size := ByteArray.size_append ..
            rw [hsz] at w7
            simp only [Perf.dP, gcsP, InV.dP, in0, Perf.d, Perf.cs, gRow, gcs, InV.cs, InV.d, bytesD_nil] at e1 e2 w7 hxc
            simp only [fr5, gcsP]
            simp +contextual (maxSteps := 10000000) only [↓reduceIte, go_sem, Nat.reduceEqDiff, Nat.reduceAdd, Nat.reduceSub, Nat.reduceMul, Nat.reduceLeDiff, Nat.reduceLT, Nat.reduceBEq, Nat.reduceDiv, Nat.reduceMod, Int.reduceLE, Int.reduceLT, Int.reduceEq, Int.reduceBEq, Int.reduceBNe, Int.reduceAdd, Int.reduceSub, Int.reduceNeg, Int.reduceToNat, Int.reduceMul, Int.reducePow, Nat.reducePow, reduceCtorEq, hR, hC, hbr, hbc, w5, w6, open_r, hp, hlt', hz, hbd, hd', hx0, hxc, hxr, e1, e2, hsz, (hf p hpm).refs, (hf p hpm).can]
            refine lpK_inv (fun m f es => ∃ (k : Nat) (kk : Int) (b : ByteArray), kk = k ∧ b.size = p.payload.size ∧ m = p.payload.size - k ∧ k ≤ p.payload.size ∧ f = [(0, .ro false (l.map Perf.d)), (1, .ro false (dr.map B)), (5, .ptr 0 0 0), (6, .ptr 1 0 0), (7, I i), (8, .ptr 2 0 0), (9, .ptr 4 0 0), (10, I 1), (11, .ptr 6 0 0), (12, I 1), (13, I kk)] ∧ es = [some ⟨0, gz⟩, some ⟨0, gz⟩, some ⟨0, (p.dP (.ref 3 0 1 0 p.payload.size)).cells⟩, some ⟨0, bytesD b⟩, some ⟨0, ((InV.mk id tag s r st (x.payload ++ p.payload)).dP (.ref 5 0 1 0 (x.payload.size + p.payload.size))).cells⟩, some ⟨0, bytesD (x.payload ++ p.payload)⟩, some ⟨0, (InV.mk id tag s r st (x.payload ++ p.payload)).d.cells⟩]) p.payload.size ⟨0, _, p.payload, rfl, rfl, rfl, Nat.zero_le _, rfl, rfl⟩ ?_
            clear e1 e2
            rintro m f es ⟨k, kk, b, rfl, hs2, rfl, hk, rfl, rfl⟩ ih2
            rcases Nat.lt_or_ge k p.payload.size with hkl | hkg
            · have hkl' : decide ((k : Int) < p.payload.size) = true := by simpa using hkl
              have hsb := set_bytesD b k (by omega)
              have hk1 : k + 1 ≤ p.payload.size := hkl
              have hki : ((k : Int) < p.payload.size) = True := by simpa using hkl
              simp +contextual (maxSteps := 10000000) only [↓reduceIte, go_sem, Nat.reduceEqDiff, Nat.reduceAdd, Nat.reduceSub, Nat.reduceMul, Nat.reduceLeDiff, Nat.reduceLT, Nat.reduceBEq, Nat.reduceDiv, Nat.reduceMod, Int.reduceLE, Int.reduceLT, Int.reduceEq, Int.reduceBEq, Int.reduceBNe, Int.reduceAdd, Int.reduceSub, Int.reduceNeg, Int.reduceToNat, Int.reduceMul, Int.reducePow, Nat.reducePow, reduceCtorEq, hR, hC, hbr, hbc, hkl', hki, hs2, hsb, hk1, Nat.mul_one, hsz, (hf p hpm).refs, (hf p hpm).can, wrap_i64 (n := (k : Int) + 1) (by omega) (by omega)]
              exact ih2 (p.payload.size - (k + 1)) _ _ (by omega) ⟨k + 1, _, setB b k, rfl, (setB_size b k).trans hs2, rfl, hkl, rfl, rfl⟩
            clear ih2
            have hkl' : decide ((k : Int) < p.payload.size) = false := by simpa using hkg
            simp +contextual (maxSteps := 10000000) only [↓reduceIte, go_sem, Nat.reduceEqDiff, Nat.reduceAdd, Nat.reduceSub, Nat.reduceMul, Nat.reduceLeDiff, Nat.reduceLT, Nat.reduceBEq, Nat.reduceDiv, Nat.reduceMod, Int.reduceLE, Int.reduceLT, Int.reduceEq, Int.reduceBEq, Int.reduceBNe, Int.reduceAdd, Int.reduceSub, Int.reduceNeg, Int.reduceToNat, Int.reduceMul, Int.reducePow, Nat.reducePow, reduceCtorEq, hR, hC, hbr, hbc, w5, w6, open_r, w7, hsz, hkl', hs2, beq_self_eq_true, bne_self_eq_false, Bool.not_true, Bool.not_false, (hf p hpm).refs, (hf p hpm).can]
            refine lpK_inv (fun m f es => ∃ (k : Nat) (kk : Int) (b : ByteArray), kk = k ∧ b.size = (x.payload.size + p.payload.size) ∧ m = (x.payload.size + p.payload.size) - k ∧ k ≤ (x.payload.size + p.payload.size) ∧ f = [(0, .ro false (l.map Perf.d)), (1, .ro false (dr.map B)), (5, .ptr 0 0 0), (6, .ptr 1 0 0), (7, I i), (9, .ptr 2 0 0), (14, I kk)] ∧ es = [some ⟨0, gcs false in0⟩, some ⟨0, gcs false in0⟩, some ⟨0, ((InV.mk id tag s r st (x.payload ++ p.payload)).dP (.ref 3 0 1 0 (x.payload.size + p.payload.size))).cells⟩, some ⟨0, bytesD b⟩]) ((x.payload.size + p.payload.size)) ⟨0, _, (x.payload ++ p.payload), rfl, hsz, rfl, Nat.zero_le _, rfl, rfl⟩ ?_
            rintro m f es ⟨k2, kk2, b2, rfl, hb2, rfl, hk2, rfl, rfl⟩ ih2
            rcases Nat.lt_or_ge k2 ((x.payload.size + p.payload.size)) with hkl2 | hkg2
            · have hkl3 : decide ((k2 : Int) < ((x.payload.size : Int) + p.payload.size)) = true := by simp <;> omega
              have hsb := set_bytesD b2 k2 (by omega)
              have hk1 : k2 + 1 ≤ (x.payload.size + p.payload.size) := hkl2
              have hki : ((k2 : Int) < ((x.payload.size : Int) + p.payload.size)) = True := by simp <;> omega
              simp +contextual (maxSteps := 10000000) only [↓reduceIte, go_sem, Nat.reduceEqDiff, Nat.reduceAdd, Nat.reduceSub, Nat.reduceMul, Nat.reduceLeDiff, Nat.reduceLT, Nat.reduceBEq, Nat.reduceDiv, Nat.reduceMod, Int.reduceLE, Int.reduceLT, Int.reduceEq, Int.reduceBEq, Int.reduceBNe, Int.reduceAdd, Int.reduceSub, Int.reduceNeg, Int.reduceToNat, Int.reduceMul, Int.reducePow, Nat.reducePow, reduceCtorEq, hR, hC, hbr, hbc, hkl3, hki, hb2, hsb, hk1, Nat.mul_one, (hf p hpm).refs, (hf p hpm).can, wrap_i64 (n := (k2 : Int) + 1) (by omega) (by omega)]
              exact ih2 ((x.payload.size + p.payload.size) - (k2 + 1)) _ _ (by omega) ⟨k2 + 1, _, setB b2 k2, rfl, (setB_size b2 k2).trans hb2, rfl, hkl2, rfl, rfl⟩
            clear ih2
            have hkl3 : decide ((k2 : Int) < ((x.payload.size : Int) + p.payload.size)) = false := by simp <;> omega
            simp +contextual (maxSteps := 10000000) only [↓reduceIte, go_sem, Nat.reduceEqDiff, Nat.reduceAdd, Nat.reduceSub, Nat.reduceMul, Nat.reduceLeDiff, Nat.reduceLT, Nat.reduceBEq, Nat.reduceDiv, Nat.reduceMod, Int.reduceLE, Int.reduceLT, Int.reduceEq, Int.reduceBEq, Int.reduceBNe, Int.reduceAdd, Int.reduceSub, Int.reduceNeg, Int.reduceToNat, Int.reduceMul, Int.reducePow, Nat.reducePow, reduceCtorEq, hR, hC, hbr, hbc, hkl3, hb2, (hf p hpm).refs, (hf p hpm).can, wrap_i64 (n := (i : Int) + 1) (by omega) (by omega)]
            exact ih _ _ _ (by omega) ⟨i + 1, _, false, in0, gcs false in0, rfl, rfl, hlt, by decide, fun _ => rfl, gcs_can _ _, gcs_refs _ _, .inl ⟨.ro false [], rfl, rfl, rfl, rfl, rfl⟩⟩
  · have hlt' : decide ((i : Int) < l.length) = false := by simpa using hge
    rcases hcase with ⟨gd, hg1, hg2, hx0, rfl, rfl⟩ | ⟨rfl, hx0, rfl, rfl⟩
    · simp only [fr5]
      simp +contextual (maxSteps := 10000000) only [↓reduceIte, go_sem, Nat.reduceEqDiff, Nat.reduceAdd, Nat.reduceSub, Nat.reduceMul, Nat.reduceLeDiff, Nat.reduceLT, Nat.reduceBEq, Nat.reduceDiv, Nat.reduceMod, Int.reduceLE, Int.reduceLT, Int.reduceEq, Int.reduceBEq, Int.reduceBNe, Int.reduceAdd, Int.reduceSub, Int.reduceNeg, Int.reduceToNat, Int.reduceMul, Int.reducePow, Nat.reducePow, reduceCtorEq, hlt', w2]
    · simp only [fr5]
      simp +contextual (maxSteps := 10000000) only [↓reduceIte, go_sem, Nat.reduceEqDiff, Nat.reduceAdd, Nat.reduceSub, Nat.reduceMul, Nat.reduceLeDiff, Nat.reduceLT, Nat.reduceBEq, Nat.reduceDiv, Nat.reduceMod, Int.reduceLE, Int.reduceLT, Int.reduceEq, Int.reduceBEq, Int.reduceBNe, Int.reduceAdd, Int.reduceSub, Int.reduceNeg, Int.reduceToNat, Int.reduceMul, Int.reducePow, Nat.reducePow, reduceCtorEq, hlt', w2]
end Go.Bw.R1
