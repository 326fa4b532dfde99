/- What the functions answer. -/
import Derived.Test.YtpeapoekjfonpaaWalk2
set_option linter.unusedSimpArgs false
set_option linter.unusedVariables false
namespace Go.Bw.R1
set_option maxRecDepth 5000
open Go Go.Bw Go.Proofs
theorem beq_txt (a b : ByteArray) : (a == b) = decide (a = b) := by
  cases a with
  | mk x =>
    cases b with
    | mk y =>
      show (x == y) = _
      rw [Bool.eq_iff_iff]; simp
theorem txt_at {s : ByteArray} {i : Nat} {x : Int} (h : (bl s)[i]? = some x) : ∃ w : UInt8, s[i]? = some w ∧ (w.toNat : Int) = x := by
  unfold bl at h
  rw [List.getElem?_map, Option.map_eq_some_iff] at h
  obtain ⟨w, h1, h2⟩ := h
  rw [Array.getElem?_toList] at h1
  have hl : i < s.size := (Array.getElem?_eq_some_iff.1 h1).1
  refine ⟨w, ?_, h2⟩
  rw [getElem?_pos s i hl]
  rw [getElem?_pos s.data i hl] at h1
  exact h1
theorem outV_sz (o : Outc) : (outV o).sz ≤ o.cond.size + 30 := by
  unfold outV
  split
  · exact Nat.le_trans (by decide : vN.sz ≤ 30) (by omega)
  · have := putS_sz (34 + o.kind) (outF o); have := outF_sz o; omega
set_option maxHeartbeats 2000000 in
theorem oputs_law (o : Outc) : EV 8 [o.d] [] = some (.ret (B true), []) := by
  refine (ev_body ⟨[1], [], [], false, [], noIt⟩ [.tmp 2] rfl Try.func8 rfl rfl rfl (by kernel_rfl) (by show 1 ≤ 33; decide)).trans ?_
  cases hb : decide (4096 < (o.cond.size : Int))
  · have hs : o.cond.size ≤ 4096 := by have := of_decide_eq_false hb; omega
    have h1 := oput_c o (by omega)
    have h2 := roput_c o (by omega)
    have h3 := same32 _ (outV o) (outV o) (Nat.le_refl _) (by have := outV_sz o; omega)
    rw [same_refl] at h3
    have h4 := same32 _ vZ vZ (Nat.le_refl _) (by decide)
    rw [same_refl] at h4
    simp only [Outc.d, Outc.cs] at h1 h2
    unfold putO at h1 h2
    cases hm : mayO o
    · rw [hm] at h1 h2
      simp only [Bool.false_eq_true, if_false] at h1 h2
      simp +contextual (maxSteps := 10000000) only [↓reduceIte, go_sem, Nat.reduceEqDiff, Nat.reduceAdd, Nat.reduceSub, Nat.reduceMul, Nat.reduceLeDiff, Nat.reduceLT, Nat.reduceBEq, Nat.reduceDiv, Nat.reduceMod, Int.reduceLE, Int.reduceLT, Int.reduceEq, Int.reduceBEq, Int.reduceBNe, Int.reduceAdd, Int.reduceSub, Int.reduceNeg, Int.reduceToNat, Int.reduceMul, Int.reducePow, Nat.reducePow, reduceCtorEq, hb, h1, h2, h4, works8, beq_self_eq_true, Bool.and_self]
    · rw [hm] at h1 h2
      simp only [if_true] at h1 h2
      simp +contextual (maxSteps := 10000000) only [↓reduceIte, go_sem, Nat.reduceEqDiff, Nat.reduceAdd, Nat.reduceSub, Nat.reduceMul, Nat.reduceLeDiff, Nat.reduceLT, Nat.reduceBEq, Nat.reduceDiv, Nat.reduceMod, Int.reduceLE, Int.reduceLT, Int.reduceEq, Int.reduceBEq, Int.reduceBNe, Int.reduceAdd, Int.reduceSub, Int.reduceNeg, Int.reduceToNat, Int.reduceMul, Int.reducePow, Nat.reducePow, reduceCtorEq, hb, h1, h2, h3, works8, beq_self_eq_true, Bool.and_self]
  · simp +contextual (maxSteps := 10000000) only [↓reduceIte, go_sem, Nat.reduceEqDiff, Nat.reduceAdd, Nat.reduceSub, Nat.reduceMul, Nat.reduceLeDiff, Nat.reduceLT, Nat.reduceBEq, Nat.reduceDiv, Nat.reduceMod, Int.reduceLE, Int.reduceLT, Int.reduceEq, Int.reduceBEq, Int.reduceBNe, Int.reduceAdd, Int.reduceSub, Int.reduceNeg, Int.reduceToNat, Int.reduceMul, Int.reducePow, Nat.reducePow, reduceCtorEq, hb, works8]
def omF (o : Outc) (l : List Int) : Bool := decide (o.kind ≤ 5) && l.all fun x => decide (x < 128) && o.kind == 3
theorem omF_fine (o : Outc) (h : 0 ≤ o.kind ∧ 0 ≤ o.a ∧ 0 ≤ o.b) : mayO o = (omF o (bl o.cond) && (if o.kind = 1 then decide (o.a < 4294967296) else if o.kind = 5 then decide (o.a < 2) && decide (o.b < 2) else o.a == 0 && o.b == 0)) := by
  obtain ⟨k, a, b, c⟩ := o
  simp only at h
  obtain ⟨h0, ha0, hb0⟩ := h
  have hal : (bl c).all (fun x => decide (x < 128) && k == 3) = (asc (bl c) && (decide (c.size = 0) || k == 3)) := by
    have hl := bl_len c
    cases hc : bl c with
    | nil => rw [hc] at hl; simp only [List.length_nil] at hl; simp [asc, ← hl]
    | cons x r =>
      rw [hc] at hl
      simp only [List.length_cons] at hl
      have h0 : decide (c.size = 0) = false := decide_eq_false (by omega)
      rw [h0, Bool.false_or]
      cases hk : k == 3
      · simp
      · simp [asc]
  unfold omF mayO
  simp only [hal]
  by_cases h1 : k = 1
  · subst h1; simp only [if_true, Int.reduceLE, decide_true, Bool.true_and, show decide (a < 4294967296) = decide (a ≤ 4294967295) from decide_eq_decide.2 (by omega)]
  by_cases h5 : k = 5
  · subst h5; simp only [if_true, Int.reduceLE, Int.reduceEq, if_false, decide_true, Bool.true_and, show decide (a < 2) = decide (a ≤ 1) from decide_eq_decide.2 (by omega), show decide (b < 2) = decide (b ≤ 1) from decide_eq_decide.2 (by omega)]
  rw [if_neg h1, if_neg h5, if_neg h1, if_neg h5]
  by_cases hk : k ≤ 5
  · rw [if_pos (by omega)]; simp [hk]
  · rw [if_neg (by omega)]; simp [hk]
set_option maxHeartbeats 4000000 in
theorem omay_law (o : Outc) (h : 0 ≤ o.kind ∧ 0 ≤ o.a ∧ 0 ≤ o.b) : EV 10 [o.d] [] = some (.ret (B true), []) := by
  have hl := bl_len o.cond
  refine (ev_body ⟨[1], [(0, [1, 3, 4])], [], false, [], noIt⟩ [.tmp 2] rfl Try.func10 rfl rfl rfl (by kernel_rfl) (by show 1 ≤ 81; decide)).trans ?_
  cases hb : decide (4096 < (o.cond.size : Int))
  · have hs : o.cond.size ≤ 4096 := by have := of_decide_eq_false hb; omega
    have h1 := oput_c o (by omega)
    simp only [Outc.d, Outc.cs] at h1
    simp +contextual (maxSteps := 10000000) only [↓reduceIte, go_sem, Nat.reduceEqDiff, Nat.reduceAdd, Nat.reduceSub, Nat.reduceMul, Nat.reduceLeDiff, Nat.reduceLT, Nat.reduceBEq, Nat.reduceDiv, Nat.reduceMod, Int.reduceLE, Int.reduceLT, Int.reduceEq, Int.reduceBEq, Int.reduceBNe, Int.reduceAdd, Int.reduceSub, Int.reduceNeg, Int.reduceToNat, Int.reduceMul, Int.reducePow, Nat.reducePow, reduceCtorEq, hb]
    refine lpK_inv (fun m0 f es => ∃ (i : Nat) (j : Int) (b : Bool), j = i ∧ i + m0 = o.cond.size ∧ b = omF o ((bl o.cond).take i) ∧ f = [(1, .rp o.cs), (3, B b), (4, I j)] ∧ es = []) o.cond.size ⟨0, _, _, rfl, by omega, (by simp [omF]), rfl, rfl⟩ ?_
    rintro m0 _ _ ⟨i, j, b, hj, hi, hbb, rfl, rfl⟩ ih
    rcases Nat.lt_or_ge i o.cond.size with hlt | hge
    · obtain ⟨x, hx⟩ := get_lt (l := bl o.cond) (i := i) (by omega)
      have hlt' : decide (j < o.cond.size) = true := by simp <;> omega
      have hs := take_snoc hx
      have hst : omF o ((bl o.cond).take (i + 1)) = (omF o ((bl o.cond).take i) && (decide (x < 128) && o.kind == 3)) := by
        rw [hs]; simp [omF, Bool.and_assoc]
      cases b
      · simp +contextual (maxSteps := 10000000) only [↓reduceIte, go_sem, Nat.reduceEqDiff, Nat.reduceAdd, Nat.reduceSub, Nat.reduceMul, Nat.reduceLeDiff, Nat.reduceLT, Nat.reduceBEq, Nat.reduceDiv, Nat.reduceMod, Int.reduceLE, Int.reduceLT, Int.reduceEq, Int.reduceBEq, Int.reduceBNe, Int.reduceAdd, Int.reduceSub, Int.reduceNeg, Int.reduceToNat, Int.reduceMul, Int.reducePow, Nat.reducePow, reduceCtorEq, hlt', show 0 ≤ j by omega, show j < o.cond.size by omega, wrap_i64 (n := j + 1) (by omega) (by omega)]
        exact ih (m0 - 1) _ _ (by omega) ⟨i + 1, j + 1, _, by omega, by omega, by rw [hst, ← hbb]; rfl, rfl, rfl⟩
      · obtain ⟨w, hw1, hw2⟩ := txt_at hx
        have g1 : o.cond[j.toNat]? = some w := by rw [show j.toNat = i by omega]; exact hw1
        cases h1 : decide (x < 128) <;> cases h2 : o.kind == 3
        all_goals
          simp +contextual (maxSteps := 10000000) only [↓reduceIte, go_sem, Nat.reduceEqDiff, Nat.reduceAdd, Nat.reduceSub, Nat.reduceMul, Nat.reduceLeDiff, Nat.reduceLT, Nat.reduceBEq, Nat.reduceDiv, Nat.reduceMod, Int.reduceLE, Int.reduceLT, Int.reduceEq, Int.reduceBEq, Int.reduceBNe, Int.reduceAdd, Int.reduceSub, Int.reduceNeg, Int.reduceToNat, Int.reduceMul, Int.reducePow, Nat.reducePow, reduceCtorEq, hlt', g1, hw2, h1, h2, show 0 ≤ j by omega, show j < o.cond.size by omega, wrap_i64 (n := j + 1) (by omega) (by omega)]
          exact ih (m0 - 1) _ _ (by omega) ⟨i + 1, j + 1, _, by omega, by omega, by rw [hst, ← hbb, h1, h2]; rfl, rfl, rfl⟩
    · have hlt' : decide (j < o.cond.size) = false := by simp <;> omega
      rw [List.take_of_length_le (by omega)] at hbb
      have hf := omF_fine o h
      rw [← hbb] at hf
      unfold putO at h1
      by_cases k1 : o.kind = 1
      · have e : (o.kind == 1) = true := by simpa using k1
        rw [if_pos k1] at hf
        cases b <;> cases q : decide (o.a < 4294967296) <;> rw [q] at hf <;> simp only [hf, Bool.false_and, Bool.true_and, Bool.false_eq_true, if_true, if_false] at h1
        all_goals simp +contextual (maxSteps := 10000000) only [↓reduceIte, go_sem, Nat.reduceEqDiff, Nat.reduceAdd, Nat.reduceSub, Nat.reduceMul, Nat.reduceLeDiff, Nat.reduceLT, Nat.reduceBEq, Nat.reduceDiv, Nat.reduceMod, Int.reduceLE, Int.reduceLT, Int.reduceEq, Int.reduceBEq, Int.reduceBNe, Int.reduceAdd, Int.reduceSub, Int.reduceNeg, Int.reduceToNat, Int.reduceMul, Int.reducePow, Nat.reducePow, reduceCtorEq, hlt', e, q, h1, works8, beq_self_eq_true]
      · have e1 : (o.kind == 1) = false := by simpa using k1
        rw [if_neg k1] at hf
        by_cases k5 : o.kind = 5
        · have e : (o.kind == 5) = true := by simpa using k5
          rw [if_pos k5] at hf
          cases b <;> cases q : decide (o.a < 2) <;> cases q2 : decide (o.b < 2) <;> rw [q, q2] at hf <;> simp only [hf, Bool.false_and, Bool.true_and, Bool.and_self, Bool.false_eq_true, if_true, if_false] at h1
          all_goals simp +contextual (maxSteps := 10000000) only [↓reduceIte, go_sem, Nat.reduceEqDiff, Nat.reduceAdd, Nat.reduceSub, Nat.reduceMul, Nat.reduceLeDiff, Nat.reduceLT, Nat.reduceBEq, Nat.reduceDiv, Nat.reduceMod, Int.reduceLE, Int.reduceLT, Int.reduceEq, Int.reduceBEq, Int.reduceBNe, Int.reduceAdd, Int.reduceSub, Int.reduceNeg, Int.reduceToNat, Int.reduceMul, Int.reducePow, Nat.reducePow, reduceCtorEq, hlt', e1, e, q, q2, h1, works8, beq_self_eq_true]
        · have e : (o.kind == 5) = false := by simpa using k5
          rw [if_neg k5] at hf
          cases b <;> cases q : (o.a == 0) <;> cases q2 : (o.b == 0) <;> rw [q, q2] at hf <;> simp only [hf, Bool.false_and, Bool.true_and, Bool.and_self, Bool.false_eq_true, if_true, if_false] at h1
          all_goals simp +contextual (maxSteps := 10000000) only [↓reduceIte, go_sem, Nat.reduceEqDiff, Nat.reduceAdd, Nat.reduceSub, Nat.reduceMul, Nat.reduceLeDiff, Nat.reduceLT, Nat.reduceBEq, Nat.reduceDiv, Nat.reduceMod, Int.reduceLE, Int.reduceLT, Int.reduceEq, Int.reduceBEq, Int.reduceBNe, Int.reduceAdd, Int.reduceSub, Int.reduceNeg, Int.reduceToNat, Int.reduceMul, Int.reducePow, Nat.reducePow, reduceCtorEq, hlt', e1, e, q, q2, h1, works8, beq_self_eq_true]
  · simp +contextual (maxSteps := 10000000) only [↓reduceIte, go_sem, Nat.reduceEqDiff, Nat.reduceAdd, Nat.reduceSub, Nat.reduceMul, Nat.reduceLeDiff, Nat.reduceLT, Nat.reduceBEq, Nat.reduceDiv, Nat.reduceMod, Int.reduceLE, Int.reduceLT, Int.reduceEq, Int.reduceBEq, Int.reduceBNe, Int.reduceAdd, Int.reduceSub, Int.reduceNeg, Int.reduceToNat, Int.reduceMul, Int.reducePow, Nat.reducePow, reduceCtorEq, hb, works8]
end Go.Bw.R1

namespace Go.Bw.R1
set_option maxRecDepth 5000
open Go Go.Bw Go.Proofs
theorem condV_wf (c : ByteArray) : (condV c).wf := by
  unfold condV
  split
  · exact ⟨by decide, trivial⟩
  · exact putS_wf 29 (by decide) ⟨⟨by decide, trivial⟩, trivial⟩
theorem outV_wf (o : Outc) (hk : 0 ≤ o.kind ∧ o.kind ≤ 5) (ha : 0 ≤ o.a ∧ o.a < 18446744073709551616) (hb : 0 ≤ o.b ∧ o.b < 18446744073709551616) : (outV o).wf := by
  have hf : ∀ n, (flagV n).wf := fun n => by unfold flagV; split <;> exact ⟨by decide, trivial⟩
  unfold outV
  split
  · exact ⟨by decide, trivial⟩
  · refine putS_wf _ (by omega) ?_
    unfold outF
    split
    · exact ⟨⟨⟨by decide, by decide, ha.1, ha.2⟩, trivial⟩, ⟨⟨by decide, by decide, hb.1, hb.2⟩, trivial⟩, trivial⟩
    · split
      · exact ⟨condV_wf _, trivial⟩
      · split
        · exact ⟨hf _, hf _, trivial⟩
        · exact trivial
theorem may_kind5 {o : Outc} (h : mayO o = true) : 0 ≤ o.kind ∧ o.kind ≤ 5 := by rcases may_kind h with h | h | h | h | h | h <;> omega
theorem may_a {o : Outc} (h : mayO o = true) : o.a < 18446744073709551616 := by
  simp only [mayO, Bool.and_eq_true] at h
  have h2 := h.2
  repeat' split at h2
  all_goals (simp only [Bool.and_eq_true, decide_eq_true_eq, beq_iff_eq, Bool.false_eq_true] at h2)
  all_goals omega
/-- the checks of OutcomeBack's middle part -/
theorem back_get (p : Outc) (hm : mayO p = true) (h0 : 0 ≤ p.a ∧ 0 ≤ p.b) (hb : p.b < 18446744073709551616) (hs : p.cond.size ≤ 3000000) : EV 35 [p.d] [] = some (.ret (.tup [(outV p).d, I 0]), []) ∧ EV 37 [(outV p).d] [] = some (.ret (.tup [p.d, I 0]), []) ∧ EV 21 [(outV p).d] [] = some (.ret (B true), []) := by
  have h1 := oput_c p hs
  unfold putO at h1
  rw [if_pos hm] at h1
  have hz := outV_sz p
  have hw := outV_wf p (may_kind5 hm) ⟨h0.1, may_a hm⟩ ⟨h0.2, hb⟩
  have h2 := oget_c (outV p) (by omega) hw
  obtain ⟨hr, hg⟩ := out_right hm h0
  rw [hg] at h2
  have h3 := right_c (outV p) (by omega) hw
  rw [hr] at h3
  exact ⟨h1, h2, h3⟩
set_option maxHeartbeats 4000000 in
theorem oback_law (o : Outc) (ho : 0 ≤ o.kind ∧ 0 ≤ o.a ∧ 0 ≤ o.b ∧ o.b < 18446744073709551616) (hs : o.cond.size ≤ 3000000) (v : Val) (hw : v.wf) (hv : v.sz ≤ 2999990) (c : ByteArray) (hc : c.size ≤ 3000000) : EV 9 [o.d, v.d, Sx c] [] = some (.ret (B true), []) := by
  have hlg := large1 v (by omega)
  -- the last part
  have hpc := pcond_c c hc
  have hgc := gcond_c (condV c) (by have := condV_sz c; omega) (condV_wf c)
  have hnull := condV_null c
  have he := size0 c
  rw [← he] at hnull
  have hput0 := oput_c o hs
  simp only [Outc.d, Outc.cs] at hput0
  have hget := oget_c v (by omega) hw
  have hbt : ∀ a : ByteArray, (a == a) = true := fun a => by rw [beq_txt]; simp
  refine (ev_body ⟨[3, 4], [], [], false, [], noIt⟩ [.tmp 6] rfl Try.func9 rfl rfl rfl (by kernel_rfl) (by show 3 ≤ 130; decide)).trans ?_
  cases hb0 : decide (4096 < IntKind.i64.wrap ((o.cond.size : Int) + c.size))
  · cases hb : decide (8192 < lgS [v])
    · rw [hb] at hlg
      cases hm : mayO o
      · unfold putO at hput0
        rw [hm] at hput0
        simp only [Bool.false_eq_true, if_false] at hput0
        cases hg : getO v with
        | none =>
          rw [hg] at hget
          simp only [getR', Outc.d, Outc.cs, oc0] at hget
          cases ha : asc (bl c)
          · rw [ha] at hpc
            simp only [Bool.false_eq_true, if_false] at hpc
            simp +contextual (maxSteps := 10000000) only [↓reduceIte, go_sem, Nat.reduceEqDiff, Nat.reduceAdd, Nat.reduceSub, Nat.reduceMul, Nat.reduceLeDiff, Nat.reduceLT, Nat.reduceBEq, Nat.reduceDiv, Nat.reduceMod, Int.reduceLE, Int.reduceLT, Int.reduceEq, Int.reduceBEq, Int.reduceBNe, Int.reduceAdd, Int.reduceSub, Int.reduceNeg, Int.reduceToNat, Int.reduceMul, Int.reducePow, Nat.reducePow, reduceCtorEq, hb0, hlg, hput0, hget, hpc, works8, hbt, beq_self_eq_true, Bool.and_self, Bool.not_true]
          · rw [ha] at hpc
            rw [gcS_condV ha] at hgc
            simp only [if_true, gcR] at hpc hgc
            simp +contextual (maxSteps := 10000000) only [↓reduceIte, go_sem, Nat.reduceEqDiff, Nat.reduceAdd, Nat.reduceSub, Nat.reduceMul, Nat.reduceLeDiff, Nat.reduceLT, Nat.reduceBEq, Nat.reduceDiv, Nat.reduceMod, Int.reduceLE, Int.reduceLT, Int.reduceEq, Int.reduceBEq, Int.reduceBNe, Int.reduceAdd, Int.reduceSub, Int.reduceNeg, Int.reduceToNat, Int.reduceMul, Int.reducePow, Nat.reducePow, reduceCtorEq, hb0, hlg, hput0, hget, hpc, hgc, hnull, works8, hbt, beq_self_eq_true, Bool.and_self, Bool.not_true]
        | some p =>
          rw [hg] at hget
          obtain ⟨q1, q2, q3, q4⟩ := getO_may hw hg
          obtain ⟨p1, p2, _⟩ := back_get p q1 q2 q4 (by omega)
          simp only [getR', Outc.d, Outc.cs] at hget p1 p2
          cases ha : asc (bl c)
          · rw [ha] at hpc
            simp only [Bool.false_eq_true, if_false] at hpc
            simp +contextual (maxSteps := 10000000) only [↓reduceIte, go_sem, Nat.reduceEqDiff, Nat.reduceAdd, Nat.reduceSub, Nat.reduceMul, Nat.reduceLeDiff, Nat.reduceLT, Nat.reduceBEq, Nat.reduceDiv, Nat.reduceMod, Int.reduceLE, Int.reduceLT, Int.reduceEq, Int.reduceBEq, Int.reduceBNe, Int.reduceAdd, Int.reduceSub, Int.reduceNeg, Int.reduceToNat, Int.reduceMul, Int.reducePow, Nat.reducePow, reduceCtorEq, hb0, hlg, hput0, hget, p1, p2, hpc, works8, hbt, beq_self_eq_true, Bool.and_self, Bool.not_true]
          · rw [ha] at hpc
            rw [gcS_condV ha] at hgc
            simp only [if_true, gcR] at hpc hgc
            simp +contextual (maxSteps := 10000000) only [↓reduceIte, go_sem, Nat.reduceEqDiff, Nat.reduceAdd, Nat.reduceSub, Nat.reduceMul, Nat.reduceLeDiff, Nat.reduceLT, Nat.reduceBEq, Nat.reduceDiv, Nat.reduceMod, Int.reduceLE, Int.reduceLT, Int.reduceEq, Int.reduceBEq, Int.reduceBNe, Int.reduceAdd, Int.reduceSub, Int.reduceNeg, Int.reduceToNat, Int.reduceMul, Int.reducePow, Nat.reducePow, reduceCtorEq, hb0, hlg, hput0, hget, p1, p2, hpc, hgc, hnull, works8, hbt, beq_self_eq_true, Bool.and_self, Bool.not_true]
      · obtain ⟨hput1, hget1, hright1⟩ := back_get o hm ⟨ho.2.1, ho.2.2.1⟩ ho.2.2.2 hs
        simp only [Outc.d, Outc.cs] at hput1 hget1
        cases hg : getO v with
        | none =>
          rw [hg] at hget
          simp only [getR', Outc.d, Outc.cs, oc0] at hget
          cases ha : asc (bl c)
          · rw [ha] at hpc
            simp only [Bool.false_eq_true, if_false] at hpc
            simp +contextual (maxSteps := 10000000) only [↓reduceIte, go_sem, Nat.reduceEqDiff, Nat.reduceAdd, Nat.reduceSub, Nat.reduceMul, Nat.reduceLeDiff, Nat.reduceLT, Nat.reduceBEq, Nat.reduceDiv, Nat.reduceMod, Int.reduceLE, Int.reduceLT, Int.reduceEq, Int.reduceBEq, Int.reduceBNe, Int.reduceAdd, Int.reduceSub, Int.reduceNeg, Int.reduceToNat, Int.reduceMul, Int.reducePow, Nat.reducePow, reduceCtorEq, hb0, hlg, hput1, hget1, hright1, hget, hpc, works8, hbt, beq_self_eq_true, Bool.and_self, Bool.not_true]
          · rw [ha] at hpc
            rw [gcS_condV ha] at hgc
            simp only [if_true, gcR] at hpc hgc
            simp +contextual (maxSteps := 10000000) only [↓reduceIte, go_sem, Nat.reduceEqDiff, Nat.reduceAdd, Nat.reduceSub, Nat.reduceMul, Nat.reduceLeDiff, Nat.reduceLT, Nat.reduceBEq, Nat.reduceDiv, Nat.reduceMod, Int.reduceLE, Int.reduceLT, Int.reduceEq, Int.reduceBEq, Int.reduceBNe, Int.reduceAdd, Int.reduceSub, Int.reduceNeg, Int.reduceToNat, Int.reduceMul, Int.reducePow, Nat.reducePow, reduceCtorEq, hb0, hlg, hput1, hget1, hright1, hget, hpc, hgc, hnull, works8, hbt, beq_self_eq_true, Bool.and_self, Bool.not_true]
        | some p =>
          rw [hg] at hget
          obtain ⟨q1, q2, q3, q4⟩ := getO_may hw hg
          obtain ⟨p1, p2, _⟩ := back_get p q1 q2 q4 (by omega)
          simp only [getR', Outc.d, Outc.cs] at hget p1 p2
          cases ha : asc (bl c)
          · rw [ha] at hpc
            simp only [Bool.false_eq_true, if_false] at hpc
            simp +contextual (maxSteps := 10000000) only [↓reduceIte, go_sem, Nat.reduceEqDiff, Nat.reduceAdd, Nat.reduceSub, Nat.reduceMul, Nat.reduceLeDiff, Nat.reduceLT, Nat.reduceBEq, Nat.reduceDiv, Nat.reduceMod, Int.reduceLE, Int.reduceLT, Int.reduceEq, Int.reduceBEq, Int.reduceBNe, Int.reduceAdd, Int.reduceSub, Int.reduceNeg, Int.reduceToNat, Int.reduceMul, Int.reducePow, Nat.reducePow, reduceCtorEq, hb0, hlg, hput1, hget1, hright1, hget, p1, p2, hpc, works8, hbt, beq_self_eq_true, Bool.and_self, Bool.not_true]
          · rw [ha] at hpc
            rw [gcS_condV ha] at hgc
            simp only [if_true, gcR] at hpc hgc
            simp +contextual (maxSteps := 10000000) only [↓reduceIte, go_sem, Nat.reduceEqDiff, Nat.reduceAdd, Nat.reduceSub, Nat.reduceMul, Nat.reduceLeDiff, Nat.reduceLT, Nat.reduceBEq, Nat.reduceDiv, Nat.reduceMod, Int.reduceLE, Int.reduceLT, Int.reduceEq, Int.reduceBEq, Int.reduceBNe, Int.reduceAdd, Int.reduceSub, Int.reduceNeg, Int.reduceToNat, Int.reduceMul, Int.reducePow, Nat.reducePow, reduceCtorEq, hb0, hlg, hput1, hget1, hright1, hget, p1, p2, hpc, hgc, hnull, works8, hbt, beq_self_eq_true, Bool.and_self, Bool.not_true]
    · rw [hb] at hlg
      simp +contextual (maxSteps := 10000000) only [↓reduceIte, go_sem, Nat.reduceEqDiff, Nat.reduceAdd, Nat.reduceSub, Nat.reduceMul, Nat.reduceLeDiff, Nat.reduceLT, Nat.reduceBEq, Nat.reduceDiv, Nat.reduceMod, Int.reduceLE, Int.reduceLT, Int.reduceEq, Int.reduceBEq, Int.reduceBNe, Int.reduceAdd, Int.reduceSub, Int.reduceNeg, Int.reduceToNat, Int.reduceMul, Int.reducePow, Nat.reducePow, reduceCtorEq, hb0, hlg, works8]
  · simp +contextual (maxSteps := 10000000) only [↓reduceIte, go_sem, Nat.reduceEqDiff, Nat.reduceAdd, Nat.reduceSub, Nat.reduceMul, Nat.reduceLeDiff, Nat.reduceLT, Nat.reduceBEq, Nat.reduceDiv, Nat.reduceMod, Int.reduceLE, Int.reduceLT, Int.reduceEq, Int.reduceBEq, Int.reduceBNe, Int.reduceAdd, Int.reduceSub, Int.reduceNeg, Int.reduceToNat, Int.reduceMul, Int.reducePow, Nat.reducePow, reduceCtorEq, hb0, works8]
end Go.Bw.R1
