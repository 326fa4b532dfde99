/- What the functions answer. -/
import Derived.Test.YtpeapoekjfonpaaWalk2
set_option linter.unusedSimpArgs false
set_option linter.unusedVariables false
namespace Go.Bw.R1
set_option maxRecDepth 5000
open Go Go.Bw Go.Proofs
theorem newS_wf {v : Val} (hw : v.wf) {code : Int} {name : ByteArray} {l : List Val} (h : newS v code name = some l) : Val.wfL l := by
  obtain ⟨_, _, d, x, hk, _, _, rfl, _⟩ := newS_some h
  have h1 := hw.kids
  rw [hk] at h1
  exact h1.2.1.kids
set_option maxHeartbeats 2000000 in
theorem oget_null (v : Val) (h : v.kind = 1) : EV 37 [v.d] [] = some (.ret (getR' (some oc0)), []) := by
  have e : (v.kind == 1) = true := by simpa using h
  refine (ev_body ⟨[1], [(0, [1, 2, 3, 12, 13, 14]), (1000000, [1, 2, 3])], [], false, [], noIt⟩ [.cell 2 64, .tmp 3] rfl Try.func37 rfl rfl rfl (by kernel_rfl) (by show 1 ≤ 47; decide)).trans ?_
  simp +contextual (maxSteps := 10000000) only [↓reduceIte, go_sem, Nat.reduceEqDiff, Nat.reduceAdd, Nat.reduceSub, Nat.reduceMul, Nat.reduceLeDiff, Nat.reduceLT, Nat.reduceBEq, Nat.reduceDiv, Nat.reduceMod, Int.reduceLE, Int.reduceLT, Int.reduceEq, Int.reduceBEq, Int.reduceBNe, Int.reduceAdd, Int.reduceSub, Int.reduceNeg, Int.reduceToNat, Int.reduceMul, Int.reducePow, Nat.reducePow, reduceCtorEq]
  refine (run_scope 0 rfl rfl).trans ?_
  simp +contextual (maxSteps := 10000000) only [↓reduceIte, go_sem, Nat.reduceEqDiff, Nat.reduceAdd, Nat.reduceSub, Nat.reduceMul, Nat.reduceLeDiff, Nat.reduceLT, Nat.reduceBEq, Nat.reduceDiv, Nat.reduceMod, Int.reduceLE, Int.reduceLT, Int.reduceEq, Int.reduceBEq, Int.reduceBNe, Int.reduceAdd, Int.reduceSub, Int.reduceNeg, Int.reduceToNat, Int.reduceMul, Int.reducePow, Nat.reducePow, reduceCtorEq, e]
  rfl
set_option maxRecDepth 20000 in
set_option maxHeartbeats 8000000 in
theorem oget_1 (v : Val) (hs : v.sz ≤ 3999990) (hw : v.wf) (h : v.kind ≠ 1)  (l : List Val) (hn : newS v 35 nm1 = some l) : EV 37 [v.d] [] = some (.ret (getR' (gFin (gF1 l) l 2)), []) := by
  have e : (v.kind == 1) = false := by simpa using h
  have r1 := new_some v (by omega) hw 35 nm1 l hn
  have hg := fun sp => getf1_c l sp
  have hd := fun sp => done_c l sp 2
  refine (ev_body ⟨[1], [(0, [1, 2, 3, 12, 13, 14]), (1000000, [1, 2, 3])], [], false, [], noIt⟩ [.cell 2 64, .tmp 3] rfl Try.func37 rfl rfl rfl (by kernel_rfl) (by show 1 ≤ 47; decide)).trans ?_
  simp +contextual (maxSteps := 10000000) only [↓reduceIte, go_sem, Nat.reduceEqDiff, Nat.reduceAdd, Nat.reduceSub, Nat.reduceMul, Nat.reduceLeDiff, Nat.reduceLT, Nat.reduceBEq, Nat.reduceDiv, Nat.reduceMod, Int.reduceLE, Int.reduceLT, Int.reduceEq, Int.reduceBEq, Int.reduceBNe, Int.reduceAdd, Int.reduceSub, Int.reduceNeg, Int.reduceToNat, Int.reduceMul, Int.reducePow, Nat.reducePow, reduceCtorEq]
  refine (run_scope 0 rfl rfl).trans ?_
  simp +contextual (maxSteps := 10000000) only [↓reduceIte, go_sem, Nat.reduceEqDiff, Nat.reduceAdd, Nat.reduceSub, Nat.reduceMul, Nat.reduceLeDiff, Nat.reduceLT, Nat.reduceBEq, Nat.reduceDiv, Nat.reduceMod, Int.reduceLE, Int.reduceLT, Int.reduceEq, Int.reduceBEq, Int.reduceBNe, Int.reduceAdd, Int.reduceSub, Int.reduceNeg, Int.reduceToNat, Int.reduceMul, Int.reducePow, Nat.reducePow, reduceCtorEq, e, forms_c]
  rw [lpK_go1]
  cases hq : ((gF1 l).2 || decide (2 < (l.length : Int)))
  all_goals
    simp +contextual (maxSteps := 10000000) only [↓reduceIte, go_sem, Nat.reduceEqDiff, Nat.reduceAdd, Nat.reduceSub, Nat.reduceMul, Nat.reduceLeDiff, Nat.reduceLT, Nat.reduceBEq, Nat.reduceDiv, Nat.reduceMod, Int.reduceLE, Int.reduceLT, Int.reduceEq, Int.reduceBEq, Int.reduceBNe, Int.reduceAdd, Int.reduceSub, Int.reduceNeg, Int.reduceToNat, Int.reduceMul, Int.reducePow, Nat.reducePow, reduceCtorEq, r1, hg, hd, hq, Bool.false_or, Bool.or_false]
    simp only [gFin, hq, getR', if_true, Bool.false_eq_true, if_false]
    rfl
set_option maxRecDepth 20000 in
set_option maxHeartbeats 8000000 in
theorem oget_2 (v : Val) (hs : v.sz ≤ 3999990) (hw : v.wf) (h : v.kind ≠ 1) (n1 : newS v 35 nm1 = none) (l : List Val) (hn : newS v 36 nm2 = some l) : EV 37 [v.d] [] = some (.ret (getR' (gFin ((⟨2, 0, 0, ⟨#[]⟩⟩, false)) l 0)), []) := by
  have e : (v.kind == 1) = false := by simpa using h
  have r1 := new_none v (by omega) hw 35 nm1 n1
  have r2 := new_some v (by omega) hw 36 nm2 l hn
  have hg := fun sp => getf0_c 2 l sp
  have hd := fun sp => done_c l sp 0
  refine (ev_body ⟨[1], [(0, [1, 2, 3, 12, 13, 14]), (1000000, [1, 2, 3])], [], false, [], noIt⟩ [.cell 2 64, .tmp 3] rfl Try.func37 rfl rfl rfl (by kernel_rfl) (by show 1 ≤ 47; decide)).trans ?_
  simp +contextual (maxSteps := 10000000) only [↓reduceIte, go_sem, Nat.reduceEqDiff, Nat.reduceAdd, Nat.reduceSub, Nat.reduceMul, Nat.reduceLeDiff, Nat.reduceLT, Nat.reduceBEq, Nat.reduceDiv, Nat.reduceMod, Int.reduceLE, Int.reduceLT, Int.reduceEq, Int.reduceBEq, Int.reduceBNe, Int.reduceAdd, Int.reduceSub, Int.reduceNeg, Int.reduceToNat, Int.reduceMul, Int.reducePow, Nat.reducePow, reduceCtorEq]
  refine (run_scope 0 rfl rfl).trans ?_
  simp +contextual (maxSteps := 10000000) only [↓reduceIte, go_sem, Nat.reduceEqDiff, Nat.reduceAdd, Nat.reduceSub, Nat.reduceMul, Nat.reduceLeDiff, Nat.reduceLT, Nat.reduceBEq, Nat.reduceDiv, Nat.reduceMod, Int.reduceLE, Int.reduceLT, Int.reduceEq, Int.reduceBEq, Int.reduceBNe, Int.reduceAdd, Int.reduceSub, Int.reduceNeg, Int.reduceToNat, Int.reduceMul, Int.reducePow, Nat.reducePow, reduceCtorEq, e, forms_c]
  rw [lpK_go1]
  simp +contextual (maxSteps := 10000000) only [↓reduceIte, go_sem, Nat.reduceEqDiff, Nat.reduceAdd, Nat.reduceSub, Nat.reduceMul, Nat.reduceLeDiff, Nat.reduceLT, Nat.reduceBEq, Nat.reduceDiv, Nat.reduceMod, Int.reduceLE, Int.reduceLT, Int.reduceEq, Int.reduceBEq, Int.reduceBNe, Int.reduceAdd, Int.reduceSub, Int.reduceNeg, Int.reduceToNat, Int.reduceMul, Int.reducePow, Nat.reducePow, reduceCtorEq, r1]
  rw [lpK_go1]
  cases hq : decide (0 < (l.length : Int))
  all_goals
    simp +contextual (maxSteps := 10000000) only [↓reduceIte, go_sem, Nat.reduceEqDiff, Nat.reduceAdd, Nat.reduceSub, Nat.reduceMul, Nat.reduceLeDiff, Nat.reduceLT, Nat.reduceBEq, Nat.reduceDiv, Nat.reduceMod, Int.reduceLE, Int.reduceLT, Int.reduceEq, Int.reduceBEq, Int.reduceBNe, Int.reduceAdd, Int.reduceSub, Int.reduceNeg, Int.reduceToNat, Int.reduceMul, Int.reducePow, Nat.reducePow, reduceCtorEq, r2, hg, hd, hq, Bool.false_or, Bool.or_false]
    simp only [gFin, hq, getR', Bool.false_or, if_true, Bool.false_eq_true, if_false]
    rfl
set_option maxRecDepth 20000 in
set_option maxHeartbeats 8000000 in
theorem oget_3 (v : Val) (hs : v.sz ≤ 3999990) (hw : v.wf) (h : v.kind ≠ 1) (n1 : newS v 35 nm1 = none) (n2 : newS v 36 nm2 = none) (l : List Val) (hn : newS v 37 nm3 = some l) : EV 37 [v.d] [] = some (.ret (getR' (gFin (gF3 l) l 1)), []) := by
  have e : (v.kind == 1) = false := by simpa using h
  have r1 := new_none v (by omega) hw 35 nm1 n1
  have r2 := new_none v (by omega) hw 36 nm2 n2
  have r3 := new_some v (by omega) hw 37 nm3 l hn
  have hg := fun sp => getf3_c l (by have := newS_sz hn; omega) (newS_wf hw hn) sp
  have hd := fun sp => done_c l sp 1
  refine (ev_body ⟨[1], [(0, [1, 2, 3, 12, 13, 14]), (1000000, [1, 2, 3])], [], false, [], noIt⟩ [.cell 2 64, .tmp 3] rfl Try.func37 rfl rfl rfl (by kernel_rfl) (by show 1 ≤ 47; decide)).trans ?_
  simp +contextual (maxSteps := 10000000) only [↓reduceIte, go_sem, Nat.reduceEqDiff, Nat.reduceAdd, Nat.reduceSub, Nat.reduceMul, Nat.reduceLeDiff, Nat.reduceLT, Nat.reduceBEq, Nat.reduceDiv, Nat.reduceMod, Int.reduceLE, Int.reduceLT, Int.reduceEq, Int.reduceBEq, Int.reduceBNe, Int.reduceAdd, Int.reduceSub, Int.reduceNeg, Int.reduceToNat, Int.reduceMul, Int.reducePow, Nat.reducePow, reduceCtorEq]
  refine (run_scope 0 rfl rfl).trans ?_
  simp +contextual (maxSteps := 10000000) only [↓reduceIte, go_sem, Nat.reduceEqDiff, Nat.reduceAdd, Nat.reduceSub, Nat.reduceMul, Nat.reduceLeDiff, Nat.reduceLT, Nat.reduceBEq, Nat.reduceDiv, Nat.reduceMod, Int.reduceLE, Int.reduceLT, Int.reduceEq, Int.reduceBEq, Int.reduceBNe, Int.reduceAdd, Int.reduceSub, Int.reduceNeg, Int.reduceToNat, Int.reduceMul, Int.reducePow, Nat.reducePow, reduceCtorEq, e, forms_c]
  rw [lpK_go1]
  simp +contextual (maxSteps := 10000000) only [↓reduceIte, go_sem, Nat.reduceEqDiff, Nat.reduceAdd, Nat.reduceSub, Nat.reduceMul, Nat.reduceLeDiff, Nat.reduceLT, Nat.reduceBEq, Nat.reduceDiv, Nat.reduceMod, Int.reduceLE, Int.reduceLT, Int.reduceEq, Int.reduceBEq, Int.reduceBNe, Int.reduceAdd, Int.reduceSub, Int.reduceNeg, Int.reduceToNat, Int.reduceMul, Int.reducePow, Nat.reducePow, reduceCtorEq, r1]
  rw [lpK_go1]
  simp +contextual (maxSteps := 10000000) only [↓reduceIte, go_sem, Nat.reduceEqDiff, Nat.reduceAdd, Nat.reduceSub, Nat.reduceMul, Nat.reduceLeDiff, Nat.reduceLT, Nat.reduceBEq, Nat.reduceDiv, Nat.reduceMod, Int.reduceLE, Int.reduceLT, Int.reduceEq, Int.reduceBEq, Int.reduceBNe, Int.reduceAdd, Int.reduceSub, Int.reduceNeg, Int.reduceToNat, Int.reduceMul, Int.reducePow, Nat.reducePow, reduceCtorEq, r2]
  rw [lpK_go1]
  cases hq : ((gF3 l).2 || decide (1 < (l.length : Int)))
  all_goals
    simp +contextual (maxSteps := 10000000) only [↓reduceIte, go_sem, Nat.reduceEqDiff, Nat.reduceAdd, Nat.reduceSub, Nat.reduceMul, Nat.reduceLeDiff, Nat.reduceLT, Nat.reduceBEq, Nat.reduceDiv, Nat.reduceMod, Int.reduceLE, Int.reduceLT, Int.reduceEq, Int.reduceBEq, Int.reduceBNe, Int.reduceAdd, Int.reduceSub, Int.reduceNeg, Int.reduceToNat, Int.reduceMul, Int.reducePow, Nat.reducePow, reduceCtorEq, r3, hg, hd, hq, Bool.false_or, Bool.or_false]
    simp only [gFin, hq, getR', if_true, Bool.false_eq_true, if_false]
    rfl
set_option maxRecDepth 20000 in
set_option maxHeartbeats 8000000 in
theorem oget_4 (v : Val) (hs : v.sz ≤ 3999990) (hw : v.wf) (h : v.kind ≠ 1) (n1 : newS v 35 nm1 = none) (n2 : newS v 36 nm2 = none) (n3 : newS v 37 nm3 = none) (l : List Val) (hn : newS v 38 nm4 = some l) : EV 37 [v.d] [] = some (.ret (getR' (gFin ((⟨4, 0, 0, ⟨#[]⟩⟩, false)) l 0)), []) := by
  have e : (v.kind == 1) = false := by simpa using h
  have r1 := new_none v (by omega) hw 35 nm1 n1
  have r2 := new_none v (by omega) hw 36 nm2 n2
  have r3 := new_none v (by omega) hw 37 nm3 n3
  have r4 := new_some v (by omega) hw 38 nm4 l hn
  have hg := fun sp => getf0_c 4 l sp
  have hd := fun sp => done_c l sp 0
  refine (ev_body ⟨[1], [(0, [1, 2, 3, 12, 13, 14]), (1000000, [1, 2, 3])], [], false, [], noIt⟩ [.cell 2 64, .tmp 3] rfl Try.func37 rfl rfl rfl (by kernel_rfl) (by show 1 ≤ 47; decide)).trans ?_
  simp +contextual (maxSteps := 10000000) only [↓reduceIte, go_sem, Nat.reduceEqDiff, Nat.reduceAdd, Nat.reduceSub, Nat.reduceMul, Nat.reduceLeDiff, Nat.reduceLT, Nat.reduceBEq, Nat.reduceDiv, Nat.reduceMod, Int.reduceLE, Int.reduceLT, Int.reduceEq, Int.reduceBEq, Int.reduceBNe, Int.reduceAdd, Int.reduceSub, Int.reduceNeg, Int.reduceToNat, Int.reduceMul, Int.reducePow, Nat.reducePow, reduceCtorEq]
  refine (run_scope 0 rfl rfl).trans ?_
  simp +contextual (maxSteps := 10000000) only [↓reduceIte, go_sem, Nat.reduceEqDiff, Nat.reduceAdd, Nat.reduceSub, Nat.reduceMul, Nat.reduceLeDiff, Nat.reduceLT, Nat.reduceBEq, Nat.reduceDiv, Nat.reduceMod, Int.reduceLE, Int.reduceLT, Int.reduceEq, Int.reduceBEq, Int.reduceBNe, Int.reduceAdd, Int.reduceSub, Int.reduceNeg, Int.reduceToNat, Int.reduceMul, Int.reducePow, Nat.reducePow, reduceCtorEq, e, forms_c]
  rw [lpK_go1]
  simp +contextual (maxSteps := 10000000) only [↓reduceIte, go_sem, Nat.reduceEqDiff, Nat.reduceAdd, Nat.reduceSub, Nat.reduceMul, Nat.reduceLeDiff, Nat.reduceLT, Nat.reduceBEq, Nat.reduceDiv, Nat.reduceMod, Int.reduceLE, Int.reduceLT, Int.reduceEq, Int.reduceBEq, Int.reduceBNe, Int.reduceAdd, Int.reduceSub, Int.reduceNeg, Int.reduceToNat, Int.reduceMul, Int.reducePow, Nat.reducePow, reduceCtorEq, r1]
  rw [lpK_go1]
  simp +contextual (maxSteps := 10000000) only [↓reduceIte, go_sem, Nat.reduceEqDiff, Nat.reduceAdd, Nat.reduceSub, Nat.reduceMul, Nat.reduceLeDiff, Nat.reduceLT, Nat.reduceBEq, Nat.reduceDiv, Nat.reduceMod, Int.reduceLE, Int.reduceLT, Int.reduceEq, Int.reduceBEq, Int.reduceBNe, Int.reduceAdd, Int.reduceSub, Int.reduceNeg, Int.reduceToNat, Int.reduceMul, Int.reducePow, Nat.reducePow, reduceCtorEq, r2]
  rw [lpK_go1]
  simp +contextual (maxSteps := 10000000) only [↓reduceIte, go_sem, Nat.reduceEqDiff, Nat.reduceAdd, Nat.reduceSub, Nat.reduceMul, Nat.reduceLeDiff, Nat.reduceLT, Nat.reduceBEq, Nat.reduceDiv, Nat.reduceMod, Int.reduceLE, Int.reduceLT, Int.reduceEq, Int.reduceBEq, Int.reduceBNe, Int.reduceAdd, Int.reduceSub, Int.reduceNeg, Int.reduceToNat, Int.reduceMul, Int.reducePow, Nat.reducePow, reduceCtorEq, r3]
  rw [lpK_go1]
  cases hq : decide (0 < (l.length : Int))
  all_goals
    simp +contextual (maxSteps := 10000000) only [↓reduceIte, go_sem, Nat.reduceEqDiff, Nat.reduceAdd, Nat.reduceSub, Nat.reduceMul, Nat.reduceLeDiff, Nat.reduceLT, Nat.reduceBEq, Nat.reduceDiv, Nat.reduceMod, Int.reduceLE, Int.reduceLT, Int.reduceEq, Int.reduceBEq, Int.reduceBNe, Int.reduceAdd, Int.reduceSub, Int.reduceNeg, Int.reduceToNat, Int.reduceMul, Int.reducePow, Nat.reducePow, reduceCtorEq, r4, hg, hd, hq, Bool.false_or, Bool.or_false]
    simp only [gFin, hq, getR', Bool.false_or, if_true, Bool.false_eq_true, if_false]
    rfl
set_option maxRecDepth 20000 in
set_option maxHeartbeats 8000000 in
theorem oget_5 (v : Val) (hs : v.sz ≤ 3999990) (hw : v.wf) (h : v.kind ≠ 1) (n1 : newS v 35 nm1 = none) (n2 : newS v 36 nm2 = none) (n3 : newS v 37 nm3 = none) (n4 : newS v 38 nm4 = none) (l : List Val) (hn : newS v 39 nm5 = some l) : EV 37 [v.d] [] = some (.ret (getR' (gFin (gF5 l) l 3)), []) := by
  have e : (v.kind == 1) = false := by simpa using h
  have r1 := new_none v (by omega) hw 35 nm1 n1
  have r2 := new_none v (by omega) hw 36 nm2 n2
  have r3 := new_none v (by omega) hw 37 nm3 n3
  have r4 := new_none v (by omega) hw 38 nm4 n4
  have r5 := new_some v (by omega) hw 39 nm5 l hn
  have hg := fun sp => getf5_c l (by have := newS_sz hn; omega) sp
  have hd := fun sp => done_c l sp 3
  refine (ev_body ⟨[1], [(0, [1, 2, 3, 12, 13, 14]), (1000000, [1, 2, 3])], [], false, [], noIt⟩ [.cell 2 64, .tmp 3] rfl Try.func37 rfl rfl rfl (by kernel_rfl) (by show 1 ≤ 47; decide)).trans ?_
  simp +contextual (maxSteps := 10000000) only [↓reduceIte, go_sem, Nat.reduceEqDiff, Nat.reduceAdd, Nat.reduceSub, Nat.reduceMul, Nat.reduceLeDiff, Nat.reduceLT, Nat.reduceBEq, Nat.reduceDiv, Nat.reduceMod, Int.reduceLE, Int.reduceLT, Int.reduceEq, Int.reduceBEq, Int.reduceBNe, Int.reduceAdd, Int.reduceSub, Int.reduceNeg, Int.reduceToNat, Int.reduceMul, Int.reducePow, Nat.reducePow, reduceCtorEq]
  refine (run_scope 0 rfl rfl).trans ?_
  simp +contextual (maxSteps := 10000000) only [↓reduceIte, go_sem, Nat.reduceEqDiff, Nat.reduceAdd, Nat.reduceSub, Nat.reduceMul, Nat.reduceLeDiff, Nat.reduceLT, Nat.reduceBEq, Nat.reduceDiv, Nat.reduceMod, Int.reduceLE, Int.reduceLT, Int.reduceEq, Int.reduceBEq, Int.reduceBNe, Int.reduceAdd, Int.reduceSub, Int.reduceNeg, Int.reduceToNat, Int.reduceMul, Int.reducePow, Nat.reducePow, reduceCtorEq, e, forms_c]
  rw [lpK_go1]
  simp +contextual (maxSteps := 10000000) only [↓reduceIte, go_sem, Nat.reduceEqDiff, Nat.reduceAdd, Nat.reduceSub, Nat.reduceMul, Nat.reduceLeDiff, Nat.reduceLT, Nat.reduceBEq, Nat.reduceDiv, Nat.reduceMod, Int.reduceLE, Int.reduceLT, Int.reduceEq, Int.reduceBEq, Int.reduceBNe, Int.reduceAdd, Int.reduceSub, Int.reduceNeg, Int.reduceToNat, Int.reduceMul, Int.reducePow, Nat.reducePow, reduceCtorEq, r1]
  rw [lpK_go1]
  simp +contextual (maxSteps := 10000000) only [↓reduceIte, go_sem, Nat.reduceEqDiff, Nat.reduceAdd, Nat.reduceSub, Nat.reduceMul, Nat.reduceLeDiff, Nat.reduceLT, Nat.reduceBEq, Nat.reduceDiv, Nat.reduceMod, Int.reduceLE, Int.reduceLT, Int.reduceEq, Int.reduceBEq, Int.reduceBNe, Int.reduceAdd, Int.reduceSub, Int.reduceNeg, Int.reduceToNat, Int.reduceMul, Int.reducePow, Nat.reducePow, reduceCtorEq, r2]
  rw [lpK_go1]
  simp +contextual (maxSteps := 10000000) only [↓reduceIte, go_sem, Nat.reduceEqDiff, Nat.reduceAdd, Nat.reduceSub, Nat.reduceMul, Nat.reduceLeDiff, Nat.reduceLT, Nat.reduceBEq, Nat.reduceDiv, Nat.reduceMod, Int.reduceLE, Int.reduceLT, Int.reduceEq, Int.reduceBEq, Int.reduceBNe, Int.reduceAdd, Int.reduceSub, Int.reduceNeg, Int.reduceToNat, Int.reduceMul, Int.reducePow, Nat.reducePow, reduceCtorEq, r3]
  rw [lpK_go1]
  simp +contextual (maxSteps := 10000000) only [↓reduceIte, go_sem, Nat.reduceEqDiff, Nat.reduceAdd, Nat.reduceSub, Nat.reduceMul, Nat.reduceLeDiff, Nat.reduceLT, Nat.reduceBEq, Nat.reduceDiv, Nat.reduceMod, Int.reduceLE, Int.reduceLT, Int.reduceEq, Int.reduceBEq, Int.reduceBNe, Int.reduceAdd, Int.reduceSub, Int.reduceNeg, Int.reduceToNat, Int.reduceMul, Int.reducePow, Nat.reducePow, reduceCtorEq, r4]
  rw [lpK_go1]
  cases hq : ((gF5 l).2 || decide (3 < (l.length : Int)))
  all_goals
    simp +contextual (maxSteps := 10000000) only [↓reduceIte, go_sem, Nat.reduceEqDiff, Nat.reduceAdd, Nat.reduceSub, Nat.reduceMul, Nat.reduceLeDiff, Nat.reduceLT, Nat.reduceBEq, Nat.reduceDiv, Nat.reduceMod, Int.reduceLE, Int.reduceLT, Int.reduceEq, Int.reduceBEq, Int.reduceBNe, Int.reduceAdd, Int.reduceSub, Int.reduceNeg, Int.reduceToNat, Int.reduceMul, Int.reducePow, Nat.reducePow, reduceCtorEq, r5, hg, hd, hq, Bool.false_or, Bool.or_false]
    simp only [gFin, hq, getR', if_true, Bool.false_eq_true, if_false]
    rfl
set_option maxRecDepth 20000 in
set_option maxHeartbeats 8000000 in
theorem oget_6 (v : Val) (hs : v.sz ≤ 3999990) (hw : v.wf) (h : v.kind ≠ 1) (n1 : newS v 35 nm1 = none) (n2 : newS v 36 nm2 = none) (n3 : newS v 37 nm3 = none) (n4 : newS v 38 nm4 = none) (n5 : newS v 39 nm5 = none) : EV 37 [v.d] [] = some (.ret (getR' none), []) := by
  have e : (v.kind == 1) = false := by simpa using h
  have r1 := new_none v (by omega) hw 35 nm1 n1
  have r2 := new_none v (by omega) hw 36 nm2 n2
  have r3 := new_none v (by omega) hw 37 nm3 n3
  have r4 := new_none v (by omega) hw 38 nm4 n4
  have r5 := new_none v (by omega) hw 39 nm5 n5
  refine (ev_body ⟨[1], [(0, [1, 2, 3, 12, 13, 14]), (1000000, [1, 2, 3])], [], false, [], noIt⟩ [.cell 2 64, .tmp 3] rfl Try.func37 rfl rfl rfl (by kernel_rfl) (by show 1 ≤ 47; decide)).trans ?_
  simp +contextual (maxSteps := 10000000) only [↓reduceIte, go_sem, Nat.reduceEqDiff, Nat.reduceAdd, Nat.reduceSub, Nat.reduceMul, Nat.reduceLeDiff, Nat.reduceLT, Nat.reduceBEq, Nat.reduceDiv, Nat.reduceMod, Int.reduceLE, Int.reduceLT, Int.reduceEq, Int.reduceBEq, Int.reduceBNe, Int.reduceAdd, Int.reduceSub, Int.reduceNeg, Int.reduceToNat, Int.reduceMul, Int.reducePow, Nat.reducePow, reduceCtorEq]
  refine (run_scope 0 rfl rfl).trans ?_
  simp +contextual (maxSteps := 10000000) only [↓reduceIte, go_sem, Nat.reduceEqDiff, Nat.reduceAdd, Nat.reduceSub, Nat.reduceMul, Nat.reduceLeDiff, Nat.reduceLT, Nat.reduceBEq, Nat.reduceDiv, Nat.reduceMod, Int.reduceLE, Int.reduceLT, Int.reduceEq, Int.reduceBEq, Int.reduceBNe, Int.reduceAdd, Int.reduceSub, Int.reduceNeg, Int.reduceToNat, Int.reduceMul, Int.reducePow, Nat.reducePow, reduceCtorEq, e, forms_c]
  rw [lpK_go1]
  simp +contextual (maxSteps := 10000000) only [↓reduceIte, go_sem, Nat.reduceEqDiff, Nat.reduceAdd, Nat.reduceSub, Nat.reduceMul, Nat.reduceLeDiff, Nat.reduceLT, Nat.reduceBEq, Nat.reduceDiv, Nat.reduceMod, Int.reduceLE, Int.reduceLT, Int.reduceEq, Int.reduceBEq, Int.reduceBNe, Int.reduceAdd, Int.reduceSub, Int.reduceNeg, Int.reduceToNat, Int.reduceMul, Int.reducePow, Nat.reducePow, reduceCtorEq, r1]
  rw [lpK_go1]
  simp +contextual (maxSteps := 10000000) only [↓reduceIte, go_sem, Nat.reduceEqDiff, Nat.reduceAdd, Nat.reduceSub, Nat.reduceMul, Nat.reduceLeDiff, Nat.reduceLT, Nat.reduceBEq, Nat.reduceDiv, Nat.reduceMod, Int.reduceLE, Int.reduceLT, Int.reduceEq, Int.reduceBEq, Int.reduceBNe, Int.reduceAdd, Int.reduceSub, Int.reduceNeg, Int.reduceToNat, Int.reduceMul, Int.reducePow, Nat.reducePow, reduceCtorEq, r2]
  rw [lpK_go1]
  simp +contextual (maxSteps := 10000000) only [↓reduceIte, go_sem, Nat.reduceEqDiff, Nat.reduceAdd, Nat.reduceSub, Nat.reduceMul, Nat.reduceLeDiff, Nat.reduceLT, Nat.reduceBEq, Nat.reduceDiv, Nat.reduceMod, Int.reduceLE, Int.reduceLT, Int.reduceEq, Int.reduceBEq, Int.reduceBNe, Int.reduceAdd, Int.reduceSub, Int.reduceNeg, Int.reduceToNat, Int.reduceMul, Int.reducePow, Nat.reducePow, reduceCtorEq, r3]
  rw [lpK_go1]
  simp +contextual (maxSteps := 10000000) only [↓reduceIte, go_sem, Nat.reduceEqDiff, Nat.reduceAdd, Nat.reduceSub, Nat.reduceMul, Nat.reduceLeDiff, Nat.reduceLT, Nat.reduceBEq, Nat.reduceDiv, Nat.reduceMod, Int.reduceLE, Int.reduceLT, Int.reduceEq, Int.reduceBEq, Int.reduceBNe, Int.reduceAdd, Int.reduceSub, Int.reduceNeg, Int.reduceToNat, Int.reduceMul, Int.reducePow, Nat.reducePow, reduceCtorEq, r4]
  rw [lpK_go1]
  simp +contextual (maxSteps := 10000000) only [↓reduceIte, go_sem, Nat.reduceEqDiff, Nat.reduceAdd, Nat.reduceSub, Nat.reduceMul, Nat.reduceLeDiff, Nat.reduceLT, Nat.reduceBEq, Nat.reduceDiv, Nat.reduceMod, Int.reduceLE, Int.reduceLT, Int.reduceEq, Int.reduceBEq, Int.reduceBNe, Int.reduceAdd, Int.reduceSub, Int.reduceNeg, Int.reduceToNat, Int.reduceMul, Int.reducePow, Nat.reducePow, reduceCtorEq, r5]
  rw [lpK_go1]
  simp +contextual (maxSteps := 10000000) only [↓reduceIte, go_sem, Nat.reduceEqDiff, Nat.reduceAdd, Nat.reduceSub, Nat.reduceMul, Nat.reduceLeDiff, Nat.reduceLT, Nat.reduceBEq, Nat.reduceDiv, Nat.reduceMod, Int.reduceLE, Int.reduceLT, Int.reduceEq, Int.reduceBEq, Int.reduceBNe, Int.reduceAdd, Int.reduceSub, Int.reduceNeg, Int.reduceToNat, Int.reduceMul, Int.reducePow, Nat.reducePow, reduceCtorEq]
  rfl
theorem oget_c (v : Val) (hs : v.sz ≤ 3999990) (hw : v.wf) : EV 37 [v.d] [] = some (.ret (getR' (getO v)), []) := by
  unfold getO
  by_cases h : v.kind = 1
  · rw [if_pos h]; exact oget_null v h
  · rw [if_neg h]
    cases n1 : newS v 35 nm1 with
    | some l => exact oget_1 v hs hw h l n1
    | none =>
      cases n2 : newS v 36 nm2 with
      | some l => exact oget_2 v hs hw h n1 l n2
      | none =>
        cases n3 : newS v 37 nm3 with
        | some l => exact oget_3 v hs hw h n1 n2 l n3
        | none =>
          cases n4 : newS v 38 nm4 with
          | some l => exact oget_4 v hs hw h n1 n2 n3 l n4
          | none =>
            cases n5 : newS v 39 nm5 with
            | some l => exact oget_5 v hs hw h n1 n2 n3 n4 l n5
            | none => exact oget_6 v hs hw h n1 n2 n3 n4 n5
end Go.Bw.R1

namespace Go.Bw.R1
set_option maxRecDepth 5000
open Go Go.Bw Go.Proofs
theorem mayS_put (code : Int) (l : List Val) : mayS (putS code l) = mayL (trimS l) := by
  simp only [putS, mayS, mayL]
  show (true && ((true && true && (true && true && true)) && ((true && mayL (trimS l) && (true && true && true)) && true)) && (true && true && true)) = mayL (trimS l)
  simp
theorem right_put {code : Int} {l : List Val} (h1 : mayL (trimS l) = true) (h2 : Val.depthL (trimS l) ≤ 14) (h3 : Val.itemsL (trimS l) ≤ 1021) : rightS (putS code l) = true := by
  have hd : (putS code l).depth = max 1 (Val.depthL (trimS l) + 1) + 1 := by
    simp only [putS, Val.depth, Val.depthL]; omega
  have hi : (putS code l).items = Val.itemsL (trimS l) + 3 := by
    simp only [putS, Val.items, Val.itemsL]; omega
  rw [rightS, hd, hi, mayS_put, h1]
  simp only [Bool.and_true, Bool.and_eq_true, decide_eq_true_eq]
  omega
theorem newS_putN {code : Int} {l : List Val} {name : ByteArray} (h : rightS (putS code l) = true) : newS (putS code l) code name = some (trimS l) := by
  unfold newS
  rw [if_pos ⟨h, rfl⟩]
  have e : calledS (Val.mk 6 code ⟨#[]⟩ []) code name = true := by simp [calledS, Val.kind_mk, Val.num_mk]
  simp only [putS, Val.kids_mk, Val.kind_mk, e, and_self, if_true]
theorem newS_putX {code c2 : Int} {l : List Val} {name : ByteArray} (h : c2 ≠ code) : newS (putS c2 l) code name = none := by
  unfold newS
  split
  · have e : calledS (Val.mk 6 c2 ⟨#[]⟩ []) code name = false := by simp [calledS, Val.kind_mk, Val.num_mk, h]
    simp only [putS, Val.kids_mk, Val.kind_mk, e, Bool.false_eq_true, and_false, if_false]
  · rfl
theorem trim_last {l : List Val} {x : Val} (h : x.kind ≠ 1) : trimS (l ++ [x]) = l ++ [x] := by
  unfold trimS
  rw [List.reverse_append]
  simp only [List.reverse_cons, List.reverse_nil, List.nil_append, List.cons_append]
  rw [List.dropWhile_cons, if_neg (by simpa using h)]
  simp
theorem trim_null (l : List Val) (x : Val) (h : x.kind = 1) : trimS (l ++ [x]) = trimS l := by
  unfold trimS
  rw [List.reverse_append]
  simp only [List.reverse_cons, List.reverse_nil, List.nil_append, List.cons_append]
  rw [List.dropWhile_cons, if_pos (by simpa using h)]
theorem trim_nil : trimS [] = [] := rfl
theorem sym_may {c : ByteArray} (h : asc (bl c) = true) : mayS (.mk 21 0 c []) = true := by
  simp only [mayS, mayL]
  show (true && true && (true && asc (bl c) && true)) = true
  rw [h]; rfl
theorem cond_right {c : ByteArray} (h : asc (bl c) = true) : rightS (putS 29 [.mk 21 0 c []]) = true := by
  have e : trimS [Val.mk 21 0 c []] = [.mk 21 0 c []] := trim_last (l := []) (by simp [Val.kind_mk])
  refine right_put ?_ ?_ ?_
  · rw [e]; simp only [mayL, sym_may h, Bool.and_true]
  · rw [e]; simp only [Val.depthL, Val.depth]; omega
  · rw [e]; simp only [Val.itemsL, Val.items]; omega
/-- a condition is told as it was -/
theorem gcS_condV {c : ByteArray} (h : asc (bl c) = true) : gcS (condV c) = some c := by
  unfold condV
  split
  · rename_i h0
    have : c = ⟨#[]⟩ := ByteArray.ext (Array.eq_empty_of_size_eq_zero h0)
    rw [this]; rfl
  · have e : trimS [Val.mk 21 0 c []] = [.mk 21 0 c []] := trim_last (l := []) (by simp [Val.kind_mk])
    unfold gcS
    rw [if_neg (by show ¬ (25 : Int) = 1; decide), newS_putN (cond_right h), e]
    rfl
theorem condV_null (c : ByteArray) : ((condV c).kind == 1) = decide (c.size = 0) := by
  unfold condV
  split
  · rename_i h; simp [h, Val.kind_mk]
  · rename_i h; simp [h, putS, Val.kind_mk]
theorem asc_nil : asc (bl ⟨#[]⟩) = true := rfl
theorem condV_may {c : ByteArray} (h : asc (bl c) = true) : mayS (condV c) = true := by
  unfold condV
  split
  · rfl
  · exact right_may (cond_right h)
theorem condV_depth (c : ByteArray) : (condV c).depth ≤ 3 ∧ (condV c).items ≤ 4 := by
  unfold condV
  have e : trimS [Val.mk 21 0 c []] = [.mk 21 0 c []] := trim_last (l := []) (by simp [Val.kind_mk])
  split
  · decide
  · simp only [putS, e, Val.depth, Val.depthL, Val.items, Val.itemsL]; omega
/-- the fields of an outcome, without what is null at the end -/
theorem out1 (a b : Int) (c : ByteArray) : trimS (outF ⟨1, a, b, c⟩) = [.mk 5 a ⟨#[]⟩ [], .mk 6 b ⟨#[]⟩ []] := trim_last (l := [.mk 5 a ⟨#[]⟩ []]) (by simp [Val.kind_mk])
theorem out3 (a b : Int) (c : ByteArray) : trimS (outF ⟨3, a, b, c⟩) = if c.size = 0 then [] else [condV c] := by
  show trimS ([] ++ [condV c]) = _
  split
  · rename_i h
    have hk : (condV c).kind = 1 := by have := condV_null c; rw [decide_eq_true h] at this; simpa using this
    rw [trim_null _ _ hk]; rfl
  · rename_i h
    have hk : (condV c).kind ≠ 1 := by have := condV_null c; rw [decide_eq_false h] at this; simpa using this
    rw [trim_last hk]; rfl
theorem num5_may {a : Int} (h : a ≤ 4294967295) : mayS (.mk 5 a ⟨#[]⟩ []) = true := by
  simp only [mayS, mayL]
  show (true && true && (decide (a < 4294967296) && true && true)) = true
  simp; omega
theorem num6_may (a : Int) : mayS (.mk 6 a ⟨#[]⟩ []) = true := by
  simp only [mayS, mayL]
  rfl
/-- what may be may be as a value, and is told as it was -/
theorem out_right {o : Outc} (h : mayO o = true) (h0 : 0 ≤ o.a ∧ 0 ≤ o.b) : rightS (outV o) = true ∧ getO (outV o) = some o := by
  obtain ⟨k, a, b, c⟩ := o
  have ha := may_asc h
  simp only at ha h0
  have hm := h
  simp only [mayO, Bool.and_eq_true, Bool.or_eq_true, decide_eq_true_eq, beq_iff_eq] at hm
  obtain ⟨⟨_, hc⟩, hm⟩ := hm
  have emp : c.size = 0 → c = ⟨#[]⟩ := fun h => ByteArray.ext (Array.eq_empty_of_size_eq_zero h)
  rcases may_kind h with hk | hk | hk | hk | hk | hk <;> simp only at hk <;> subst hk
  · simp only [Int.reduceEq, if_false, true_or, if_true, Bool.and_eq_true, beq_iff_eq, or_false] at hm hc
    obtain ⟨rfl, rfl⟩ := hm
    obtain rfl := emp hc
    exact ⟨by decide, rfl⟩
  · simp only [Int.reduceEq, if_true, decide_eq_true_eq, or_false] at hm hc
    obtain rfl := emp hc
    have hr : rightS (putS 35 (outF ⟨1, a, b, ⟨#[]⟩⟩)) = true := by
      refine right_put ?_ ?_ ?_
      · rw [out1]; simp only [mayL, num5_may hm, num6_may, Bool.and_true]
      · rw [out1]; simp only [Val.depthL, Val.depth]; omega
      · rw [out1]; simp only [Val.itemsL, Val.items]; omega
    have e : outV ⟨1, a, b, ⟨#[]⟩⟩ = putS 35 (outF ⟨1, a, b, ⟨#[]⟩⟩) := rfl
    refine ⟨by rw [e]; exact hr, ?_⟩
    rw [e]
    unfold getO
    rw [if_neg (by show ¬ (25 : Int) = 1; decide), newS_putN hr, out1]
    rfl
  · simp only [Int.reduceEq, if_false, true_or, or_true, if_true, Bool.and_eq_true, beq_iff_eq, or_false] at hm hc
    obtain ⟨rfl, rfl⟩ := hm
    obtain rfl := emp hc
    exact ⟨by decide, rfl⟩
  · simp only [Int.reduceEq, if_false, true_or, or_true, if_true, Bool.and_eq_true, beq_iff_eq] at hm
    obtain ⟨rfl, rfl⟩ := hm
    have hr : rightS (putS 37 (outF ⟨3, 0, 0, c⟩)) = true := by
      have hd := condV_depth c
      refine right_put ?_ ?_ ?_
      · rw [out3]; split
        · rfl
        · simp only [mayL, condV_may ha, Bool.and_true]
      · rw [out3]; split
        · simp [Val.depthL]
        · simp only [Val.depthL]; omega
      · rw [out3]; split
        · simp [Val.itemsL]
        · simp only [Val.itemsL]; omega
    have e : outV ⟨3, 0, 0, c⟩ = putS 37 (outF ⟨3, 0, 0, c⟩) := rfl
    refine ⟨by rw [e]; exact hr, ?_⟩
    rw [e]
    unfold getO
    rw [if_neg (by show ¬ (25 : Int) = 1; decide), newS_putX (by decide), newS_putX (by decide), newS_putN hr, out3]
    simp only
    split
    · rename_i h0; obtain rfl := emp h0; rfl
    · rename_i h0
      have hk : (condV c).kind ≠ 1 := by have := condV_null c; rw [decide_eq_false h0] at this; simpa using this
      have hat : atS [condV c] 0 = some (condV c) := by
        unfold atS; simp only [Int.reduceLT, if_false, Int.toNat_zero, List.getElem?_cons_zero, if_neg hk]
      have hv : valS [condV c] 0 [] = (condV c, false) := by unfold valS; rw [hat]; simp
      have hg : gF3 [condV c] = (⟨3, 0, 0, c⟩, false) := by unfold gF3; rw [hv]; simp only [gcS_condV ha]; rfl
      rw [hg]; rfl
  · simp only [Int.reduceEq, if_false, true_or, or_true, if_true, Bool.and_eq_true, beq_iff_eq, or_false] at hm hc
    obtain ⟨rfl, rfl⟩ := hm
    obtain rfl := emp hc
    exact ⟨by decide, rfl⟩
  · simp only [Int.reduceEq, if_false, or_self, if_true, Bool.and_eq_true, decide_eq_true_eq, or_false] at hm hc
    obtain rfl := emp hc
    have h1 : a = 0 ∨ a = 1 := by omega
    have h2 : b = 0 ∨ b = 1 := by omega
    rcases h1 with rfl | rfl <;> rcases h2 with rfl | rfl <;> exact ⟨by decide, rfl⟩
end Go.Bw.R1

namespace Go.Bw.R1
set_option maxRecDepth 5000
open Go Go.Bw Go.Proofs
theorem num_ok {l : List Val} {i k none : Int} {must : Bool} (h : (numS' l i k must none).2 = false) : ((numS' l i k must none).1 = none ∧ must = false) ∨ ∃ x ∈ l, x.kind = k ∧ (numS' l i k must none).1 = x.num := by
  unfold numS' at h ⊢
  split
  · rename_i hn; rw [hn] at h; exact .inl ⟨rfl, h⟩
  · rename_i x hx
    rw [hx] at h
    simp only at h ⊢
    split at h
    · rename_i hk; rw [if_pos hk]; exact .inr ⟨x, List.mem_of_getElem? (atS_len hx).2.2.1, hk, rfl⟩
    · cases h
theorem txt_ok {l : List Val} {i k : Int} {must : Bool} (h : (txtS l i k must).2 = false) (hm : must = true) : ∃ x ∈ l, x.kind = k ∧ (txtS l i k must).1 = x.text := by
  unfold txtS at h ⊢
  split
  · rename_i hn; rw [hn] at h; simp only at h; rw [hm] at h; cases h
  · rename_i x hx
    rw [hx] at h
    simp only at h ⊢
    split at h
    · rename_i hk; rw [if_pos hk]; exact ⟨x, List.mem_of_getElem? (atS_len hx).2.2.1, hk, rfl⟩
    · cases h
theorem may_num {l : List Val} {x : Val} (h : mayL l = true) (hx : x ∈ l) : mayS x = true := by
  rw [mayL_all, List.all_eq_true] at h; exact h x hx
theorem gcS_ok {v : Val} {s : ByteArray} (h : gcS v = some s) : asc (bl s) = true ∧ s.size ≤ v.sz := by
  unfold gcS at h
  split at h
  · simp only [Option.some.injEq] at h; subst h; exact ⟨rfl, Nat.zero_le _⟩
  · split at h
    · cases h
    · rename_i l hn
      unfold gcF at h
      split at h
      · cases h
      · rename_i hq
        simp only [Option.some.injEq] at h
        simp only [Bool.not_eq_true, Bool.or_eq_false_iff] at hq
        obtain ⟨x, hx, hk, ht⟩ := txt_ok hq.1.1.1 rfl
        obtain ⟨_, _, d, y, _, _, _, _, hm⟩ := newS_some hn
        have hmx := may_num hm hx
        rw [mayS_eq] at hmx
        simp only [Bool.and_eq_true] at hmx
        have ha := hmx.2.1.2
        rw [hk] at ha
        have h1 := szL_in hx
        have h2 := newS_sz hn
        have h3 := Val.sz_eq x
        rw [← h, ht]
        exact ⟨ha, by omega⟩
/-- what is got may be -/
theorem getO_may {v : Val} {p : Outc} (hw : v.wf) (h : getO v = some p) : mayO p = true ∧ (0 ≤ p.a ∧ 0 ≤ p.b) ∧ p.cond.size ≤ v.sz + 1 ∧ p.b < 18446744073709551616 := by
  have fin : ∀ {r : Outc × Bool} {l : List Val} {m : Int}, gFin r l m = some p → r.2 = false ∧ r.1 = p := fun {r l m} h => by
    unfold gFin at h
    split at h
    · cases h
    · rename_i hq
      simp only [Bool.not_eq_true, Bool.or_eq_false_iff] at hq
      simp only [Option.some.injEq] at h
      exact ⟨hq.1, h⟩
  have nn : ∀ {code : Int} {name : ByteArray} {l : List Val}, newS v code name = some l → ∀ x ∈ l, mayS x = true ∧ 0 ≤ x.num ∧ x.num < 18446744073709551616 := fun {code name l} hn x hx => by
    obtain ⟨_, _, d, y, _, _, _, _, hm⟩ := newS_some hn
    exact ⟨may_num hm hx, (wfL_mem (newS_wf hw hn) x hx).num, (wfL_mem (newS_wf hw hn) x hx).numU⟩
  have nk : ∀ {x : Val} {k : Int}, mayS x = true → x.kind = k → numS k x.num = true := fun {x k} hm hk => by
    rw [mayS_eq] at hm
    simp only [Bool.and_eq_true] at hm
    have := hm.2.1.1
    rwa [hk] at this
  unfold getO at h
  split at h
  · simp only [Option.some.injEq] at h; subst h; exact ⟨by decide, ⟨by decide, by decide⟩, Nat.zero_le _, by decide⟩
  split at h
  · rename_i l hn
    obtain ⟨hq, rfl⟩ := fin h
    simp only [gF1, Bool.or_eq_false_iff] at hq ⊢
    rcases num_ok hq.1 with ⟨_, hc⟩ | ⟨x, hx, hxk, hxn⟩
    · cases hc
    rcases num_ok hq.2 with ⟨_, hc⟩ | ⟨y, hy, hyk, hyn⟩
    · cases hc
    have h5 := nk (nn hn x hx).1 hxk
    have h5' : decide (x.num < 4294967296) = true := h5
    simp only [decide_eq_true_eq] at h5'
    rw [hxn, hyn]
    refine ⟨?_, ⟨(nn hn x hx).2.1, (nn hn y hy).2.1⟩, Nat.zero_le _, (nn hn y hy).2.2⟩
    show (true && (true || false) && decide (x.num ≤ 4294967295)) = true
    simp; omega
  split at h
  · obtain ⟨_, rfl⟩ := fin h
    exact ⟨by decide, ⟨by decide, by decide⟩, Nat.zero_le _, by decide⟩
  split at h
  · rename_i l hn
    obtain ⟨hq, rfl⟩ := fin h
    simp only [gF3, Bool.or_eq_false_iff] at hq ⊢
    cases hg : gcS (valS l 0 []).1 with
    | none => rw [hg] at hq; cases hq.2
    | some s =>
      obtain ⟨ha, hz⟩ := gcS_ok hg
      have h1 := valS_sz l 0 []
      have h2 := newS_sz hn
      refine ⟨?_, ⟨by decide, by decide⟩, by simp only [Option.getD]; omega, by decide⟩
      show (asc (bl s) && (decide (s.size = 0) || true) && (true && true)) = true
      rw [ha]; simp
  split at h
  · obtain ⟨_, rfl⟩ := fin h
    exact ⟨by decide, ⟨by decide, by decide⟩, Nat.zero_le _, by decide⟩
  split at h
  · rename_i l hn
    obtain ⟨hq, rfl⟩ := fin h
    simp only [gF5, Bool.or_eq_false_iff] at hq ⊢
    have key : ∀ i, (numS' l i 2 false 0).2 = false → 0 ≤ (numS' l i 2 false 0).1 ∧ (numS' l i 2 false 0).1 ≤ 1 := fun i hi => by
      rcases num_ok hi with ⟨e, _⟩ | ⟨x, hx, hxk, hxn⟩
      · rw [e]; decide
      · have h5 : decide (x.num ≤ 1) = true := nk (nn hn x hx).1 hxk
        have := (nn hn x hx).2.1
        simp only [decide_eq_true_eq] at h5
        rw [hxn]; exact ⟨this, h5⟩
    have k0 := key 0 hq.1.1
    have k1 := key 1 hq.1.2
    refine ⟨?_, ⟨k0.1, k1.1⟩, Nat.zero_le _, by have := k1.2; omega⟩
    show (true && (true || false) && (decide ((numS' l 0 2 false 0).1 ≤ 1) && decide ((numS' l 1 2 false 0).1 ≤ 1))) = true
    simp [k0.2, k1.2]
  · cases h
def cNF : ByteArray := ⟨#[97, 109, 113, 112, 58, 110, 111, 116, 45, 102, 111, 117, 110, 100]⟩
abbrev oNF : Outc := ⟨3, 0, 0, cNF⟩
theorem mayNF : mayO oNF = true := by decide
theorem trimNF : outV oNF = .mk 25 0 ⟨#[]⟩ [.mk 6 37 ⟨#[]⟩ [], .mk 22 0 ⟨#[]⟩ [condV cNF]] := rfl
set_option maxHeartbeats 2000000 in
theorem works8 : EV 34 [] [] = some (.ret (B true), []) := by
  have h1 := oput_c oNF (by decide)
  unfold putO at h1
  rw [if_pos mayNF] at h1
  have wf : (outV oNF).wf := by
    rw [trimNF]
    exact ⟨by decide, ⟨by decide, trivial⟩, ⟨by decide, ⟨by decide, ⟨by decide, trivial⟩, ⟨by decide, ⟨by decide, trivial⟩, trivial⟩, trivial⟩, trivial⟩, trivial⟩
  have h2 := oget_c (outV oNF) (by rw [trimNF]; decide) wf
  rw [(out_right mayNF (by decide)).2] at h2
  have h3 : EV 37 [(Val.mk 5 1 ⟨#[]⟩ []).d] [] = some (.ret (getR' none), []) := oget_c (.mk 5 1 ⟨#[]⟩ []) (by decide) (by exact ⟨by decide, trivial⟩)
  rw [trimNF] at h1 h2
  generalize hcv : condV cNF = w at h1 h2
  simp only [Outc.d, Outc.cs, cNF, getR', oc0] at h1 h2 h3
  refine (ev_body ⟨[], [], [], false, [], noIt⟩ [.tmp 0] rfl Try.func34 rfl rfl rfl (by kernel_rfl) (by show 0 ≤ 58; decide)).trans ?_
  simp +contextual (maxSteps := 10000000) only [↓reduceIte, go_sem, Nat.reduceEqDiff, Nat.reduceAdd, Nat.reduceSub, Nat.reduceMul, Nat.reduceLeDiff, Nat.reduceLT, Nat.reduceBEq, Nat.reduceDiv, Nat.reduceMod, Int.reduceLE, Int.reduceLT, Int.reduceEq, Int.reduceBEq, Int.reduceBNe, Int.reduceAdd, Int.reduceSub, Int.reduceNeg, Int.reduceToNat, Int.reduceMul, Int.reducePow, Nat.reducePow, reduceCtorEq, h1, h2, h3, number_c, cNF, beq_self_eq_true, Bool.and_self, List.map_cons, List.map_nil, List.length_cons, List.length_nil]
  all_goals rfl
end Go.Bw.R1

namespace Go.Bw.R1
set_option maxRecDepth 5000
open Go Go.Bw Go.Proofs
theorem outc_rdW {cs : List D} (h : Rd Try.prog 64 cs) : ∃ x : Outc, x.ok ∧ WkL cs x.cs ∧ x.cond.size ≤ D.blkL cs := by
  have h := Rd.fields Try.underlying64 h
  obtain ⟨a0, b0, rfl, h0, h⟩ := h
  obtain ⟨a1, b1, rfl, h1, h⟩ := h
  obtain ⟨a2, b2, rfl, h2, h⟩ := h
  obtain ⟨a3, b3, rfl, h3, h⟩ := h
  have h : _ = _ := h
  subst h
  obtain ⟨x0, rfl, k0⟩ := h0.int_inv Try.underlying5
  obtain ⟨x1, rfl, k1⟩ := h1.int_inv Try.underlying22
  obtain ⟨x2, rfl, k2⟩ := h2.int_inv Try.underlying22
  obtain ⟨x3, rfl, k3⟩ := h3.str_inv Try.underlying9
  refine ⟨⟨x0, x1, x2, x3⟩, ⟨k0, k1, k2, k3⟩, .refl _, ?_⟩
  simp only [D.blkL_append, D.blkL, D.blk]; omega
theorem outc_arg {d : D} (h : Arg Try.prog 64 d) : ∃ o : Outc, o.ok ∧ Wk d o.d ∧ o.cond.size ≤ d.blk := Arg.aggW (fun o : Outc => o.cond.size) (by kernel_rfl) Outc.ok Outc.cs (fun ds hd => by
  obtain ⟨x, h1, h2, h3⟩ := outc_rdW hd
  exact ⟨x, h1, h2, by omega⟩) h
end Go.Bw.R1

namespace Go.Bw.R1
set_option maxRecDepth 5000
open Go Go.Bw Go.Proofs
theorem beq_txt (a b : ByteArray) : (a == b) = decide (a = b) := by
  cases a with
  | mk x =>
    cases b with
    | mk y =>
      show (x == y) = _
      rw [Bool.eq_iff_iff]; simp
theorem txt_at {s : ByteArray} {i : Nat} {x : Int} (h : (bl s)[i]? = some x) : ∃ w : UInt8, s[i]? = some w ∧ (w.toNat : Int) = x := by
  unfold bl at h
  rw [List.getElem?_map, Option.map_eq_some_iff] at h
  obtain ⟨w, h1, h2⟩ := h
  rw [Array.getElem?_toList] at h1
  have hl : i < s.size := (Array.getElem?_eq_some_iff.1 h1).1
  refine ⟨w, ?_, h2⟩
  rw [getElem?_pos s i hl]
  rw [getElem?_pos s.data i hl] at h1
  exact h1
theorem outV_sz (o : Outc) : (outV o).sz ≤ o.cond.size + 30 := by
  unfold outV
  split
  · exact Nat.le_trans (by decide : vN.sz ≤ 30) (by omega)
  · have := putS_sz (34 + o.kind) (outF o); have := outF_sz o; omega
set_option maxHeartbeats 2000000 in
theorem oputs_law (o : Outc) : EV 8 [o.d] [] = some (.ret (B true), []) := by
  refine (ev_body ⟨[1], [], [], false, [], noIt⟩ [.tmp 2] rfl Try.func8 rfl rfl rfl (by kernel_rfl) (by show 1 ≤ 33; decide)).trans ?_
  cases hb : decide (4096 < (o.cond.size : Int))
  · have hs : o.cond.size ≤ 4096 := by have := of_decide_eq_false hb; omega
    have h1 := oput_c o (by omega)
    have h2 := roput_c o (by omega)
    have h3 := same32 _ (outV o) (outV o) (Nat.le_refl _) (by have := outV_sz o; omega)
    rw [same_refl] at h3
    have h4 := same32 _ vZ vZ (Nat.le_refl _) (by decide)
    rw [same_refl] at h4
    simp only [Outc.d, Outc.cs] at h1 h2
    unfold putO at h1 h2
    cases hm : mayO o
    · rw [hm] at h1 h2
      simp only [Bool.false_eq_true, if_false] at h1 h2
      simp +contextual (maxSteps := 10000000) only [↓reduceIte, go_sem, Nat.reduceEqDiff, Nat.reduceAdd, Nat.reduceSub, Nat.reduceMul, Nat.reduceLeDiff, Nat.reduceLT, Nat.reduceBEq, Nat.reduceDiv, Nat.reduceMod, Int.reduceLE, Int.reduceLT, Int.reduceEq, Int.reduceBEq, Int.reduceBNe, Int.reduceAdd, Int.reduceSub, Int.reduceNeg, Int.reduceToNat, Int.reduceMul, Int.reducePow, Nat.reducePow, reduceCtorEq, hb, h1, h2, h4, works8, beq_self_eq_true, Bool.and_self]
    · rw [hm] at h1 h2
      simp only [if_true] at h1 h2
      simp +contextual (maxSteps := 10000000) only [↓reduceIte, go_sem, Nat.reduceEqDiff, Nat.reduceAdd, Nat.reduceSub, Nat.reduceMul, Nat.reduceLeDiff, Nat.reduceLT, Nat.reduceBEq, Nat.reduceDiv, Nat.reduceMod, Int.reduceLE, Int.reduceLT, Int.reduceEq, Int.reduceBEq, Int.reduceBNe, Int.reduceAdd, Int.reduceSub, Int.reduceNeg, Int.reduceToNat, Int.reduceMul, Int.reducePow, Nat.reducePow, reduceCtorEq, hb, h1, h2, h3, works8, beq_self_eq_true, Bool.and_self]
  · simp +contextual (maxSteps := 10000000) only [↓reduceIte, go_sem, Nat.reduceEqDiff, Nat.reduceAdd, Nat.reduceSub, Nat.reduceMul, Nat.reduceLeDiff, Nat.reduceLT, Nat.reduceBEq, Nat.reduceDiv, Nat.reduceMod, Int.reduceLE, Int.reduceLT, Int.reduceEq, Int.reduceBEq, Int.reduceBNe, Int.reduceAdd, Int.reduceSub, Int.reduceNeg, Int.reduceToNat, Int.reduceMul, Int.reducePow, Nat.reducePow, reduceCtorEq, hb, works8]
def omF (o : Outc) (l : List Int) : Bool := decide (o.kind ≤ 5) && l.all fun x => decide (x < 128) && o.kind == 3
theorem omF_fine (o : Outc) (h : 0 ≤ o.kind ∧ 0 ≤ o.a ∧ 0 ≤ o.b) : mayO o = (omF o (bl o.cond) && (if o.kind = 1 then decide (o.a < 4294967296) else if o.kind = 5 then decide (o.a < 2) && decide (o.b < 2) else o.a == 0 && o.b == 0)) := by
  obtain ⟨k, a, b, c⟩ := o
  simp only at h
  obtain ⟨h0, ha0, hb0⟩ := h
  have hal : (bl c).all (fun x => decide (x < 128) && k == 3) = (asc (bl c) && (decide (c.size = 0) || k == 3)) := by
    have hl := bl_len c
    cases hc : bl c with
    | nil => rw [hc] at hl; simp only [List.length_nil] at hl; simp [asc, ← hl]
    | cons x r =>
      rw [hc] at hl
      simp only [List.length_cons] at hl
      have h0 : decide (c.size = 0) = false := decide_eq_false (by omega)
      rw [h0, Bool.false_or]
      cases hk : k == 3
      · simp
      · simp [asc]
  unfold omF mayO
  simp only [hal]
  by_cases h1 : k = 1
  · subst h1; simp only [if_true, Int.reduceLE, decide_true, Bool.true_and, show decide (a < 4294967296) = decide (a ≤ 4294967295) from decide_eq_decide.2 (by omega)]
  by_cases h5 : k = 5
  · subst h5; simp only [if_true, Int.reduceLE, Int.reduceEq, if_false, decide_true, Bool.true_and, show decide (a < 2) = decide (a ≤ 1) from decide_eq_decide.2 (by omega), show decide (b < 2) = decide (b ≤ 1) from decide_eq_decide.2 (by omega)]
  rw [if_neg h1, if_neg h5, if_neg h1, if_neg h5]
  by_cases hk : k ≤ 5
  · rw [if_pos (by omega)]; simp [hk]
  · rw [if_neg (by omega)]; simp [hk]
set_option maxHeartbeats 4000000 in
theorem omay_law (o : Outc) (h : 0 ≤ o.kind ∧ 0 ≤ o.a ∧ 0 ≤ o.b) : EV 10 [o.d] [] = some (.ret (B true), []) := by
  have hl := bl_len o.cond
  refine (ev_body ⟨[1], [(0, [1, 3, 4])], [], false, [], noIt⟩ [.tmp 2] rfl Try.func10 rfl rfl rfl (by kernel_rfl) (by show 1 ≤ 81; decide)).trans ?_
  cases hb : decide (4096 < (o.cond.size : Int))
  · have hs : o.cond.size ≤ 4096 := by have := of_decide_eq_false hb; omega
    have h1 := oput_c o (by omega)
    simp only [Outc.d, Outc.cs] at h1
    simp +contextual (maxSteps := 10000000) only [↓reduceIte, go_sem, Nat.reduceEqDiff, Nat.reduceAdd, Nat.reduceSub, Nat.reduceMul, Nat.reduceLeDiff, Nat.reduceLT, Nat.reduceBEq, Nat.reduceDiv, Nat.reduceMod, Int.reduceLE, Int.reduceLT, Int.reduceEq, Int.reduceBEq, Int.reduceBNe, Int.reduceAdd, Int.reduceSub, Int.reduceNeg, Int.reduceToNat, Int.reduceMul, Int.reducePow, Nat.reducePow, reduceCtorEq, hb]
    refine lpK_inv (fun m0 f es => ∃ (i : Nat) (j : Int) (b : Bool), j = i ∧ i + m0 = o.cond.size ∧ b = omF o ((bl o.cond).take i) ∧ f = [(1, .rp o.cs), (3, B b), (4, I j)] ∧ es = []) o.cond.size ⟨0, _, _, rfl, by omega, (by simp [omF]), rfl, rfl⟩ ?_
    rintro m0 _ _ ⟨i, j, b, hj, hi, hbb, rfl, rfl⟩ ih
    rcases Nat.lt_or_ge i o.cond.size with hlt | hge
    · obtain ⟨x, hx⟩ := get_lt (l := bl o.cond) (i := i) (by omega)
      have hlt' : decide (j < o.cond.size) = true := by simp <;> omega
      have hs := take_snoc hx
      have hst : omF o ((bl o.cond).take (i + 1)) = (omF o ((bl o.cond).take i) && (decide (x < 128) && o.kind == 3)) := by
        rw [hs]; simp [omF, Bool.and_assoc]
      cases b
      · simp +contextual (maxSteps := 10000000) only [↓reduceIte, go_sem, Nat.reduceEqDiff, Nat.reduceAdd, Nat.reduceSub, Nat.reduceMul, Nat.reduceLeDiff, Nat.reduceLT, Nat.reduceBEq, Nat.reduceDiv, Nat.reduceMod, Int.reduceLE, Int.reduceLT, Int.reduceEq, Int.reduceBEq, Int.reduceBNe, Int.reduceAdd, Int.reduceSub, Int.reduceNeg, Int.reduceToNat, Int.reduceMul, Int.reducePow, Nat.reducePow, reduceCtorEq, hlt', show 0 ≤ j by omega, show j < o.cond.size by omega, wrap_i64 (n := j + 1) (by omega) (by omega)]
        exact ih (m0 - 1) _ _ (by omega) ⟨i + 1, j + 1, _, by omega, by omega, by rw [hst, ← hbb]; rfl, rfl, rfl⟩
      · obtain ⟨w, hw1, hw2⟩ := txt_at hx
        have g1 : o.cond[j.toNat]? = some w := by rw [show j.toNat = i by omega]; exact hw1
        cases h1 : decide (x < 128) <;> cases h2 : o.kind == 3
        all_goals
          simp +contextual (maxSteps := 10000000) only [↓reduceIte, go_sem, Nat.reduceEqDiff, Nat.reduceAdd, Nat.reduceSub, Nat.reduceMul, Nat.reduceLeDiff, Nat.reduceLT, Nat.reduceBEq, Nat.reduceDiv, Nat.reduceMod, Int.reduceLE, Int.reduceLT, Int.reduceEq, Int.reduceBEq, Int.reduceBNe, Int.reduceAdd, Int.reduceSub, Int.reduceNeg, Int.reduceToNat, Int.reduceMul, Int.reducePow, Nat.reducePow, reduceCtorEq, hlt', g1, hw2, h1, h2, show 0 ≤ j by omega, show j < o.cond.size by omega, wrap_i64 (n := j + 1) (by omega) (by omega)]
          exact ih (m0 - 1) _ _ (by omega) ⟨i + 1, j + 1, _, by omega, by omega, by rw [hst, ← hbb, h1, h2]; rfl, rfl, rfl⟩
    · have hlt' : decide (j < o.cond.size) = false := by simp <;> omega
      rw [List.take_of_length_le (by omega)] at hbb
      have hf := omF_fine o h
      rw [← hbb] at hf
      unfold putO at h1
      by_cases k1 : o.kind = 1
      · have e : (o.kind == 1) = true := by simpa using k1
        rw [if_pos k1] at hf
        cases b <;> cases q : decide (o.a < 4294967296) <;> rw [q] at hf <;> simp only [hf, Bool.false_and, Bool.true_and, Bool.false_eq_true, if_true, if_false] at h1
        all_goals simp +contextual (maxSteps := 10000000) only [↓reduceIte, go_sem, Nat.reduceEqDiff, Nat.reduceAdd, Nat.reduceSub, Nat.reduceMul, Nat.reduceLeDiff, Nat.reduceLT, Nat.reduceBEq, Nat.reduceDiv, Nat.reduceMod, Int.reduceLE, Int.reduceLT, Int.reduceEq, Int.reduceBEq, Int.reduceBNe, Int.reduceAdd, Int.reduceSub, Int.reduceNeg, Int.reduceToNat, Int.reduceMul, Int.reducePow, Nat.reducePow, reduceCtorEq, hlt', e, q, h1, works8, beq_self_eq_true]
      · have e1 : (o.kind == 1) = false := by simpa using k1
        rw [if_neg k1] at hf
        by_cases k5 : o.kind = 5
        · have e : (o.kind == 5) = true := by simpa using k5
          rw [if_pos k5] at hf
          cases b <;> cases q : decide (o.a < 2) <;> cases q2 : decide (o.b < 2) <;> rw [q, q2] at hf <;> simp only [hf, Bool.false_and, Bool.true_and, Bool.and_self, Bool.false_eq_true, if_true, if_false] at h1
          all_goals simp +contextual (maxSteps := 10000000) only [↓reduceIte, go_sem, Nat.reduceEqDiff, Nat.reduceAdd, Nat.reduceSub, Nat.reduceMul, Nat.reduceLeDiff, Nat.reduceLT, Nat.reduceBEq, Nat.reduceDiv, Nat.reduceMod, Int.reduceLE, Int.reduceLT, Int.reduceEq, Int.reduceBEq, Int.reduceBNe, Int.reduceAdd, Int.reduceSub, Int.reduceNeg, Int.reduceToNat, Int.reduceMul, Int.reducePow, Nat.reducePow, reduceCtorEq, hlt', e1, e, q, q2, h1, works8, beq_self_eq_true]
        · have e : (o.kind == 5) = false := by simpa using k5
          rw [if_neg k5] at hf
          cases b <;> cases q : (o.a == 0) <;> cases q2 : (o.b == 0) <;> rw [q, q2] at hf <;> simp only [hf, Bool.false_and, Bool.true_and, Bool.and_self, Bool.false_eq_true, if_true, if_false] at h1
          all_goals simp +contextual (maxSteps := 10000000) only [↓reduceIte, go_sem, Nat.reduceEqDiff, Nat.reduceAdd, Nat.reduceSub, Nat.reduceMul, Nat.reduceLeDiff, Nat.reduceLT, Nat.reduceBEq, Nat.reduceDiv, Nat.reduceMod, Int.reduceLE, Int.reduceLT, Int.reduceEq, Int.reduceBEq, Int.reduceBNe, Int.reduceAdd, Int.reduceSub, Int.reduceNeg, Int.reduceToNat, Int.reduceMul, Int.reducePow, Nat.reducePow, reduceCtorEq, hlt', e1, e, q, q2, h1, works8, beq_self_eq_true]
  · simp +contextual (maxSteps := 10000000) only [↓reduceIte, go_sem, Nat.reduceEqDiff, Nat.reduceAdd, Nat.reduceSub, Nat.reduceMul, Nat.reduceLeDiff, Nat.reduceLT, Nat.reduceBEq, Nat.reduceDiv, Nat.reduceMod, Int.reduceLE, Int.reduceLT, Int.reduceEq, Int.reduceBEq, Int.reduceBNe, Int.reduceAdd, Int.reduceSub, Int.reduceNeg, Int.reduceToNat, Int.reduceMul, Int.reducePow, Nat.reducePow, reduceCtorEq, hb, works8]
end Go.Bw.R1
