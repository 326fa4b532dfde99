/- What the functions answer. -/
import Derived.Test.YtpeapoekjfonpaaWalk1
set_option linter.unusedSimpArgs false
set_option linter.unusedVariables false
namespace Go.Bw.R1
set_option maxRecDepth 5000
open Go Go.Bw Go.Proofs
theorem called_c (v : Val) : EV 116 [v.d] [] = some (.ret (B (v.kind == 6 || v.kind == 21)), []) := by
  refine (ev_body ⟨[1], [], [], false, [], noIt⟩ [.tmp 2] rfl Try.func116 rfl rfl rfl (by kernel_rfl) (by show 1 ≤ 11; decide)).trans ?_
  cases h : (v.kind == 6)
  · simp +contextual (maxSteps := 10000000) only [↓reduceIte, go_sem, Nat.reduceEqDiff, Nat.reduceAdd, Nat.reduceSub, Nat.reduceMul, Nat.reduceLeDiff, Nat.reduceLT, Nat.reduceBEq, Nat.reduceDiv, Nat.reduceMod, Int.reduceLE, Int.reduceLT, Int.reduceEq, Int.reduceBEq, Int.reduceBNe, Int.reduceAdd, Int.reduceSub, Int.reduceNeg, Int.reduceToNat, Int.reduceMul, Int.reducePow, Nat.reducePow, reduceCtorEq, h, Bool.false_or]
  · simp +contextual (maxSteps := 10000000) only [↓reduceIte, go_sem, Nat.reduceEqDiff, Nat.reduceAdd, Nat.reduceSub, Nat.reduceMul, Nat.reduceLeDiff, Nat.reduceLT, Nat.reduceBEq, Nat.reduceDiv, Nat.reduceMod, Int.reduceLE, Int.reduceLT, Int.reduceEq, Int.reduceBEq, Int.reduceBNe, Int.reduceAdd, Int.reduceSub, Int.reduceNeg, Int.reduceToNat, Int.reduceMul, Int.reducePow, Nat.reducePow, reduceCtorEq, h, Bool.true_or]
mutual
theorem same_comm : ∀ a b : Val, same a b = same b a
  | .mk k n t l, .mk k' n' t' l' => by
    rw [same, same, sameL_comm l l', Bool.beq_comm (a := k), Bool.beq_comm (a := n), show decide (t = t') = decide (t' = t) from decide_eq_decide.2 eq_comm]
theorem sameL_comm : ∀ a b : List Val, sameL a b = sameL b a
  | [], [] => rfl
  | [], _ :: _ => rfl
  | _ :: _, [] => rfl
  | a :: l, b :: m => by rw [sameL, sameL, same_comm a b, sameL_comm l m]
end
mutual
theorem same_refl : ∀ a : Val, same a a = true
  | .mk k n t l => by rw [same, sameL_refl l]; simp
theorem sameL_refl : ∀ a : List Val, sameL a a = true
  | [] => rfl
  | a :: l => by rw [sameL, same_refl a, sameL_refl l]; rfl
end
theorem alikeF_refl : ∀ (n : Nat) (a : Val), a.sz ≤ n → mayS a = true → alikeF n a a = true
  | 0, .mk .., h, _ => by simp [Val.sz] at h
  | n + 1, a, hn, hm => by
    by_cases hk : a.kind = 25
    · obtain ⟨x, y, hx, _, my⟩ := may_desc hm hk
      rw [Val.sz_eq, hx] at hn
      simp only [Val.szL] at hn
      simp only [alikeF, hk, bne_self_eq_false, Bool.or_self, Bool.false_eq_true, if_false, hx, same_refl, alikeF_refl n y (by omega) my, Bool.and_self]
    · have e : (a.kind != 25) = true := by simpa using hk
      simp only [alikeF, e, Bool.true_or, if_true, beq_self_eq_true]
theorem alike_refl {a : Val} (h : mayS a = true) : alike a a = true := alikeF_refl _ a (Nat.le_refl _) h
theorem mayL_drop {l : List Val} {i : Nat} {x : Val} (h : l[i]? = some x) : mayL (l.drop i) = (mayS x && mayL (l.drop (i + 1))) := by
  obtain ⟨hl, rfl⟩ := List.getElem?_eq_some_iff.1 h
  rw [List.drop_eq_getElem_cons hl, mayL]
theorem mayL_at {l : List Val} (h : mayL l = true) {i : Nat} {x : Val} (hx : l[i]? = some x) : mayS x = true := by
  rw [mayL_all, List.all_eq_true] at h
  exact h x (List.mem_of_getElem? hx)
theorem mod21 (n : Nat) : (((n : Int).tmod 2) == 1) = (n % 2 == 1) := by
  rw [Int.tmod_eq_emod_of_nonneg (by omega), Bool.eq_iff_iff]
  simp only [beq_iff_eq]
  omega
theorem keyL_at : ∀ (l : List Val) (a : Nat), 2 * a + 1 < l.length → (keyL l)[a]? = l[2 * a]?
  | x :: y :: r, 0, _ => rfl
  | x :: y :: r, a + 1, h => by
    have := keyL_at r a (by simp only [List.length_cons] at h; omega)
    rw [keyL, List.getElem?_cons_succ, this, show 2 * (a + 1) = 2 * a + 1 + 1 by omega, List.getElem?_cons_succ, List.getElem?_cons_succ]
  | [], a, h => by simp at h
  | [_], a, h => by simp at h
theorem keyL_len : ∀ l : List Val, 2 * (keyL l).length ≤ l.length ∧ l.length ≤ 2 * (keyL l).length + 1
  | [] => by simp [keyL]
  | [_] => by simp [keyL]
  | _ :: _ :: r => by have := keyL_len r; simp only [keyL, List.length_cons]; omega
theorem noSame_step {ks : List Val} {a : Nat} {x : Val} (h : ks[a]? = some x) : noSame (ks.take a) (ks.drop a) = if ((ks.take a).any fun s => same s x) = true then false else noSame (ks.take (a + 1)) (ks.drop (a + 1)) := by
  obtain ⟨hl, rfl⟩ := List.getElem?_eq_some_iff.1 h
  rw [List.drop_eq_getElem_cons hl, noSame, List.take_succ_eq_append_getElem hl]
theorem any_step {ks : List Val} {a b : Nat} {x y : Val} (hb : b < a) (h : ks[b]? = some y) : (((ks.take a).drop b).any fun s => same s x) = (same y x || ((ks.take a).drop (b + 1)).any fun s => same s x) := by
  obtain ⟨hl, rfl⟩ := List.getElem?_eq_some_iff.1 h
  have hl2 : b < (ks.take a).length := by rw [List.length_take]; omega
  rw [List.drop_eq_getElem_cons hl2, List.any_cons, List.getElem_take]
def arS : List Val → Val → Bool
  | [], _ => true
  | y :: _, x => alike y x
theorem fam24_eq (l : List Val) : famS 24 l = l.all (arS l) := by
  cases l <;> rfl
theorem all_drop {p : Val → Bool} {l : List Val} {i : Nat} {x : Val} (h : l[i]? = some x) : (l.drop i).all p = (p x && (l.drop (i + 1)).all p) := by
  obtain ⟨hl, rfl⟩ := List.getElem?_eq_some_iff.1 h
  rw [List.drop_eq_getElem_cons hl, List.all_cons]
def ntS (v : Val) : Bool := (v.num == 0) && decide (v.text = ⟨#[]⟩)
def rfS (v : Val) : Bool :=
  if v.kind = 22 ∨ v.kind = 23 ∨ v.kind = 24 ∨ v.kind = 25 then famS v.kind v.kids && ntS v else v.kids.isEmpty && plainS v.kind v.num v.text
set_option maxHeartbeats 2000000 in
theorem rmay22 (v : Val) (hs : v.sz ≤ 4000000) (hc : ∀ x ∈ v.kids, EV 90 [x.d] [] = some (.ret (B (mayS x)), [])) (hk : v.kind = 22) : EV 90 [v.d] [] = some (.ret (B (mayL v.kids && rfS v)), []) := by
  have hl := szL_len v.kids
  have hz := Val.sz_eq v
  refine (ev_body ⟨[1], [(0, [1, 3]), (3, [1, 4, 5]), (5, [1, 4, 5, 6]), (7, [1, 4, 7])], [(19, [(0, 0, false), (1, 0, false), (2, 0, false), (3, 0, false), (4, 0, false), (5, 0, false), (6, 0, false), (7, 0, false), (8, 0, false), (9, 0, false), (10, 0, false)]), (25, [(0, 0, false), (1, 0, false), (2, 0, false), (3, 0, false), (4, 0, false), (5, 0, false), (6, 0, false), (7, 0, false), (8, 0, false), (9, 0, false), (10, 0, false)])], false, [], noIt⟩ [.tmp 2] rfl Try.func90 rfl rfl rfl (by kernel_rfl) (by show 1 ≤ 95; decide)).trans ?_
  simp +contextual (maxSteps := 10000000) only [↓reduceIte, go_sem, Nat.reduceEqDiff, Nat.reduceAdd, Nat.reduceSub, Nat.reduceMul, Nat.reduceLeDiff, Nat.reduceLT, Nat.reduceBEq, Nat.reduceDiv, Nat.reduceMod, Int.reduceLE, Int.reduceLT, Int.reduceEq, Int.reduceBEq, Int.reduceBNe, Int.reduceAdd, Int.reduceSub, Int.reduceNeg, Int.reduceToNat, Int.reduceMul, Int.reducePow, Nat.reducePow, reduceCtorEq]
  refine lpK_inv (fun m0 f es => ∃ (i : Nat) (j : Int), j = i ∧ i + m0 = v.kids.length ∧ mayL v.kids = mayL (v.kids.drop i) ∧ f = [(1, .rp v.cs), (3, I j)] ∧ es = []) v.kids.length ⟨0, _, rfl, by omega, rfl, rfl, rfl⟩ ?_
  rintro m0 _ _ ⟨i, _, rfl, hi, hm, rfl, rfl⟩ ih
  rcases Nat.lt_or_ge i v.kids.length with hlt | hge
  · obtain ⟨x, hx⟩ := get_lt hlt
    have hlt' : decide ((i : Int) < v.kids.length) = true := by simpa using hlt
    have hcx := hc x (List.mem_of_getElem? hx)
    simp +contextual (maxSteps := 10000000) only [↓reduceIte, go_sem, Nat.reduceEqDiff, Nat.reduceAdd, Nat.reduceSub, Nat.reduceMul, Nat.reduceLeDiff, Nat.reduceLT, Nat.reduceBEq, Nat.reduceDiv, Nat.reduceMod, Int.reduceLE, Int.reduceLT, Int.reduceEq, Int.reduceBEq, Int.reduceBNe, Int.reduceAdd, Int.reduceSub, Int.reduceNeg, Int.reduceToNat, Int.reduceMul, Int.reducePow, Nat.reducePow, reduceCtorEq, hx, hcx, hlt', wrap_i64 (n := (i : Int) + 1) (by omega) (by omega)]
    refine ite_intro (fun h => ?_) (fun h => ?_)
    · rw [hm, mayL_drop hx]; simp at h; simp [h]
    · exact ih (m0 - 1) _ _ (by omega) ⟨i + 1, _, by omega, by omega, by rw [hm, mayL_drop hx]; simp at h; simp [h], rfl, rfl⟩
  · have hlt' : decide ((i : Int) < v.kids.length) = false := by simpa using hge
    clear ih
    rw [List.drop_eq_nil_of_le hge] at hm
    rw [hm, mayL, Bool.true_and]
    simp +contextual (maxSteps := 10000000) only [↓reduceIte, go_sem, Nat.reduceEqDiff, Nat.reduceAdd, Nat.reduceSub, Nat.reduceMul, Nat.reduceLeDiff, Nat.reduceLT, Nat.reduceBEq, Nat.reduceDiv, Nat.reduceMod, Int.reduceLE, Int.reduceLT, Int.reduceEq, Int.reduceBEq, Int.reduceBNe, Int.reduceAdd, Int.reduceSub, Int.reduceNeg, Int.reduceToNat, Int.reduceMul, Int.reducePow, Nat.reducePow, reduceCtorEq, hlt', hk, rfS, famS]
    rfl
set_option maxHeartbeats 2000000 in
theorem rmay23 (v : Val) (hs : v.sz ≤ 4000000) (hc : ∀ x ∈ v.kids, EV 90 [x.d] [] = some (.ret (B (mayS x)), [])) (hk : v.kind = 23) : EV 90 [v.d] [] = some (.ret (B (mayL v.kids && rfS v)), []) := by
  have hl := szL_len v.kids
  have hz := Val.sz_eq v
  refine (ev_body ⟨[1], [(0, [1, 3]), (3, [1, 4, 5]), (5, [1, 4, 5, 6]), (7, [1, 4, 7])], [(19, [(0, 0, false), (1, 0, false), (2, 0, false), (3, 0, false), (4, 0, false), (5, 0, false), (6, 0, false), (7, 0, false), (8, 0, false), (9, 0, false), (10, 0, false)]), (25, [(0, 0, false), (1, 0, false), (2, 0, false), (3, 0, false), (4, 0, false), (5, 0, false), (6, 0, false), (7, 0, false), (8, 0, false), (9, 0, false), (10, 0, false)])], false, [], noIt⟩ [.tmp 2] rfl Try.func90 rfl rfl rfl (by kernel_rfl) (by show 1 ≤ 95; decide)).trans ?_
  simp +contextual (maxSteps := 10000000) only [↓reduceIte, go_sem, Nat.reduceEqDiff, Nat.reduceAdd, Nat.reduceSub, Nat.reduceMul, Nat.reduceLeDiff, Nat.reduceLT, Nat.reduceBEq, Nat.reduceDiv, Nat.reduceMod, Int.reduceLE, Int.reduceLT, Int.reduceEq, Int.reduceBEq, Int.reduceBNe, Int.reduceAdd, Int.reduceSub, Int.reduceNeg, Int.reduceToNat, Int.reduceMul, Int.reducePow, Nat.reducePow, reduceCtorEq]
  refine lpK_inv (fun m0 f es => ∃ (i : Nat) (j : Int), j = i ∧ i + m0 = v.kids.length ∧ mayL v.kids = mayL (v.kids.drop i) ∧ f = [(1, .rp v.cs), (3, I j)] ∧ es = []) v.kids.length ⟨0, _, rfl, by omega, rfl, rfl, rfl⟩ ?_
  rintro m0 _ _ ⟨i, _, rfl, hi, hm, rfl, rfl⟩ ih
  rcases Nat.lt_or_ge i v.kids.length with hlt | hge
  · obtain ⟨x, hx⟩ := get_lt hlt
    have hlt' : decide ((i : Int) < v.kids.length) = true := by simpa using hlt
    have hcx := hc x (List.mem_of_getElem? hx)
    simp +contextual (maxSteps := 10000000) only [↓reduceIte, go_sem, Nat.reduceEqDiff, Nat.reduceAdd, Nat.reduceSub, Nat.reduceMul, Nat.reduceLeDiff, Nat.reduceLT, Nat.reduceBEq, Nat.reduceDiv, Nat.reduceMod, Int.reduceLE, Int.reduceLT, Int.reduceEq, Int.reduceBEq, Int.reduceBNe, Int.reduceAdd, Int.reduceSub, Int.reduceNeg, Int.reduceToNat, Int.reduceMul, Int.reducePow, Nat.reducePow, reduceCtorEq, hx, hcx, hlt', wrap_i64 (n := (i : Int) + 1) (by omega) (by omega)]
    refine ite_intro (fun h => ?_) (fun h => ?_)
    · rw [hm, mayL_drop hx]; simp at h; simp [h]
    · exact ih (m0 - 1) _ _ (by omega) ⟨i + 1, _, by omega, by omega, by rw [hm, mayL_drop hx]; simp at h; simp [h], rfl, rfl⟩
  · have hlt' : decide ((i : Int) < v.kids.length) = false := by simpa using hge
    clear ih
    rw [List.drop_eq_nil_of_le hge] at hm
    rw [hm, mayL, Bool.true_and]
    have hk0 : rfS v = (famS 23 v.kids && ntS v) := by rw [rfS, if_pos (by simp [hk]), hk]
    rw [hk0]
    simp +contextual (maxSteps := 10000000) only [↓reduceIte, go_sem, Nat.reduceEqDiff, Nat.reduceAdd, Nat.reduceSub, Nat.reduceMul, Nat.reduceLeDiff, Nat.reduceLT, Nat.reduceBEq, Nat.reduceDiv, Nat.reduceMod, Int.reduceLE, Int.reduceLT, Int.reduceEq, Int.reduceBEq, Int.reduceBNe, Int.reduceAdd, Int.reduceSub, Int.reduceNeg, Int.reduceToNat, Int.reduceMul, Int.reducePow, Nat.reducePow, reduceCtorEq, hlt', hk, mod21]
    refine ite_intro (fun h => ?_) (fun h => ?_)
    · have : (v.kids.length % 2 == 0) = false := by simp at h ⊢ <;> omega
      simp only [famS, this]; rfl
    · have h2 : v.kids.length % 2 = 0 := by simp at h <;> omega
      have hf : famS 23 v.kids = noSame [] (keyL v.kids) := by simp only [famS, h2]; rfl
      rw [hf]
      obtain ⟨q1, q2⟩ := keyL_len v.kids
      refine lpK_inv (fun m0 f es => ∃ (a : Nat) (j : Int), j = 2 * a ∧ 2 * a + m0 = v.kids.length ∧ noSame [] (keyL v.kids) = noSame ((keyL v.kids).take a) ((keyL v.kids).drop a) ∧ f = [(1, .rp v.cs), (4, I v.kids.length), (5, I j)] ∧ es = []) v.kids.length ⟨0, _, rfl, by omega, rfl, rfl, rfl⟩ ?_
      rintro m1 _ _ ⟨a, j, hj, ha, hn, rfl, rfl⟩ ih
      rcases Nat.lt_or_ge (2 * a) v.kids.length with hlt | hge
      · obtain ⟨x, hx⟩ := get_lt hlt
        have hx2 := hx
        rw [← keyL_at _ _ (by omega)] at hx2
        have hlt2 : decide (j < v.kids.length) = true := by simp <;> omega
        simp +contextual (maxSteps := 10000000) only [↓reduceIte, go_sem, Nat.reduceEqDiff, Nat.reduceAdd, Nat.reduceSub, Nat.reduceMul, Nat.reduceLeDiff, Nat.reduceLT, Nat.reduceBEq, Nat.reduceDiv, Nat.reduceMod, Int.reduceLE, Int.reduceLT, Int.reduceEq, Int.reduceBEq, Int.reduceBNe, Int.reduceAdd, Int.reduceSub, Int.reduceNeg, Int.reduceToNat, Int.reduceMul, Int.reducePow, Nat.reducePow, reduceCtorEq, hlt2]
        refine lpK_inv (fun m2 f es => ∃ (b : Nat) (k : Int), k = 2 * b ∧ b + m2 = a ∧ (((keyL v.kids).take a).any fun s => same s x) = ((((keyL v.kids).take a).drop b).any fun s => same s x) ∧ f = [(1, .rp v.cs), (4, I v.kids.length), (5, I j), (6, I k)] ∧ es = []) a ⟨0, _, rfl, by omega, rfl, rfl, rfl⟩ ?_
        rintro m2 _ _ ⟨b, k, hk2, hb, hn2, rfl, rfl⟩ ih2
        rcases Nat.lt_or_ge b a with hba | hba
        · obtain ⟨y, hy⟩ := get_lt (show 2 * b < v.kids.length by omega)
          have hy2 := hy
          rw [← keyL_at _ _ (by omega)] at hy2
          have hlt3 : decide (k < j) = true := by simp <;> omega
          have h32 := same32 _ x y (Nat.le_refl _) (by have := szL_in (List.mem_of_getElem? hx); omega)
          have g1 : v.kids[j.toNat]? = some x := by rw [show j.toNat = 2 * a by omega]; exact hx
          have g2 : v.kids[k.toNat]? = some y := by rw [show k.toNat = 2 * b by omega]; exact hy
          simp +contextual (maxSteps := 10000000) only [↓reduceIte, go_sem, Nat.reduceEqDiff, Nat.reduceAdd, Nat.reduceSub, Nat.reduceMul, Nat.reduceLeDiff, Nat.reduceLT, Nat.reduceBEq, Nat.reduceDiv, Nat.reduceMod, Int.reduceLE, Int.reduceLT, Int.reduceEq, Int.reduceBEq, Int.reduceBNe, Int.reduceAdd, Int.reduceSub, Int.reduceNeg, Int.reduceToNat, Int.reduceMul, Int.reducePow, Nat.reducePow, reduceCtorEq, hlt3, g1, g2, h32, show 0 ≤ j by omega, show j < v.kids.length by omega, show 0 ≤ k by omega, show k < v.kids.length by omega, wrap_i64 (n := k + 2) (by omega) (by omega)]
          refine ite_intro (fun h => ?_) (fun h => ?_)
          · rw [hn, noSame_step hx2, hn2, any_step hba hy2, same_comm y x, h]; rfl
          · have e : same y x = false := by rw [same_comm]; simpa using h
            exact ih2 (m2 - 1) _ _ (by omega) ⟨b + 1, _, by omega, by omega, by rw [hn2, any_step hba hy2, e, Bool.false_or], rfl, rfl⟩
        · have hlt3 : decide (k < j) = false := by simp <;> omega
          clear ih2
          simp +contextual (maxSteps := 10000000) only [↓reduceIte, go_sem, Nat.reduceEqDiff, Nat.reduceAdd, Nat.reduceSub, Nat.reduceMul, Nat.reduceLeDiff, Nat.reduceLT, Nat.reduceBEq, Nat.reduceDiv, Nat.reduceMod, Int.reduceLE, Int.reduceLT, Int.reduceEq, Int.reduceBEq, Int.reduceBNe, Int.reduceAdd, Int.reduceSub, Int.reduceNeg, Int.reduceToNat, Int.reduceMul, Int.reducePow, Nat.reducePow, reduceCtorEq, hlt3, wrap_i64 (n := j + 2) (by omega) (by omega)]
          have e : (((keyL v.kids).take a).any fun s => same s x) = false := by
            rw [hn2, List.drop_eq_nil_of_le (by rw [List.length_take]; omega)]; rfl
          exact ih (m1 - 2) _ _ (by omega) ⟨a + 1, _, by omega, by omega, by rw [hn, noSame_step hx2, e]; rfl, rfl, rfl⟩
      · have hlt2 : decide (j < v.kids.length) = false := by simp <;> omega
        simp +contextual (maxSteps := 10000000) only [↓reduceIte, go_sem, Nat.reduceEqDiff, Nat.reduceAdd, Nat.reduceSub, Nat.reduceMul, Nat.reduceLeDiff, Nat.reduceLT, Nat.reduceBEq, Nat.reduceDiv, Nat.reduceMod, Int.reduceLE, Int.reduceLT, Int.reduceEq, Int.reduceBEq, Int.reduceBNe, Int.reduceAdd, Int.reduceSub, Int.reduceNeg, Int.reduceToNat, Int.reduceMul, Int.reducePow, Nat.reducePow, reduceCtorEq, hlt2]
        rw [hn, List.drop_eq_nil_of_le (by omega)]
        simp only [noSame, Bool.true_and]
        rfl
set_option maxHeartbeats 2000000 in
theorem rmay24 (v : Val) (hs : v.sz ≤ 4000000) (hc : ∀ x ∈ v.kids, EV 90 [x.d] [] = some (.ret (B (mayS x)), [])) (hk : v.kind = 24) : EV 90 [v.d] [] = some (.ret (B (mayL v.kids && rfS v)), []) := by
  have hl := szL_len v.kids
  have hz := Val.sz_eq v
  refine (ev_body ⟨[1], [(0, [1, 3]), (3, [1, 4, 5]), (5, [1, 4, 5, 6]), (7, [1, 4, 7])], [(19, [(0, 0, false), (1, 0, false), (2, 0, false), (3, 0, false), (4, 0, false), (5, 0, false), (6, 0, false), (7, 0, false), (8, 0, false), (9, 0, false), (10, 0, false)]), (25, [(0, 0, false), (1, 0, false), (2, 0, false), (3, 0, false), (4, 0, false), (5, 0, false), (6, 0, false), (7, 0, false), (8, 0, false), (9, 0, false), (10, 0, false)])], false, [], noIt⟩ [.tmp 2] rfl Try.func90 rfl rfl rfl (by kernel_rfl) (by show 1 ≤ 95; decide)).trans ?_
  simp +contextual (maxSteps := 10000000) only [↓reduceIte, go_sem, Nat.reduceEqDiff, Nat.reduceAdd, Nat.reduceSub, Nat.reduceMul, Nat.reduceLeDiff, Nat.reduceLT, Nat.reduceBEq, Nat.reduceDiv, Nat.reduceMod, Int.reduceLE, Int.reduceLT, Int.reduceEq, Int.reduceBEq, Int.reduceBNe, Int.reduceAdd, Int.reduceSub, Int.reduceNeg, Int.reduceToNat, Int.reduceMul, Int.reducePow, Nat.reducePow, reduceCtorEq]
  refine lpK_inv (fun m0 f es => ∃ (i : Nat) (j : Int), j = i ∧ i + m0 = v.kids.length ∧ mayL v.kids = mayL (v.kids.drop i) ∧ f = [(1, .rp v.cs), (3, I j)] ∧ es = []) v.kids.length ⟨0, _, rfl, by omega, rfl, rfl, rfl⟩ ?_
  rintro m0 _ _ ⟨i, _, rfl, hi, hm, rfl, rfl⟩ ih
  rcases Nat.lt_or_ge i v.kids.length with hlt | hge
  · obtain ⟨x, hx⟩ := get_lt hlt
    have hlt' : decide ((i : Int) < v.kids.length) = true := by simpa using hlt
    have hcx := hc x (List.mem_of_getElem? hx)
    simp +contextual (maxSteps := 10000000) only [↓reduceIte, go_sem, Nat.reduceEqDiff, Nat.reduceAdd, Nat.reduceSub, Nat.reduceMul, Nat.reduceLeDiff, Nat.reduceLT, Nat.reduceBEq, Nat.reduceDiv, Nat.reduceMod, Int.reduceLE, Int.reduceLT, Int.reduceEq, Int.reduceBEq, Int.reduceBNe, Int.reduceAdd, Int.reduceSub, Int.reduceNeg, Int.reduceToNat, Int.reduceMul, Int.reducePow, Nat.reducePow, reduceCtorEq, hx, hcx, hlt', wrap_i64 (n := (i : Int) + 1) (by omega) (by omega)]
    refine ite_intro (fun h => ?_) (fun h => ?_)
    · rw [hm, mayL_drop hx]; simp at h; simp [h]
    · exact ih (m0 - 1) _ _ (by omega) ⟨i + 1, _, by omega, by omega, by rw [hm, mayL_drop hx]; simp at h; simp [h], rfl, rfl⟩
  · have hlt' : decide ((i : Int) < v.kids.length) = false := by simpa using hge
    clear ih
    rw [List.drop_eq_nil_of_le hge] at hm
    rw [hm, mayL, Bool.true_and]
    have hk0 : rfS v = (famS 24 v.kids && ntS v) := by rw [rfS, if_pos (by simp [hk]), hk]
    rw [hk0, fam24_eq]
    have hall : v.kids.all (arS v.kids) = (v.kids.drop 1).all (arS v.kids) := by
      cases h0 : v.kids with
      | nil => rfl
      | cons y r =>
        rw [h0] at hm
        have : mayS y = true := mayL_at hm (i := 0) rfl
        rw [List.all_cons, show arS (y :: r) y = alike y y from rfl, alike_refl this]; rfl
    rw [hall]
    simp +contextual (maxSteps := 10000000) only [↓reduceIte, go_sem, Nat.reduceEqDiff, Nat.reduceAdd, Nat.reduceSub, Nat.reduceMul, Nat.reduceLeDiff, Nat.reduceLT, Nat.reduceBEq, Nat.reduceDiv, Nat.reduceMod, Int.reduceLE, Int.reduceLT, Int.reduceEq, Int.reduceBEq, Int.reduceBNe, Int.reduceAdd, Int.reduceSub, Int.reduceNeg, Int.reduceToNat, Int.reduceMul, Int.reducePow, Nat.reducePow, reduceCtorEq, hlt', hk]
    refine lpK_inv (fun m0 f es => ∃ (i : Nat) (j : Int), j = i ∧ 1 ≤ i ∧ v.kids.length - i = m0 ∧ (v.kids.drop 1).all (arS v.kids) = (v.kids.drop i).all (arS v.kids) ∧ f = [(1, .rp v.cs), (4, I v.kids.length), (7, I j)] ∧ es = []) (v.kids.length - 1) ⟨1, _, rfl, Nat.le_refl _, rfl, rfl, rfl, rfl⟩ ?_
    rintro m1 _ _ ⟨i, j, hj, h1, hi, ha, rfl, rfl⟩ ih
    rcases Nat.lt_or_ge i v.kids.length with hlt | hge
    · obtain ⟨x, hx⟩ := get_lt hlt
      obtain ⟨y, hy⟩ := get_lt (show 0 < v.kids.length by omega)
      have hlt2 : decide (j < v.kids.length) = true := by simp <;> omega
      have hal := ralike_c _ y x (Nat.le_refl _) (by have := szL_in (List.mem_of_getElem? hy); omega) (mayL_at hm hy) (mayL_at hm hx)
      have hp : arS v.kids x = alike y x := by
        cases h0 : v.kids with
        | nil => rw [h0] at hy; cases hy
        | cons z r => rw [h0] at hy; simp only [List.getElem?_cons_zero, Option.some.injEq] at hy; subst hy; rfl
      have g1 : v.kids[j.toNat]? = some x := by rw [show j.toNat = i by omega]; exact hx
      simp +contextual (maxSteps := 10000000) only [↓reduceIte, go_sem, Nat.reduceEqDiff, Nat.reduceAdd, Nat.reduceSub, Nat.reduceMul, Nat.reduceLeDiff, Nat.reduceLT, Nat.reduceBEq, Nat.reduceDiv, Nat.reduceMod, Int.reduceLE, Int.reduceLT, Int.reduceEq, Int.reduceBEq, Int.reduceBNe, Int.reduceAdd, Int.reduceSub, Int.reduceNeg, Int.reduceToNat, Int.reduceMul, Int.reducePow, Nat.reducePow, reduceCtorEq, hlt2, g1, hy, hal, show 0 ≤ j by omega, show j < v.kids.length by omega, show (0 : Int) < v.kids.length by omega, wrap_i64 (n := j + 1) (by omega) (by omega)]
      refine ite_intro (fun h => ?_) (fun h => ?_)
      · have e : alikeF y.sz y x = false := by simpa using h
        rw [ha, all_drop hx, hp, alike, e]; rfl
      · have e : alikeF y.sz y x = true := by simpa using h
        exact ih (m1 - 1) _ _ (by omega) ⟨i + 1, _, by omega, by omega, by omega, by rw [ha, all_drop hx, hp, alike, e]; rfl, rfl, rfl⟩
    · have hlt2 : decide (j < v.kids.length) = false := by simp <;> omega
      simp +contextual (maxSteps := 10000000) only [↓reduceIte, go_sem, Nat.reduceEqDiff, Nat.reduceAdd, Nat.reduceSub, Nat.reduceMul, Nat.reduceLeDiff, Nat.reduceLT, Nat.reduceBEq, Nat.reduceDiv, Nat.reduceMod, Int.reduceLE, Int.reduceLT, Int.reduceEq, Int.reduceBEq, Int.reduceBNe, Int.reduceAdd, Int.reduceSub, Int.reduceNeg, Int.reduceToNat, Int.reduceMul, Int.reducePow, Nat.reducePow, reduceCtorEq, hlt2]
      rw [ha, List.drop_eq_nil_of_le hge]
      simp only [List.all_nil, Bool.true_and]
      rfl
set_option maxHeartbeats 2000000 in
theorem rmay25 (v : Val) (hs : v.sz ≤ 4000000) (hc : ∀ x ∈ v.kids, EV 90 [x.d] [] = some (.ret (B (mayS x)), [])) (hk : v.kind = 25) : EV 90 [v.d] [] = some (.ret (B (mayL v.kids && rfS v)), []) := by
  have hl := szL_len v.kids
  have hz := Val.sz_eq v
  refine (ev_body ⟨[1], [(0, [1, 3]), (3, [1, 4, 5]), (5, [1, 4, 5, 6]), (7, [1, 4, 7])], [(19, [(0, 0, false), (1, 0, false), (2, 0, false), (3, 0, false), (4, 0, false), (5, 0, false), (6, 0, false), (7, 0, false), (8, 0, false), (9, 0, false), (10, 0, false)]), (25, [(0, 0, false), (1, 0, false), (2, 0, false), (3, 0, false), (4, 0, false), (5, 0, false), (6, 0, false), (7, 0, false), (8, 0, false), (9, 0, false), (10, 0, false)])], false, [], noIt⟩ [.tmp 2] rfl Try.func90 rfl rfl rfl (by kernel_rfl) (by show 1 ≤ 95; decide)).trans ?_
  simp +contextual (maxSteps := 10000000) only [↓reduceIte, go_sem, Nat.reduceEqDiff, Nat.reduceAdd, Nat.reduceSub, Nat.reduceMul, Nat.reduceLeDiff, Nat.reduceLT, Nat.reduceBEq, Nat.reduceDiv, Nat.reduceMod, Int.reduceLE, Int.reduceLT, Int.reduceEq, Int.reduceBEq, Int.reduceBNe, Int.reduceAdd, Int.reduceSub, Int.reduceNeg, Int.reduceToNat, Int.reduceMul, Int.reducePow, Nat.reducePow, reduceCtorEq]
  refine lpK_inv (fun m0 f es => ∃ (i : Nat) (j : Int), j = i ∧ i + m0 = v.kids.length ∧ mayL v.kids = mayL (v.kids.drop i) ∧ f = [(1, .rp v.cs), (3, I j)] ∧ es = []) v.kids.length ⟨0, _, rfl, by omega, rfl, rfl, rfl⟩ ?_
  rintro m0 _ _ ⟨i, _, rfl, hi, hm, rfl, rfl⟩ ih
  rcases Nat.lt_or_ge i v.kids.length with hlt | hge
  · obtain ⟨x, hx⟩ := get_lt hlt
    have hlt' : decide ((i : Int) < v.kids.length) = true := by simpa using hlt
    have hcx := hc x (List.mem_of_getElem? hx)
    simp +contextual (maxSteps := 10000000) only [↓reduceIte, go_sem, Nat.reduceEqDiff, Nat.reduceAdd, Nat.reduceSub, Nat.reduceMul, Nat.reduceLeDiff, Nat.reduceLT, Nat.reduceBEq, Nat.reduceDiv, Nat.reduceMod, Int.reduceLE, Int.reduceLT, Int.reduceEq, Int.reduceBEq, Int.reduceBNe, Int.reduceAdd, Int.reduceSub, Int.reduceNeg, Int.reduceToNat, Int.reduceMul, Int.reducePow, Nat.reducePow, reduceCtorEq, hx, hcx, hlt', wrap_i64 (n := (i : Int) + 1) (by omega) (by omega)]
    refine ite_intro (fun h => ?_) (fun h => ?_)
    · rw [hm, mayL_drop hx]; simp at h; simp [h]
    · exact ih (m0 - 1) _ _ (by omega) ⟨i + 1, _, by omega, by omega, by rw [hm, mayL_drop hx]; simp at h; simp [h], rfl, rfl⟩
  · have hlt' : decide ((i : Int) < v.kids.length) = false := by simpa using hge
    clear ih
    rw [List.drop_eq_nil_of_le hge] at hm
    rw [hm, mayL, Bool.true_and]
    have hk0 : rfS v = (famS 25 v.kids && ntS v) := by rw [rfS, if_pos (by simp [hk]), hk]
    rw [hk0]
    match h0 : v.kids, hge with
    | [], hge =>
      have hlt' : decide ((i : Int) < 0) = false := by simp
      simp +contextual (maxSteps := 10000000) only [↓reduceIte, go_sem, Nat.reduceEqDiff, Nat.reduceAdd, Nat.reduceSub, Nat.reduceMul, Nat.reduceLeDiff, Nat.reduceLT, Nat.reduceBEq, Nat.reduceDiv, Nat.reduceMod, Int.reduceLE, Int.reduceLT, Int.reduceEq, Int.reduceBEq, Int.reduceBNe, Int.reduceAdd, Int.reduceSub, Int.reduceNeg, Int.reduceToNat, Int.reduceMul, Int.reducePow, Nat.reducePow, reduceCtorEq, hlt', hk, h0, famS, List.map_nil, List.length_nil, Bool.false_and]
    | [x], hge =>
      have hlt' : decide ((i : Int) < 1) = false := by simp at hge ⊢ <;> omega
      simp +contextual (maxSteps := 10000000) only [↓reduceIte, go_sem, Nat.reduceEqDiff, Nat.reduceAdd, Nat.reduceSub, Nat.reduceMul, Nat.reduceLeDiff, Nat.reduceLT, Nat.reduceBEq, Nat.reduceDiv, Nat.reduceMod, Int.reduceLE, Int.reduceLT, Int.reduceEq, Int.reduceBEq, Int.reduceBNe, Int.reduceAdd, Int.reduceSub, Int.reduceNeg, Int.reduceToNat, Int.reduceMul, Int.reducePow, Nat.reducePow, reduceCtorEq, hlt', hk, h0, famS, List.map_cons, List.map_nil, List.length_nil, List.length_cons, Bool.false_and]
    | [x, y], hge =>
      have hlt' : decide ((i : Int) < 2) = false := by simp at hge ⊢ <;> omega
      have hcl := called_c x
      cases hx : (x.kind == 6 || x.kind == 21)
      · rw [hx] at hcl
        simp +contextual (maxSteps := 10000000) only [↓reduceIte, go_sem, Nat.reduceEqDiff, Nat.reduceAdd, Nat.reduceSub, Nat.reduceMul, Nat.reduceLeDiff, Nat.reduceLT, Nat.reduceBEq, Nat.reduceDiv, Nat.reduceMod, Int.reduceLE, Int.reduceLT, Int.reduceEq, Int.reduceBEq, Int.reduceBNe, Int.reduceAdd, Int.reduceSub, Int.reduceNeg, Int.reduceToNat, Int.reduceMul, Int.reducePow, Nat.reducePow, reduceCtorEq, hlt', hk, h0, famS, List.map_cons, List.map_nil, List.length_nil, List.length_cons, hcl, hx, Bool.false_and]
      · rw [hx] at hcl
        simp +contextual (maxSteps := 10000000) only [↓reduceIte, go_sem, Nat.reduceEqDiff, Nat.reduceAdd, Nat.reduceSub, Nat.reduceMul, Nat.reduceLeDiff, Nat.reduceLT, Nat.reduceBEq, Nat.reduceDiv, Nat.reduceMod, Int.reduceLE, Int.reduceLT, Int.reduceEq, Int.reduceBEq, Int.reduceBNe, Int.reduceAdd, Int.reduceSub, Int.reduceNeg, Int.reduceToNat, Int.reduceMul, Int.reducePow, Nat.reducePow, reduceCtorEq, hlt', hk, h0, famS, List.map_cons, List.map_nil, List.length_nil, List.length_cons, hcl, hx, Bool.true_and]
        rfl
    | x :: y :: z :: r, hge =>
      have hlt' : decide ((i : Int) < (r.length : Int) + 1 + 1 + 1) = false := by simp at hge ⊢ <;> omega
      have e : ((r.length : Int) + 1 + 1 + 1 == 2) = false := by simp <;> omega
      have e' : ((r.length : Int) + 1 + 1 + 1 != 2) = true := by rw [bne, e]; rfl
      simp +contextual (maxSteps := 10000000) only [↓reduceIte, go_sem, Nat.reduceEqDiff, Nat.reduceAdd, Nat.reduceSub, Nat.reduceMul, Nat.reduceLeDiff, Nat.reduceLT, Nat.reduceBEq, Nat.reduceDiv, Nat.reduceMod, Int.reduceLE, Int.reduceLT, Int.reduceEq, Int.reduceBEq, Int.reduceBNe, Int.reduceAdd, Int.reduceSub, Int.reduceNeg, Int.reduceToNat, Int.reduceMul, Int.reducePow, Nat.reducePow, reduceCtorEq, hlt', hk, h0, famS, List.map_cons, List.length_cons, e, e', Bool.false_and]
set_option maxHeartbeats 2000000 in
theorem rmay_no (v : Val) (hs : v.sz ≤ 4000000) (hc : ∀ x ∈ v.kids, EV 90 [x.d] [] = some (.ret (B (mayS x)), [])) (h2 : v.kind ≠ 22) (h3 : v.kind ≠ 23) (h4 : v.kind ≠ 24) (h5 : v.kind ≠ 25) : EV 90 [v.d] [] = some (.ret (B (mayL v.kids && rfS v)), []) := by
  have hl := szL_len v.kids
  have hz := Val.sz_eq v
  refine (ev_body ⟨[1], [(0, [1, 3]), (3, [1, 4, 5]), (5, [1, 4, 5, 6]), (7, [1, 4, 7])], [(19, [(0, 0, false), (1, 0, false), (2, 0, false), (3, 0, false), (4, 0, false), (5, 0, false), (6, 0, false), (7, 0, false), (8, 0, false), (9, 0, false), (10, 0, false)]), (25, [(0, 0, false), (1, 0, false), (2, 0, false), (3, 0, false), (4, 0, false), (5, 0, false), (6, 0, false), (7, 0, false), (8, 0, false), (9, 0, false), (10, 0, false)])], false, [], noIt⟩ [.tmp 2] rfl Try.func90 rfl rfl rfl (by kernel_rfl) (by show 1 ≤ 95; decide)).trans ?_
  simp +contextual (maxSteps := 10000000) only [↓reduceIte, go_sem, Nat.reduceEqDiff, Nat.reduceAdd, Nat.reduceSub, Nat.reduceMul, Nat.reduceLeDiff, Nat.reduceLT, Nat.reduceBEq, Nat.reduceDiv, Nat.reduceMod, Int.reduceLE, Int.reduceLT, Int.reduceEq, Int.reduceBEq, Int.reduceBNe, Int.reduceAdd, Int.reduceSub, Int.reduceNeg, Int.reduceToNat, Int.reduceMul, Int.reducePow, Nat.reducePow, reduceCtorEq]
  refine lpK_inv (fun m0 f es => ∃ (i : Nat) (j : Int), j = i ∧ i + m0 = v.kids.length ∧ mayL v.kids = mayL (v.kids.drop i) ∧ f = [(1, .rp v.cs), (3, I j)] ∧ es = []) v.kids.length ⟨0, _, rfl, by omega, rfl, rfl, rfl⟩ ?_
  rintro m0 _ _ ⟨i, _, rfl, hi, hm, rfl, rfl⟩ ih
  rcases Nat.lt_or_ge i v.kids.length with hlt | hge
  · obtain ⟨x, hx⟩ := get_lt hlt
    have hlt' : decide ((i : Int) < v.kids.length) = true := by simpa using hlt
    have hcx := hc x (List.mem_of_getElem? hx)
    simp +contextual (maxSteps := 10000000) only [↓reduceIte, go_sem, Nat.reduceEqDiff, Nat.reduceAdd, Nat.reduceSub, Nat.reduceMul, Nat.reduceLeDiff, Nat.reduceLT, Nat.reduceBEq, Nat.reduceDiv, Nat.reduceMod, Int.reduceLE, Int.reduceLT, Int.reduceEq, Int.reduceBEq, Int.reduceBNe, Int.reduceAdd, Int.reduceSub, Int.reduceNeg, Int.reduceToNat, Int.reduceMul, Int.reducePow, Nat.reducePow, reduceCtorEq, hx, hcx, hlt', wrap_i64 (n := (i : Int) + 1) (by omega) (by omega)]
    refine ite_intro (fun h => ?_) (fun h => ?_)
    · rw [hm, mayL_drop hx]; simp at h; simp [h]
    · exact ih (m0 - 1) _ _ (by omega) ⟨i + 1, _, by omega, by omega, by rw [hm, mayL_drop hx]; simp at h; simp [h], rfl, rfl⟩
  · have hlt' : decide ((i : Int) < v.kids.length) = false := by simpa using hge
    clear ih
    rw [List.drop_eq_nil_of_le hge] at hm
    rw [hm, mayL, Bool.true_and]
    have hk0 : rfS v = (v.kids.isEmpty && plainS v.kind v.num v.text) := by rw [rfS, if_neg (by simp [h2, h3, h4, h5])]
    rw [hk0]
    simp +contextual (maxSteps := 10000000) only [↓reduceIte, go_sem, Nat.reduceEqDiff, Nat.reduceAdd, Nat.reduceSub, Nat.reduceMul, Nat.reduceLeDiff, Nat.reduceLT, Nat.reduceBEq, Nat.reduceDiv, Nat.reduceMod, Int.reduceLE, Int.reduceLT, Int.reduceEq, Int.reduceBEq, Int.reduceBNe, Int.reduceAdd, Int.reduceSub, Int.reduceNeg, Int.reduceToNat, Int.reduceMul, Int.reducePow, Nat.reducePow, reduceCtorEq, hlt', fb h2, fb h3, fb h4, fb h5, plain_c v (by omega)]
theorem rf_eq (v : Val) : (mayL v.kids && rfS v) = mayS v := by
  rw [mayS_eq, rfS]
  by_cases h : v.kind = 22 ∨ v.kind = 23 ∨ v.kind = 24 ∨ v.kind = 25
  · rw [if_pos h]
    have hn : (numS v.kind v.num && textS v.kind v.text) = ntS v := by rcases h with h | h | h | h <;> (rw [h]; rfl)
    have hr : (decide (1 ≤ v.kind) && decide (v.kind ≤ 25)) = true := by rcases h with h | h | h | h <;> (rw [h]; rfl)
    rw [hn, hr, Bool.true_and, Bool.and_comm (ntS v)]
  · rw [if_neg h]
    simp only [not_or] at h
    obtain ⟨h2, h3, h4, h5⟩ := h
    have hf : famS v.kind v.kids = v.kids.isEmpty := by simp only [famS, fb h2, fb h3, fb h4, fb h5, Bool.false_eq_true, if_false]
    have hr : decide (v.kind ≤ 21) = decide (v.kind ≤ 25) := decide_eq_decide.2 (by omega)
    rw [hf, plainS, hr]
    cases mayL v.kids <;> cases v.kids.isEmpty <;> cases (decide (1 ≤ v.kind) && decide (v.kind ≤ 25)) <;> cases numS v.kind v.num <;> cases textS v.kind v.text <;> rfl
theorem rmay_c : ∀ (n : Nat) (v : Val), v.sz ≤ n → n ≤ 4000000 → EV 90 [v.d] [] = some (.ret (B (mayS v)), [])
  | 0, .mk .., h, _ => by simp [Val.sz] at h
  | n + 1, v, hs, hn => by
    have hz := Val.sz_eq v
    have hc : ∀ x ∈ v.kids, EV 90 [x.d] [] = some (.ret (B (mayS x)), []) := fun x hx => rmay_c n x (by have := szL_in hx; omega) (by omega)
    rw [← rf_eq]
    by_cases h2 : v.kind = 22
    · exact rmay22 v (by omega) hc h2
    by_cases h3 : v.kind = 23
    · exact rmay23 v (by omega) hc h3
    by_cases h4 : v.kind = 24
    · exact rmay24 v (by omega) hc h4
    by_cases h5 : v.kind = 25
    · exact rmay25 v (by omega) hc h5
    exact rmay_no v (by omega) hc h2 h3 h4 h5
set_option maxHeartbeats 2000000 in
theorem rright_v (v : Val) (h : v.sz ≤ 4000000) : EV 59 [v.d] [] = some (.ret (B (rightS v)), []) := by
  refine (ev_body ⟨[1], [], [], false, [], noIt⟩ [.tmp 2] rfl Try.func59 rfl rfl rfl (by kernel_rfl) (by show 1 ≤ 15; decide)).trans ?_
  have h1 := rdepth_c _ v (Nat.le_refl _) (by omega)
  have h2 := ritems_c _ v (Nat.le_refl _) (by omega)
  have h3 := rmay_c _ v (Nat.le_refl _) h
  by_cases k2 : v.items ≤ 1024
  · have e2 : decide ((v.items : Int) ≤ 1024) = true := by simp <;> omega
    have f2 : decide (v.items ≤ 1024) = true := by simpa using k2
    by_cases k1 : v.depth ≤ 16
    · have e1 : decide ((v.depth : Int) ≤ 16) = true := by simp <;> omega
      have f1 : decide (v.depth ≤ 16) = true := by simpa using k1
      simp +contextual (maxSteps := 10000000) only [↓reduceIte, go_sem, Nat.reduceEqDiff, Nat.reduceAdd, Nat.reduceSub, Nat.reduceMul, Nat.reduceLeDiff, Nat.reduceLT, Nat.reduceBEq, Nat.reduceDiv, Nat.reduceMod, Int.reduceLE, Int.reduceLT, Int.reduceEq, Int.reduceBEq, Int.reduceBNe, Int.reduceAdd, Int.reduceSub, Int.reduceNeg, Int.reduceToNat, Int.reduceMul, Int.reducePow, Nat.reducePow, reduceCtorEq, h1, h2, h3, e1, e2, rightS, f1, f2, Bool.true_and]
    · have e1 : decide ((v.depth : Int) ≤ 16) = false := by simp <;> omega
      have f1 : decide (v.depth ≤ 16) = false := by simp <;> omega
      simp +contextual (maxSteps := 10000000) only [↓reduceIte, go_sem, Nat.reduceEqDiff, Nat.reduceAdd, Nat.reduceSub, Nat.reduceMul, Nat.reduceLeDiff, Nat.reduceLT, Nat.reduceBEq, Nat.reduceDiv, Nat.reduceMod, Int.reduceLE, Int.reduceLT, Int.reduceEq, Int.reduceBEq, Int.reduceBNe, Int.reduceAdd, Int.reduceSub, Int.reduceNeg, Int.reduceToNat, Int.reduceMul, Int.reducePow, Nat.reducePow, reduceCtorEq, h1, h2, e1, e2, rightS, f1, f2, Bool.true_and, Bool.false_and]
  · have e2 : decide ((v.items : Int) ≤ 1024) = false := by simp <;> omega
    have f2 : decide (v.items ≤ 1024) = false := by simp <;> omega
    simp +contextual (maxSteps := 10000000) only [↓reduceIte, go_sem, Nat.reduceEqDiff, Nat.reduceAdd, Nat.reduceSub, Nat.reduceMul, Nat.reduceLeDiff, Nat.reduceLT, Nat.reduceBEq, Nat.reduceDiv, Nat.reduceMod, Int.reduceLE, Int.reduceLT, Int.reduceEq, Int.reduceBEq, Int.reduceBNe, Int.reduceAdd, Int.reduceSub, Int.reduceNeg, Int.reduceToNat, Int.reduceMul, Int.reducePow, Nat.reducePow, reduceCtorEq, h2, e2, rightS, f2, Bool.false_and, Bool.and_false]
end Go.Bw.R1

namespace Go.Bw
set_option maxRecDepth 5000
open Go
theorem Rd.slice_cases {P : Program} {t e : TypeId} {ds : List D} (hu : P.underlying t = some (.slice e)) (h : Rd P t ds) : ds = [.nils] ∨ ∃ dss : List (List D), ds = [.ro false (dss.map fun ds => (whole ((aggB P e).getD false) ds).getD .undef)] ∧ ∀ ds ∈ dss, Rd P e ds := by
  cases h with
  | nils h => exact .inl rfl
  | ro h dss hl k =>
    rw [hu] at h
    simp only [Option.some.injEq, TypeDesc.slice.injEq] at h
    subst h
    exact .inr ⟨dss, rfl, k⟩
  | veil h n => unfold Bw.veil at h; rw [hu] at h; cases h
  | _ h => rw [hu] at h; simp at h
theorem Arg.cells {P : Program} {t : TypeId} {d : D} {ag : Bool} (ha : aggB P t = some ag) (h : Arg P t d) : ∃ cs, Rd P t cs ∧ d = (whole ag cs).getD .undef := by
  obtain ⟨cs, h1, _, h3⟩ := h
  rw [ha] at h3
  exact ⟨cs, h1, h3⟩
end Go.Bw
namespace Go.Bw.R1
open Go Go.Bw Go.Proofs
theorem ag28' : aggB Try.prog 28 = some true := by kernel_rfl
theorem wh56 : (fun ds => (whole ((aggB Try.prog 28).getD false) ds).getD .undef) = D.agg := by rw [ag28']; rfl
theorem vals_of {n : Nat} (ih : ∀ ds, Rd Try.prog 28 ds → D.blkL ds ≤ n → ∃ v : Val, v.wf ∧ WkL ds v.cs ∧ v.sz ≤ D.blkL ds) : ∀ dss : List (List D), (∀ ds ∈ dss, Rd Try.prog 28 ds) → D.blkL (dss.map D.agg) ≤ n →
    ∃ l : List Val, Val.wfL l ∧ dss.length = l.length ∧ Val.szL l ≤ D.blkL (dss.map D.agg) ∧ ∀ (j : Nat) (ds : List D) (x : Val), dss[j]? = some ds → l[j]? = some x → WkL ds x.cs
  | [], _, _ => ⟨[], trivial, rfl, Nat.le_refl _, fun j ds x h => by simp at h⟩
  | ds :: dss, hr, hn => by
    rw [List.map_cons, D.blkL, D.blk] at hn ⊢
    obtain ⟨v, h1, h2, h3⟩ := ih ds (hr ds (List.mem_cons_self ..)) (by omega)
    obtain ⟨l, k1, k2, k3, k4⟩ := vals_of ih dss (fun d hd => hr d (List.mem_cons_of_mem _ hd)) (by omega)
    refine ⟨v :: l, ⟨h1, k1⟩, by simp [k2], by simp only [Val.szL]; omega, fun j d x hd hx => ?_⟩
    cases j with
    | zero => simp at hd hx; subst hd hx; exact h2
    | succ j => exact k4 j d x (by simpa using hd) (by simpa using hx)
theorem slice_rd {n : Nat} (ih : ∀ ds, Rd Try.prog 28 ds → D.blkL ds ≤ n → ∃ v : Val, v.wf ∧ WkL ds v.cs ∧ v.sz ≤ D.blkL ds) {ds : List D} (h : Rd Try.prog 23 ds) (hn : D.blkL ds ≤ n + 1) : ∃ l : List Val, Val.wfL l ∧ WkL ds [.ro false (l.map Val.d)] ∧ Val.szL l + 1 ≤ D.blkL ds := by
  rcases Rd.slice_cases Try.underlying23 h with rfl | ⟨dss, rfl, k⟩
  · exact ⟨[], trivial, .cons (.nils _) .nil, by simp [Val.szL, D.blkL, D.blk]⟩
  · rw [wh56] at hn ⊢
    simp only [D.blkL, D.blk] at hn ⊢
    have hn' : D.blkL (dss.map D.agg) ≤ n := by clear ih k; omega
    obtain ⟨l, k1, k2, k3, k4⟩ := vals_of ih dss k hn'
    refine ⟨l, k1, .cons (Wk.ro (by simp [k2]) fun j e1 e2 he1 he2 => ?_) .nil, by clear ih k k4 hn; omega⟩
    simp only [List.getElem?_map, Option.map_eq_some_iff] at he1 he2
    obtain ⟨d1, hd1, rfl⟩ := he1
    obtain ⟨x1, hx1, rfl⟩ := he2
    have q := k4 j d1 x1 hd1 hx1
    rw [Val.cells]
    exact q
theorem val_rd : ∀ (n : Nat) (ds : List D), Rd Try.prog 28 ds → D.blkL ds ≤ n → ∃ v : Val, v.wf ∧ WkL ds v.cs ∧ v.sz ≤ D.blkL ds := by
  intro n
  induction n with
  | zero =>
    intro ds h hn
    have h := Rd.fields Try.underlying28 h
    obtain ⟨a0, b0, rfl, h0, h⟩ := h
    obtain ⟨x0, rfl, _, _⟩ := Rd.int_inv Try.underlying5 h0
    rw [D.blkL_append] at hn
    simp [D.blkL, D.blk] at hn
  | succ n ih =>
    intro ds h hn
    have h := Rd.fields Try.underlying28 h
    obtain ⟨a0, b0, rfl, h0, h⟩ := h
    obtain ⟨a1, b1, rfl, h1, h⟩ := h
    obtain ⟨a2, b2, rfl, h2, h⟩ := h
    obtain ⟨a3, b3, rfl, h3, h⟩ := h
    obtain rfl : b3 = [] := h
    obtain ⟨x0, rfl, l0, u0⟩ := Rd.int_inv Try.underlying5 h0
    obtain ⟨x1, rfl, l1, u1⟩ := Rd.int_inv Try.underlying22 h1
    obtain ⟨x2, rfl, s2⟩ := Rd.str_inv Try.underlying9 h2
    simp only [D.blkL_append, D.blkL, D.blk] at hn ⊢
    obtain ⟨l, k1, k2, k3⟩ := slice_rd ih h3 (by omega)
    refine ⟨.mk x0 x1 x2 l, ⟨?_, k1⟩, ?_, ?_⟩
    · simp [IntKind.min, IntKind.max, IntKind.signed, IntKind.bits] at l0 u0 l1 u1
      omega
    · simp only [List.cons_append, List.nil_append, List.append_nil, Val.cs, Val.kind_mk, Val.num_mk, Val.text_mk, Val.kids_mk]
      exact .cons (.refl _) (.cons (.refl _) (.cons (.refl _) k2))
    · simp only [Val.sz]; omega
theorem val_arg {d : D} (h : Arg Try.prog 28 d) : ∃ v : Val, v.wf ∧ Wk d v.d ∧ v.sz ≤ d.blk := by
  obtain ⟨ds, h1, h3⟩ := h.cells ag28'
  have e : d = .agg ds := h3
  subst e
  obtain ⟨v, k1, k2, k3⟩ := val_rd _ ds h1 (Nat.le_refl _)
  refine ⟨v, k1, ?_, ?_⟩
  · have := Wk.agg k2
    rw [Val.fold, Val.eta] at this
    exact this
  · rw [D.blk]; omega
theorem ag23' : aggB Try.prog 23 = some false := by kernel_rfl
theorem vals_arg {d : D} (h : Arg Try.prog 23 d) : ∃ l : List Val, Val.wfL l ∧ Wk d (.ro false (l.map Val.d)) ∧ Val.szL l ≤ d.blk := by
  obtain ⟨ds, h1, h3⟩ := h.cells ag23'
  obtain ⟨l, k1, k2, k3⟩ := slice_rd (fun ds h _ => val_rd _ ds h (Nat.le_refl _)) h1 (Nat.le_succ (D.blkL ds))
  match ds, k2.1, h3 with
  | [y], _, h3 =>
    have e : d = y := h3
    subst e
    refine ⟨l, k1, k2.2 0 d _ rfl rfl, ?_⟩
    simp only [D.blkL] at k3; omega
end Go.Bw.R1

namespace Go.Bw.R1
set_option maxRecDepth 5000
open Go Go.Bw Go.Proofs
/-- how large values are, by Large -/
def lgS : List Val → Nat
  | [] => 0
  | v :: l => v.items + v.text.size / 8 + lgS l
theorem lgS_app : ∀ a b : List Val, lgS (a ++ b) = lgS a + lgS b
  | [], b => by simp [lgS]
  | v :: a, b => by simp only [List.cons_append, lgS, lgS_app a b]; omega
theorem lgS_sz : ∀ l : List Val, lgS l ≤ 2 * Val.szL l
  | [] => Nat.le_refl _
  | v :: l => by have := items_sz v; have := lgS_sz l; have := Val.sz_eq v; simp only [lgS, Val.szL]; omega
theorem lgS_take (l : List Val) (i : Nat) : lgS (l.take i) ≤ 2 * Val.szL l := by
  have := lgS_sz l
  have e : lgS l = lgS (l.take i) + lgS (l.drop i) := by rw [← lgS_app, List.take_append_drop]
  omega
theorem lgS_step {l : List Val} {i : Nat} {x : Val} (h : l[i]? = some x) : lgS (l.take (i + 1)) = lgS (l.take i) + (x.items + x.text.size / 8) := by
  rw [take_snoc h, lgS_app]; simp [lgS]
theorem tdiv8 (n : Nat) : ((n : Int)).tdiv 8 = ((n / 8 : Nat) : Int) := by
  rw [Int.tdiv_eq_ediv_of_nonneg (by omega)]; omega
set_option maxHeartbeats 1000000 in
theorem large_c (l : List Val) (hs : Val.szL l ≤ 4000000) : EV 12 [.ro false (l.map Val.d)] [] = some (.ret (B (decide (8192 < lgS l))), []) := by
  have hl := szL_len l
  refine (ev_body ⟨[], [(0, [0, 3, 4])], [(5, [(0, 0, false), (1, 0, false), (2, 0, false), (3, 0, false), (4, 0, false), (5, 0, false), (6, 0, false), (7, 0, false), (8, 0, false), (9, 0, false), (10, 0, false), (11, 0, false), (12, 0, false), (13, 0, false), (14, 0, false), (15, 0, false)])], false, [], noIt⟩ [.tmp 2] rfl Try.func12 rfl rfl rfl (by kernel_rfl) (by show 1 ≤ 28; decide)).trans ?_
  simp +contextual (maxSteps := 10000000) only [↓reduceIte, go_sem, Nat.reduceEqDiff, Nat.reduceAdd, Nat.reduceSub, Nat.reduceMul, Nat.reduceLeDiff, Nat.reduceLT, Nat.reduceBEq, Nat.reduceDiv, Nat.reduceMod, Int.reduceLE, Int.reduceLT, Int.reduceEq, Int.reduceBEq, Int.reduceBNe, Int.reduceAdd, Int.reduceSub, Int.reduceNeg, Int.reduceToNat, Int.reduceMul, Int.reducePow, Nat.reducePow, reduceCtorEq]
  refine lpK_inv (fun m0 f es => ∃ (i : Nat) (j n : Int), j = i ∧ n = lgS (l.take i) ∧ i + m0 = l.length ∧ f = [(0, .ro false (l.map Val.d)), (3, I n), (4, I j)] ∧ es = []) l.length ⟨0, 0, 0, rfl, by simp [lgS], by omega, rfl, rfl⟩ ?_
  rintro m0 _ _ ⟨i, j, n, hj, hn, hi, rfl, rfl⟩ ih
  rcases Nat.lt_or_ge i l.length with hlt | hge
  · obtain ⟨x, hx⟩ := get_lt hlt
    have hlt' : decide (j < l.length) = true := by simp <;> omega
    have hxm := szL_in (List.mem_of_getElem? hx)
    have h1 := ritems_c _ x (Nat.le_refl _) (by omega)
    have g1 : l[j.toNat]? = some x := by rw [show j.toNat = i by omega]; exact hx
    have hstep := lgS_step hx
    have hb := lgS_take l (i + 1)
    have hz := Val.sz_eq x
    simp +contextual (maxSteps := 10000000) only [↓reduceIte, go_sem, Nat.reduceEqDiff, Nat.reduceAdd, Nat.reduceSub, Nat.reduceMul, Nat.reduceLeDiff, Nat.reduceLT, Nat.reduceBEq, Nat.reduceDiv, Nat.reduceMod, Int.reduceLE, Int.reduceLT, Int.reduceEq, Int.reduceBEq, Int.reduceBNe, Int.reduceAdd, Int.reduceSub, Int.reduceNeg, Int.reduceToNat, Int.reduceMul, Int.reducePow, Nat.reducePow, reduceCtorEq, hlt', g1, h1, tdiv8, wrap_i64 (n := ((x.text.size / 8 : Nat) : Int)) (by omega) (by omega), show 0 ≤ j by omega, show j < l.length by omega, wrap_i64 (n := j + 1) (by omega) (by omega), wrap_i64 (n := n + x.items) (by omega) (by omega), wrap_i64 (n := n + x.items + (x.text.size / 8 : Nat)) (by omega) (by omega)]
    exact ih (m0 - 1) _ _ (by omega) ⟨i + 1, _, _, by omega, by omega, by omega, rfl, rfl⟩
  · have hlt' : decide (j < l.length) = false := by simp <;> omega
    simp +contextual (maxSteps := 10000000) only [↓reduceIte, go_sem, Nat.reduceEqDiff, Nat.reduceAdd, Nat.reduceSub, Nat.reduceMul, Nat.reduceLeDiff, Nat.reduceLT, Nat.reduceBEq, Nat.reduceDiv, Nat.reduceMod, Int.reduceLE, Int.reduceLT, Int.reduceEq, Int.reduceBEq, Int.reduceBNe, Int.reduceAdd, Int.reduceSub, Int.reduceNeg, Int.reduceToNat, Int.reduceMul, Int.reducePow, Nat.reducePow, reduceCtorEq, hlt']
    have e : decide (8192 < n) = decide (8192 < lgS l) := by
      rw [List.take_of_length_le hge] at hn
      exact decide_eq_decide.2 (by omega)
    rw [e]
theorem large1 (v : Val) (hs : v.sz ≤ 4000000) : EV 12 [.ro false [v.d]] [] = some (.ret (B (decide (8192 < lgS [v]))), []) := large_c [v] (by simp only [Val.szL]; omega)
end Go.Bw.R1

namespace Go.Bw.R1
set_option maxRecDepth 5000
open Go Go.Bw Go.Proofs
theorem own : ownKnob Try.prog.godebug = none := by kernel_rfl
theorem Args.end_ {dl : List D} (h : Args Try.prog [] dl) : dl = [] := List.length_eq_zero_iff.1 h.1
theorem blk_one {d : D} {n : Nat} (h : D.blkL [d] ≤ n) : d.blk ≤ n := by simp only [D.blkL] at h; omega
theorem u64_arg {d : D} (h : Arg Try.prog 22 d) : ∃ n : Int, (0 ≤ n ∧ n < 18446744073709551616) ∧ Wk d (.sc (.int .u64 n)) := by
  obtain ⟨n, h, hw⟩ := Arg.one (by kernel_rfl) (fun n : Int => IntKind.u64.min ≤ n ∧ n ≤ IntKind.u64.max) (fun n => .sc (.int .u64 n)) (fun ds hd => by
    obtain ⟨n, rfl, h1, h2⟩ := Rd.int_inv Try.underlying22 hd
    exact ⟨n, ⟨h1, h2⟩, .refl _⟩) h
  simp [IntKind.min, IntKind.max, IntKind.signed, IntKind.bits] at h
  exact ⟨n, by omega, hw⟩
theorem str_arg {d : D} (h : Arg Try.prog 9 d) : ∃ s : ByteArray, Wk d (.sc (.string s)) ∧ s.size + 1 ≤ d.blk := by
  obtain ⟨s, _, hw, hb⟩ := Arg.oneW (fun s : ByteArray => s.size + 1) (by kernel_rfl) (fun _ => True) (fun s => .sc (.string s)) (fun ds hd => by
    obtain ⟨s, rfl, _⟩ := Rd.str_inv Try.underlying9 hd
    exact ⟨s, trivial, .refl _, by simp [D.blkL, D.blk]⟩) h
  exact ⟨s, hw, hb⟩
theorem u8_arg {d : D} (h : Arg Try.prog 5 d) : ∃ n : Int, (0 ≤ n ∧ n < 256) ∧ Wk d (.sc (.int .u8 n)) := by
  obtain ⟨n, h, hw⟩ := Arg.one (by kernel_rfl) (fun n : Int => IntKind.u8.min ≤ n ∧ n ≤ IntKind.u8.max) (fun n => .sc (.int .u8 n)) (fun ds hd => by
    obtain ⟨n, rfl, h1, h2⟩ := Rd.int_inv Try.underlying5 hd
    exact ⟨n, ⟨h1, h2⟩, .refl _⟩) h
  simp [IntKind.min, IntKind.max, IntKind.signed, IntKind.bits] at h
  exact ⟨n, by omega, hw⟩
theorem int_arg {d : D} (h : Arg Try.prog 3 d) : ∃ n : Int, (-9223372036854775808 ≤ n ∧ n ≤ 9223372036854775807) ∧ Wk d (.sc (.int .i64 n)) := by
  obtain ⟨n, h, hw⟩ := Arg.one (by kernel_rfl) (fun n : Int => IntKind.i64.min ≤ n ∧ n ≤ IntKind.i64.max) (fun n => .sc (.int .i64 n)) (fun ds hd => by
    obtain ⟨n, rfl, h1, h2⟩ := Rd.int_inv Try.underlying3 hd
    exact ⟨n, ⟨h1, h2⟩, .refl _⟩) h
  simp [IntKind.min, IntKind.max, IntKind.signed, IntKind.bits] at h
  exact ⟨n, by omega, hw⟩
end Go.Bw.R1

namespace Go.Bw.R1
set_option maxRecDepth 5000
open Go Go.Bw Go.Proofs
abbrev U8 (n : Int) : D := .sc (.int .u8 n)
abbrev U64 (n : Int) : D := .sc (.int .u64 n)
abbrev Sx (t : ByteArray) : D := .sc (.string t)
abbrev u8L (ks : List Int) : List D := ks.map fun n => D.sc (.int .u8 n)
theorem u8L_refs (l : List Int) : D.refsL (l.map fun n => D.sc (.int .u8 n)) = [] := nums_refsL .u8 l
theorem u8L_can (l : List Int) : D.canL (l.map fun n => D.sc (.int .u8 n)) = l.map fun n => D.sc (.int .u8 n) := nums_canL .u8 l
attribute [go_sem] u8L_refs u8L_can
/-- where a number stands first -/
def idxF (k : Int) : List Int → Int → Int
  | [], _ => -1
  | x :: r, i => if k = x then i else idxF k r (i + 1)
theorem idxF_mem (k : Int) : ∀ (l : List Int) (i : Int), 0 ≤ i → decide (0 ≤ idxF k l i) = decide (k ∈ l)
  | [], i, h => by simp [idxF]
  | x :: r, i, h => by
    simp only [idxF]
    split
    · rename_i e; subst e; simp [h]
    · rename_i e
      rw [idxF_mem k r (i + 1) (by omega)]
      simp [e]
set_option maxHeartbeats 1000000 in
theorem index_c (ks : List Int) (k : Int) (hl : ks.length ≤ 4000000) : EV 114 [.ro false (u8L ks), U8 k] [] = some (.ret (I (idxF k ks 0)), []) := by
  refine (ev_body ⟨[], [(0, [0, 1, 7, 8])], [], false, [], noIt⟩ [.tmp 4] rfl Try.func114 rfl rfl rfl (by kernel_rfl) (by show 2 ≤ 19; decide)).trans ?_
  simp +contextual (maxSteps := 10000000) only [↓reduceIte, go_sem, Nat.reduceEqDiff, Nat.reduceAdd, Nat.reduceSub, Nat.reduceMul, Nat.reduceLeDiff, Nat.reduceLT, Nat.reduceBEq, Nat.reduceDiv, Nat.reduceMod, Int.reduceLE, Int.reduceLT, Int.reduceEq, Int.reduceBEq, Int.reduceBNe, Int.reduceAdd, Int.reduceSub, Int.reduceNeg, Int.reduceToNat, Int.reduceMul, Int.reducePow, Nat.reducePow, reduceCtorEq]
  refine lpK_inv (fun m0 f es => ∃ (i : Nat) (j : Int), j = i ∧ i + m0 = ks.length ∧ idxF k ks 0 = idxF k (ks.drop i) j ∧ f = [(0, .ro false (u8L ks)), (1, U8 k), (7, I ks.length), (8, I j)] ∧ es = []) ks.length ⟨0, 0, rfl, by omega, rfl, rfl, rfl⟩ ?_
  rintro m0 _ _ ⟨i, j, hj, hi, hd, rfl, rfl⟩ ih
  rcases Nat.lt_or_ge i ks.length with hlt | hge
  · obtain ⟨x, hx⟩ := get_lt hlt
    have hlt' : decide (j < ks.length) = true := by simp <;> omega
    have g1 : ks[j.toNat]? = some x := by rw [show j.toNat = i by omega]; exact hx
    obtain ⟨p1, q1⟩ := List.getElem?_eq_some_iff.1 hx
    rw [List.drop_eq_getElem_cons p1, q1, idxF] at hd
    simp +contextual (maxSteps := 10000000) only [↓reduceIte, go_sem, Nat.reduceEqDiff, Nat.reduceAdd, Nat.reduceSub, Nat.reduceMul, Nat.reduceLeDiff, Nat.reduceLT, Nat.reduceBEq, Nat.reduceDiv, Nat.reduceMod, Int.reduceLE, Int.reduceLT, Int.reduceEq, Int.reduceBEq, Int.reduceBNe, Int.reduceAdd, Int.reduceSub, Int.reduceNeg, Int.reduceToNat, Int.reduceMul, Int.reducePow, Nat.reducePow, reduceCtorEq, hlt', g1, show 0 ≤ j by omega, show j < ks.length by omega, wrap_i64 (n := j + 1) (by omega) (by omega)]
    refine ite_intro (fun h => ?_) (fun h => ?_)
    · rw [hd, if_pos (by simpa using h)]
    · rw [if_neg (by simpa using h)] at hd
      exact ih (m0 - 1) _ _ (by omega) ⟨i + 1, _, by omega, by omega, hd, rfl, rfl⟩
  · have hlt' : decide (j < ks.length) = false := by simp <;> omega
    rw [List.drop_eq_nil_of_le hge, idxF] at hd
    simp +contextual (maxSteps := 10000000) only [↓reduceIte, go_sem, Nat.reduceEqDiff, Nat.reduceAdd, Nat.reduceSub, Nat.reduceMul, Nat.reduceLeDiff, Nat.reduceLT, Nat.reduceBEq, Nat.reduceDiv, Nat.reduceMod, Int.reduceLE, Int.reduceLT, Int.reduceEq, Int.reduceBEq, Int.reduceBNe, Int.reduceAdd, Int.reduceSub, Int.reduceNeg, Int.reduceToNat, Int.reduceMul, Int.reducePow, Nat.reducePow, reduceCtorEq, hlt', hd]
theorem contains_c (ks : List Int) (k : Int) (hl : ks.length ≤ 4000000) : EV 87 [.ro false (u8L ks), U8 k] [] = some (.ret (B (decide (k ∈ ks))), []) := by
  refine (ev_body ⟨[], [], [], false, [], noIt⟩ [.tmp 4] rfl Try.func87 rfl rfl rfl (by kernel_rfl) (by show 2 ≤ 9; decide)).trans ?_
  have h := index_c ks k hl
  simp +contextual (maxSteps := 10000000) only [↓reduceIte, go_sem, Nat.reduceEqDiff, Nat.reduceAdd, Nat.reduceSub, Nat.reduceMul, Nat.reduceLeDiff, Nat.reduceLT, Nat.reduceBEq, Nat.reduceDiv, Nat.reduceMod, Int.reduceLE, Int.reduceLT, Int.reduceEq, Int.reduceBEq, Int.reduceBNe, Int.reduceAdd, Int.reduceSub, Int.reduceNeg, Int.reduceToNat, Int.reduceMul, Int.reducePow, Nat.reducePow, reduceCtorEq, h]
  rw [idxF_mem k ks 0 (Int.le_refl _)]
theorem of_c (ks : List Int) : EV 52 [.ro false (u8L ks)] [] = some (.ret (.fn (.func 86) [] [.rp [.ro false (u8L ks)]]), []) := by
  refine (ev_body ⟨[1], [], [], true, [], noIt⟩ [.tmp 2] rfl Try.func52 rfl rfl rfl (by kernel_rfl) (by show 1 ≤ 4; decide)).trans ?_
  simp +contextual (maxSteps := 10000000) only [↓reduceIte, go_sem, Nat.reduceEqDiff, Nat.reduceAdd, Nat.reduceSub, Nat.reduceMul, Nat.reduceLeDiff, Nat.reduceLT, Nat.reduceBEq, Nat.reduceDiv, Nat.reduceMod, Int.reduceLE, Int.reduceLT, Int.reduceEq, Int.reduceBEq, Int.reduceBNe, Int.reduceAdd, Int.reduceSub, Int.reduceNeg, Int.reduceToNat, Int.reduceMul, Int.reducePow, Nat.reducePow, reduceCtorEq]
theorem of1_c (ks : List Int) (v : Val) (hl : ks.length ≤ 4000000) : EV 86 [v.d, .rp [.ro false (u8L ks)]] [] = some (.ret (B (decide (v.kind ∈ ks))), []) := by
  refine (ev_body ⟨[2], [], [], false, [], noIt⟩ [.tmp 3] rfl Try.func86 rfl rfl rfl (by kernel_rfl) (by show 2 ≤ 8; decide)).trans ?_
  have h := contains_c ks v.kind hl
  simp +contextual (maxSteps := 10000000) only [↓reduceIte, go_sem, Nat.reduceEqDiff, Nat.reduceAdd, Nat.reduceSub, Nat.reduceMul, Nat.reduceLeDiff, Nat.reduceLT, Nat.reduceBEq, Nat.reduceDiv, Nat.reduceMod, Int.reduceLE, Int.reduceLT, Int.reduceEq, Int.reduceBEq, Int.reduceBNe, Int.reduceAdd, Int.reduceSub, Int.reduceNeg, Int.reduceToNat, Int.reduceMul, Int.reducePow, Nat.reducePow, reduceCtorEq, h]
end Go.Bw.R1

namespace Go.Bw.R1
set_option maxRecDepth 5000
open Go Go.Bw Go.Proofs
/-- what stands at a place of fields -/
def atS (l : List Val) (i : Int) : Option Val := if i < 0 then none else match l[i.toNat]? with | some x => if x.kind = 1 then none else some x | none => none
abbrev vN : Val := .mk 1 0 ⟨#[]⟩ []
abbrev fRow (l : List Val) (sp : Bool) : Option En := some ⟨0, [.ro false (l.map Val.d), B sp]⟩
theorem atS_len {l : List Val} {i : Int} {x : Val} (h : atS l i = some x) : 0 ≤ i ∧ i < l.length ∧ l[i.toNat]? = some x ∧ x.kind ≠ 1 := by
  unfold atS at h
  split at h
  · cases h
  · split at h
    · rename_i y hy
      split at h
      · cases h
      · rename_i hk
        simp only [Option.some.injEq] at h
        subst h
        have := (List.getElem?_eq_some_iff.1 hy).1
        exact ⟨by omega, by omega, hy, hk⟩
    · cases h
set_option maxHeartbeats 1000000 in
theorem at_some (l : List Val) (sp : Bool) (i : Int) (x : Val) (h : atS l i = some x) : EV 76 [.ptr 0 0 0, I i] [fRow l sp] = some (.ret (.tup [x.d, B true]), [fRow l sp]) := by
  obtain ⟨h1, h2, h3, h4⟩ := atS_len h
  have e1 : decide (i < 0) = false := by simp; omega
  have e2 : decide ((l.length : Int) ≤ i) = false := by simp; omega
  have e3 : (x.kind == 1) = false := by simpa using h4
  refine (ev_body ⟨[], [], [], true, [], noIt⟩ [.cell 4 28, .tmp 5] rfl Try.func76 rfl rfl rfl (by kernel_rfl) (by show 2 ≤ 40; decide)).trans ?_
  simp +contextual (maxSteps := 10000000) only [↓reduceIte, go_sem, Nat.reduceEqDiff, Nat.reduceAdd, Nat.reduceSub, Nat.reduceMul, Nat.reduceLeDiff, Nat.reduceLT, Nat.reduceBEq, Nat.reduceDiv, Nat.reduceMod, Int.reduceLE, Int.reduceLT, Int.reduceEq, Int.reduceBEq, Int.reduceBNe, Int.reduceAdd, Int.reduceSub, Int.reduceNeg, Int.reduceToNat, Int.reduceMul, Int.reducePow, Nat.reducePow, reduceCtorEq, e1, e2, e3, h3, h1, h2]
set_option maxHeartbeats 1000000 in
theorem at_none (l : List Val) (sp : Bool) (i : Int) (h : atS l i = none) : EV 76 [.ptr 0 0 0, I i] [fRow l sp] = some (.ret (.tup [vN.d, B false]), [fRow l sp]) := by
  refine (ev_body ⟨[], [], [], true, [], noIt⟩ [.cell 4 28, .tmp 5] rfl Try.func76 rfl rfl rfl (by kernel_rfl) (by show 2 ≤ 40; decide)).trans ?_
  rcases Int.lt_or_le i 0 with hi | hi
  · have e1 : decide (i < 0) = true := by simpa using hi
    simp +contextual (maxSteps := 10000000) only [↓reduceIte, go_sem, Nat.reduceEqDiff, Nat.reduceAdd, Nat.reduceSub, Nat.reduceMul, Nat.reduceLeDiff, Nat.reduceLT, Nat.reduceBEq, Nat.reduceDiv, Nat.reduceMod, Int.reduceLE, Int.reduceLT, Int.reduceEq, Int.reduceBEq, Int.reduceBNe, Int.reduceAdd, Int.reduceSub, Int.reduceNeg, Int.reduceToNat, Int.reduceMul, Int.reducePow, Nat.reducePow, reduceCtorEq, e1, null_c]
  · have e1 : decide (i < 0) = false := by simp; omega
    unfold atS at h
    rw [if_neg (by omega)] at h
    split at h
    · rename_i y hy
      split at h
      · rename_i hk
        have := (List.getElem?_eq_some_iff.1 hy).1
        have e2 : decide ((l.length : Int) ≤ i) = false := by simp; omega
        have e3 : (y.kind == 1) = true := by simpa using hk
        simp +contextual (maxSteps := 10000000) only [↓reduceIte, go_sem, Nat.reduceEqDiff, Nat.reduceAdd, Nat.reduceSub, Nat.reduceMul, Nat.reduceLeDiff, Nat.reduceLT, Nat.reduceBEq, Nat.reduceDiv, Nat.reduceMod, Int.reduceLE, Int.reduceLT, Int.reduceEq, Int.reduceBEq, Int.reduceBNe, Int.reduceAdd, Int.reduceSub, Int.reduceNeg, Int.reduceToNat, Int.reduceMul, Int.reducePow, Nat.reducePow, reduceCtorEq, e1, e2, e3, hy, hi, show i < l.length by omega, null_c]
      · cases h
    · rename_i hn
      have := List.getElem?_eq_none_iff.1 hn
      have e2 : decide ((l.length : Int) ≤ i) = true := by simp; omega
      simp +contextual (maxSteps := 10000000) only [↓reduceIte, go_sem, Nat.reduceEqDiff, Nat.reduceAdd, Nat.reduceSub, Nat.reduceMul, Nat.reduceLeDiff, Nat.reduceLT, Nat.reduceBEq, Nat.reduceDiv, Nat.reduceMod, Int.reduceLE, Int.reduceLT, Int.reduceEq, Int.reduceBEq, Int.reduceBNe, Int.reduceAdd, Int.reduceSub, Int.reduceNeg, Int.reduceToNat, Int.reduceMul, Int.reducePow, Nat.reducePow, reduceCtorEq, e1, e2, null_c]
theorem at_nil (i : Int) : EV 76 [.nilp, I i] [] = some (.ret (.tup [vN.d, B false]), []) := by
  refine (ev_body ⟨[], [], [], true, [], noIt⟩ [.cell 4 28, .tmp 5] rfl Try.func76 rfl rfl rfl (by kernel_rfl) (by show 2 ≤ 40; decide)).trans ?_
  simp +contextual (maxSteps := 10000000) only [↓reduceIte, go_sem, Nat.reduceEqDiff, Nat.reduceAdd, Nat.reduceSub, Nat.reduceMul, Nat.reduceLeDiff, Nat.reduceLT, Nat.reduceBEq, Nat.reduceDiv, Nat.reduceMod, Int.reduceLE, Int.reduceLT, Int.reduceEq, Int.reduceBEq, Int.reduceBNe, Int.reduceAdd, Int.reduceSub, Int.reduceNeg, Int.reduceToNat, Int.reduceMul, Int.reducePow, Nat.reducePow, reduceCtorEq, null_c]
theorem spoil_c (l : List Val) (sp : Bool) : EV 32 [.ptr 0 0 0] [fRow l sp] = some (.ret (.tup []), [fRow l true]) := by
  refine (ev_body ⟨[], [], [], false, [], noIt⟩ [] rfl Try.func32 rfl rfl rfl (by kernel_rfl) (by show 1 ≤ 7; decide)).trans ?_
  simp +contextual (maxSteps := 10000000) only [↓reduceIte, go_sem, Nat.reduceEqDiff, Nat.reduceAdd, Nat.reduceSub, Nat.reduceMul, Nat.reduceLeDiff, Nat.reduceLT, Nat.reduceBEq, Nat.reduceDiv, Nat.reduceMod, Int.reduceLE, Int.reduceLT, Int.reduceEq, Int.reduceBEq, Int.reduceBNe, Int.reduceAdd, Int.reduceSub, Int.reduceNeg, Int.reduceToNat, Int.reduceMul, Int.reducePow, Nat.reducePow, reduceCtorEq]
theorem spoil_nil : EV 32 [.nilp] [] = some (.ret (.tup []), []) := by
  refine (ev_body ⟨[], [], [], false, [], noIt⟩ [] rfl Try.func32 rfl rfl rfl (by kernel_rfl) (by show 1 ≤ 7; decide)).trans ?_
  simp +contextual (maxSteps := 10000000) only [↓reduceIte, go_sem, Nat.reduceEqDiff, Nat.reduceAdd, Nat.reduceSub, Nat.reduceMul, Nat.reduceLeDiff, Nat.reduceLT, Nat.reduceBEq, Nat.reduceDiv, Nat.reduceMod, Int.reduceLE, Int.reduceLT, Int.reduceEq, Int.reduceBEq, Int.reduceBNe, Int.reduceAdd, Int.reduceSub, Int.reduceNeg, Int.reduceToNat, Int.reduceMul, Int.reducePow, Nat.reducePow, reduceCtorEq]
theorem has_c (l : List Val) (sp : Bool) (i : Int) : EV 43 [.ptr 0 0 0, I i] [fRow l sp] = some (.ret (B (atS l i).isSome), [fRow l sp]) := by
  refine (ev_body ⟨[], [], [], false, [], noIt⟩ [.tmp 4] rfl Try.func43 rfl rfl rfl (by kernel_rfl) (by show 2 ≤ 14; decide)).trans ?_
  cases h : atS l i with
  | none => simp +contextual (maxSteps := 10000000) only [↓reduceIte, go_sem, Nat.reduceEqDiff, Nat.reduceAdd, Nat.reduceSub, Nat.reduceMul, Nat.reduceLeDiff, Nat.reduceLT, Nat.reduceBEq, Nat.reduceDiv, Nat.reduceMod, Int.reduceLE, Int.reduceLT, Int.reduceEq, Int.reduceBEq, Int.reduceBNe, Int.reduceAdd, Int.reduceSub, Int.reduceNeg, Int.reduceToNat, Int.reduceMul, Int.reducePow, Nat.reducePow, reduceCtorEq, at_none l sp i h, Option.isSome]
  | some x => simp +contextual (maxSteps := 10000000) only [↓reduceIte, go_sem, Nat.reduceEqDiff, Nat.reduceAdd, Nat.reduceSub, Nat.reduceMul, Nat.reduceLeDiff, Nat.reduceLT, Nat.reduceBEq, Nat.reduceDiv, Nat.reduceMod, Int.reduceLE, Int.reduceLT, Int.reduceEq, Int.reduceBEq, Int.reduceBNe, Int.reduceAdd, Int.reduceSub, Int.reduceNeg, Int.reduceToNat, Int.reduceMul, Int.reducePow, Nat.reducePow, reduceCtorEq, at_some l sp i x h, Option.isSome]
theorem has_nil (i : Int) : EV 43 [.nilp, I i] [] = some (.ret (B false), []) := by
  refine (ev_body ⟨[], [], [], false, [], noIt⟩ [.tmp 4] rfl Try.func43 rfl rfl rfl (by kernel_rfl) (by show 2 ≤ 14; decide)).trans ?_
  simp +contextual (maxSteps := 10000000) only [↓reduceIte, go_sem, Nat.reduceEqDiff, Nat.reduceAdd, Nat.reduceSub, Nat.reduceMul, Nat.reduceLeDiff, Nat.reduceLT, Nat.reduceBEq, Nat.reduceDiv, Nat.reduceMod, Int.reduceLE, Int.reduceLT, Int.reduceEq, Int.reduceBEq, Int.reduceBNe, Int.reduceAdd, Int.reduceSub, Int.reduceNeg, Int.reduceToNat, Int.reduceMul, Int.reducePow, Nat.reducePow, reduceCtorEq, at_nil]
theorem done_c (l : List Val) (sp : Bool) (n : Int) : EV 24 [.ptr 0 0 0, I n] [fRow l sp] = some (.ret (I (if sp || decide (n < l.length) then 6 else 0)), [fRow l sp]) := by
  refine (ev_body ⟨[], [], [], false, [], noIt⟩ [.tmp 4] rfl Try.func24 rfl rfl rfl (by kernel_rfl) (by show 2 ≤ 22; decide)).trans ?_
  cases sp
  · simp +contextual (maxSteps := 10000000) only [↓reduceIte, go_sem, Nat.reduceEqDiff, Nat.reduceAdd, Nat.reduceSub, Nat.reduceMul, Nat.reduceLeDiff, Nat.reduceLT, Nat.reduceBEq, Nat.reduceDiv, Nat.reduceMod, Int.reduceLE, Int.reduceLT, Int.reduceEq, Int.reduceBEq, Int.reduceBNe, Int.reduceAdd, Int.reduceSub, Int.reduceNeg, Int.reduceToNat, Int.reduceMul, Int.reducePow, Nat.reducePow, reduceCtorEq]
    cases decide (n < l.length) <;> rfl
  · simp +contextual (maxSteps := 10000000) only [↓reduceIte, go_sem, Nat.reduceEqDiff, Nat.reduceAdd, Nat.reduceSub, Nat.reduceMul, Nat.reduceLeDiff, Nat.reduceLT, Nat.reduceBEq, Nat.reduceDiv, Nat.reduceMod, Int.reduceLE, Int.reduceLT, Int.reduceEq, Int.reduceBEq, Int.reduceBNe, Int.reduceAdd, Int.reduceSub, Int.reduceNeg, Int.reduceToNat, Int.reduceMul, Int.reducePow, Nat.reducePow, reduceCtorEq]
theorem done_nil (n : Int) : EV 24 [.nilp, I n] [] = some (.ret (I 2), []) := by
  refine (ev_body ⟨[], [], [], false, [], noIt⟩ [.tmp 4] rfl Try.func24 rfl rfl rfl (by kernel_rfl) (by show 2 ≤ 22; decide)).trans ?_
  simp +contextual (maxSteps := 10000000) only [↓reduceIte, go_sem, Nat.reduceEqDiff, Nat.reduceAdd, Nat.reduceSub, Nat.reduceMul, Nat.reduceLeDiff, Nat.reduceLT, Nat.reduceBEq, Nat.reduceDiv, Nat.reduceMod, Int.reduceLE, Int.reduceLT, Int.reduceEq, Int.reduceBEq, Int.reduceBNe, Int.reduceAdd, Int.reduceSub, Int.reduceNeg, Int.reduceToNat, Int.reduceMul, Int.reducePow, Nat.reducePow, reduceCtorEq]
def calledS (d : Val) (code : Int) (name : ByteArray) : Bool := (d.kind == 6 && d.num == code) || (d.kind == 21 && decide (d.text = name))
theorem fcalled_c (d : Val) (code : Int) (name : ByteArray) : EV 58 [d.d, U64 code, Sx name] [] = some (.ret (B (calledS d code name)), []) := by
  refine (ev_body ⟨[3], [], [], false, [], noIt⟩ [.tmp 6] rfl Try.func58 rfl rfl rfl (by kernel_rfl) (by show 3 ≤ 27; decide)).trans ?_
  simp +contextual (maxSteps := 10000000) only [↓reduceIte, go_sem, Nat.reduceEqDiff, Nat.reduceAdd, Nat.reduceSub, Nat.reduceMul, Nat.reduceLeDiff, Nat.reduceLT, Nat.reduceBEq, Nat.reduceDiv, Nat.reduceMod, Int.reduceLE, Int.reduceLT, Int.reduceEq, Int.reduceBEq, Int.reduceBNe, Int.reduceAdd, Int.reduceSub, Int.reduceNeg, Int.reduceToNat, Int.reduceMul, Int.reducePow, Nat.reducePow, reduceCtorEq]
  unfold calledS
  cases d.kind == 6 <;> cases d.num == code <;> cases d.kind == 21 <;> rfl
end Go.Bw.R1

namespace Go.Bw.R1
set_option maxRecDepth 5000
open Go Go.Bw Go.Proofs
theorem strs_refs (l : List ByteArray) : D.refsL (l.map fun s => D.sc (.string s)) = [] := by
  induction l with
  | nil => rfl
  | cons a l ih => simp only [List.map_cons, D.refsL, D.refs, ih, List.nil_append]
theorem strs_can (l : List ByteArray) : D.canL (l.map fun s => D.sc (.string s)) = l.map fun s => D.sc (.string s) := by
  rw [D.canL_map, List.map_map]; rfl
attribute [go_sem] strs_refs strs_can
set_option maxHeartbeats 1000000 in
theorem tell_strs_none (rs : List ByteArray) (l : List Val) (sp must : Bool) (i : Int) (fF tF : FuncId) (fc tc : List D) (f1 : D.refsL fc = []) (f2 : fc.map D.canA = fc) (t1 : D.refsL tc = []) (t2 : tc.map D.canA = tc) (h : atS l i = none) :
    EV 56 [.ptr 0 0 0, I i, B must, .nils, .fn (.func fF) [] fc, .fn (.func tF) [] tc] [fRow l sp] = some (.ret (.ro false []), [fRow l (sp || must)]) := by
  refine (ev_body ⟨[], [], [], true, [], noIt⟩ [.tmp 12] rfl Try.func56 rfl rfl rfl (by kernel_rfl) (by show 6 ≤ 44; decide)).trans ?_
  cases must
  · simp +contextual (maxSteps := 10000000) only [↓reduceIte, go_sem, Nat.reduceEqDiff, Nat.reduceAdd, Nat.reduceSub, Nat.reduceMul, Nat.reduceLeDiff, Nat.reduceLT, Nat.reduceBEq, Nat.reduceDiv, Nat.reduceMod, Int.reduceLE, Int.reduceLT, Int.reduceEq, Int.reduceBEq, Int.reduceBNe, Int.reduceAdd, Int.reduceSub, Int.reduceNeg, Int.reduceToNat, Int.reduceMul, Int.reducePow, Nat.reducePow, reduceCtorEq, at_none l sp i h, spoil_c, Bool.or_false]
  · simp +contextual (maxSteps := 10000000) only [↓reduceIte, go_sem, Nat.reduceEqDiff, Nat.reduceAdd, Nat.reduceSub, Nat.reduceMul, Nat.reduceLeDiff, Nat.reduceLT, Nat.reduceBEq, Nat.reduceDiv, Nat.reduceMod, Int.reduceLE, Int.reduceLT, Int.reduceEq, Int.reduceBEq, Int.reduceBNe, Int.reduceAdd, Int.reduceSub, Int.reduceNeg, Int.reduceToNat, Int.reduceMul, Int.reducePow, Nat.reducePow, reduceCtorEq, at_none l sp i h, spoil_c, Bool.or_true]
set_option maxHeartbeats 1000000 in
theorem tell_strs_bad (rs : List ByteArray) (l : List Val) (sp must : Bool) (i : Int) (fF tF : FuncId) (fc tc : List D) (f1 : D.refsL fc = []) (f2 : fc.map D.canA = fc) (t1 : D.refsL tc = []) (t2 : tc.map D.canA = tc) (x : Val) (h : atS l i = some x) (hf : EV fF (x.d :: fc) [] = some (.ret (B false), [])) :
    EV 56 [.ptr 0 0 0, I i, B must, .nils, .fn (.func fF) [] fc, .fn (.func tF) [] tc] [fRow l sp] = some (.ret (.ro false []), [fRow l true]) := by
  refine (ev_body ⟨[], [], [], true, [], noIt⟩ [.tmp 12] rfl Try.func56 rfl rfl rfl (by kernel_rfl) (by show 6 ≤ 44; decide)).trans ?_
  simp +contextual (maxSteps := 10000000) only [↓reduceIte, go_sem, Nat.reduceEqDiff, Nat.reduceAdd, Nat.reduceSub, Nat.reduceMul, Nat.reduceLeDiff, Nat.reduceLT, Nat.reduceBEq, Nat.reduceDiv, Nat.reduceMod, Int.reduceLE, Int.reduceLT, Int.reduceEq, Int.reduceBEq, Int.reduceBNe, Int.reduceAdd, Int.reduceSub, Int.reduceNeg, Int.reduceToNat, Int.reduceMul, Int.reducePow, Nat.reducePow, reduceCtorEq, at_some l sp i x h, f1, f2, t1, t2, hf, spoil_c, List.cons_append]
set_option maxHeartbeats 1000000 in
theorem tell_strs_ok (rs : List ByteArray) (l : List Val) (sp must : Bool) (i : Int) (fF tF : FuncId) (fc tc : List D) (f1 : D.refsL fc = []) (f2 : fc.map D.canA = fc) (t1 : D.refsL tc = []) (t2 : tc.map D.canA = tc) (x : Val) (h : atS l i = some x) (hf : EV fF (x.d :: fc) [] = some (.ret (B true), [])) (ht : EV tF (x.d :: tc) [] = some (.ret (.ro false (rs.map fun s => .sc (.string s))), [])) :
    EV 56 [.ptr 0 0 0, I i, B must, .nils, .fn (.func fF) [] fc, .fn (.func tF) [] tc] [fRow l sp] = some (.ret (.ro false (rs.map fun s => .sc (.string s))), [fRow l sp]) := by
  refine (ev_body ⟨[], [], [], true, [], noIt⟩ [.tmp 12] rfl Try.func56 rfl rfl rfl (by kernel_rfl) (by show 6 ≤ 44; decide)).trans ?_
  simp +contextual (maxSteps := 10000000) only [↓reduceIte, go_sem, Nat.reduceEqDiff, Nat.reduceAdd, Nat.reduceSub, Nat.reduceMul, Nat.reduceLeDiff, Nat.reduceLT, Nat.reduceBEq, Nat.reduceDiv, Nat.reduceMod, Int.reduceLE, Int.reduceLT, Int.reduceEq, Int.reduceBEq, Int.reduceBNe, Int.reduceAdd, Int.reduceSub, Int.reduceNeg, Int.reduceToNat, Int.reduceMul, Int.reducePow, Nat.reducePow, reduceCtorEq, at_some l sp i x h, f1, f2, t1, t2, hf, ht, spoil_c, List.cons_append]
set_option maxHeartbeats 1000000 in
theorem tell_num_none (nn rr : Int) (l : List Val) (sp must : Bool) (i : Int) (fF tF : FuncId) (fc tc : List D) (f1 : D.refsL fc = []) (f2 : fc.map D.canA = fc) (t1 : D.refsL tc = []) (t2 : tc.map D.canA = tc) (h : atS l i = none) :
    EV 77 [.ptr 0 0 0, I i, B must, U64 nn, .fn (.func fF) [] fc, .fn (.func tF) [] tc] [fRow l sp] = some (.ret (U64 nn), [fRow l (sp || must)]) := by
  refine (ev_body ⟨[], [], [], false, [], noIt⟩ [.tmp 12] rfl Try.func77 rfl rfl rfl (by kernel_rfl) (by show 6 ≤ 44; decide)).trans ?_
  cases must
  · simp +contextual (maxSteps := 10000000) only [↓reduceIte, go_sem, Nat.reduceEqDiff, Nat.reduceAdd, Nat.reduceSub, Nat.reduceMul, Nat.reduceLeDiff, Nat.reduceLT, Nat.reduceBEq, Nat.reduceDiv, Nat.reduceMod, Int.reduceLE, Int.reduceLT, Int.reduceEq, Int.reduceBEq, Int.reduceBNe, Int.reduceAdd, Int.reduceSub, Int.reduceNeg, Int.reduceToNat, Int.reduceMul, Int.reducePow, Nat.reducePow, reduceCtorEq, at_none l sp i h, spoil_c, Bool.or_false]
  · simp +contextual (maxSteps := 10000000) only [↓reduceIte, go_sem, Nat.reduceEqDiff, Nat.reduceAdd, Nat.reduceSub, Nat.reduceMul, Nat.reduceLeDiff, Nat.reduceLT, Nat.reduceBEq, Nat.reduceDiv, Nat.reduceMod, Int.reduceLE, Int.reduceLT, Int.reduceEq, Int.reduceBEq, Int.reduceBNe, Int.reduceAdd, Int.reduceSub, Int.reduceNeg, Int.reduceToNat, Int.reduceMul, Int.reducePow, Nat.reducePow, reduceCtorEq, at_none l sp i h, spoil_c, Bool.or_true]
set_option maxHeartbeats 1000000 in
theorem tell_num_bad (nn rr : Int) (l : List Val) (sp must : Bool) (i : Int) (fF tF : FuncId) (fc tc : List D) (f1 : D.refsL fc = []) (f2 : fc.map D.canA = fc) (t1 : D.refsL tc = []) (t2 : tc.map D.canA = tc) (x : Val) (h : atS l i = some x) (hf : EV fF (x.d :: fc) [] = some (.ret (B false), [])) :
    EV 77 [.ptr 0 0 0, I i, B must, U64 nn, .fn (.func fF) [] fc, .fn (.func tF) [] tc] [fRow l sp] = some (.ret (U64 nn), [fRow l true]) := by
  refine (ev_body ⟨[], [], [], false, [], noIt⟩ [.tmp 12] rfl Try.func77 rfl rfl rfl (by kernel_rfl) (by show 6 ≤ 44; decide)).trans ?_
  simp +contextual (maxSteps := 10000000) only [↓reduceIte, go_sem, Nat.reduceEqDiff, Nat.reduceAdd, Nat.reduceSub, Nat.reduceMul, Nat.reduceLeDiff, Nat.reduceLT, Nat.reduceBEq, Nat.reduceDiv, Nat.reduceMod, Int.reduceLE, Int.reduceLT, Int.reduceEq, Int.reduceBEq, Int.reduceBNe, Int.reduceAdd, Int.reduceSub, Int.reduceNeg, Int.reduceToNat, Int.reduceMul, Int.reducePow, Nat.reducePow, reduceCtorEq, at_some l sp i x h, f1, f2, t1, t2, hf, spoil_c, List.cons_append]
set_option maxHeartbeats 1000000 in
theorem tell_num_ok (nn rr : Int) (l : List Val) (sp must : Bool) (i : Int) (fF tF : FuncId) (fc tc : List D) (f1 : D.refsL fc = []) (f2 : fc.map D.canA = fc) (t1 : D.refsL tc = []) (t2 : tc.map D.canA = tc) (x : Val) (h : atS l i = some x) (hf : EV fF (x.d :: fc) [] = some (.ret (B true), [])) (ht : EV tF (x.d :: tc) [] = some (.ret (U64 rr), [])) :
    EV 77 [.ptr 0 0 0, I i, B must, U64 nn, .fn (.func fF) [] fc, .fn (.func tF) [] tc] [fRow l sp] = some (.ret (U64 rr), [fRow l sp]) := by
  refine (ev_body ⟨[], [], [], false, [], noIt⟩ [.tmp 12] rfl Try.func77 rfl rfl rfl (by kernel_rfl) (by show 6 ≤ 44; decide)).trans ?_
  simp +contextual (maxSteps := 10000000) only [↓reduceIte, go_sem, Nat.reduceEqDiff, Nat.reduceAdd, Nat.reduceSub, Nat.reduceMul, Nat.reduceLeDiff, Nat.reduceLT, Nat.reduceBEq, Nat.reduceDiv, Nat.reduceMod, Int.reduceLE, Int.reduceLT, Int.reduceEq, Int.reduceBEq, Int.reduceBNe, Int.reduceAdd, Int.reduceSub, Int.reduceNeg, Int.reduceToNat, Int.reduceMul, Int.reducePow, Nat.reducePow, reduceCtorEq, at_some l sp i x h, f1, f2, t1, t2, hf, ht, spoil_c, List.cons_append]
set_option maxHeartbeats 1000000 in
theorem tell_txt_none (nn rr : ByteArray) (l : List Val) (sp must : Bool) (i : Int) (fF tF : FuncId) (fc tc : List D) (f1 : D.refsL fc = []) (f2 : fc.map D.canA = fc) (t1 : D.refsL tc = []) (t2 : tc.map D.canA = tc) (h : atS l i = none) :
    EV 91 [.ptr 0 0 0, I i, B must, Sx nn, .fn (.func fF) [] fc, .fn (.func tF) [] tc] [fRow l sp] = some (.ret (Sx nn), [fRow l (sp || must)]) := by
  refine (ev_body ⟨[], [], [], false, [], noIt⟩ [.tmp 12] rfl Try.func91 rfl rfl rfl (by kernel_rfl) (by show 6 ≤ 44; decide)).trans ?_
  cases must
  · simp +contextual (maxSteps := 10000000) only [↓reduceIte, go_sem, Nat.reduceEqDiff, Nat.reduceAdd, Nat.reduceSub, Nat.reduceMul, Nat.reduceLeDiff, Nat.reduceLT, Nat.reduceBEq, Nat.reduceDiv, Nat.reduceMod, Int.reduceLE, Int.reduceLT, Int.reduceEq, Int.reduceBEq, Int.reduceBNe, Int.reduceAdd, Int.reduceSub, Int.reduceNeg, Int.reduceToNat, Int.reduceMul, Int.reducePow, Nat.reducePow, reduceCtorEq, at_none l sp i h, spoil_c, Bool.or_false]
  · simp +contextual (maxSteps := 10000000) only [↓reduceIte, go_sem, Nat.reduceEqDiff, Nat.reduceAdd, Nat.reduceSub, Nat.reduceMul, Nat.reduceLeDiff, Nat.reduceLT, Nat.reduceBEq, Nat.reduceDiv, Nat.reduceMod, Int.reduceLE, Int.reduceLT, Int.reduceEq, Int.reduceBEq, Int.reduceBNe, Int.reduceAdd, Int.reduceSub, Int.reduceNeg, Int.reduceToNat, Int.reduceMul, Int.reducePow, Nat.reducePow, reduceCtorEq, at_none l sp i h, spoil_c, Bool.or_true]
set_option maxHeartbeats 1000000 in
theorem tell_txt_bad (nn rr : ByteArray) (l : List Val) (sp must : Bool) (i : Int) (fF tF : FuncId) (fc tc : List D) (f1 : D.refsL fc = []) (f2 : fc.map D.canA = fc) (t1 : D.refsL tc = []) (t2 : tc.map D.canA = tc) (x : Val) (h : atS l i = some x) (hf : EV fF (x.d :: fc) [] = some (.ret (B false), [])) :
    EV 91 [.ptr 0 0 0, I i, B must, Sx nn, .fn (.func fF) [] fc, .fn (.func tF) [] tc] [fRow l sp] = some (.ret (Sx nn), [fRow l true]) := by
  refine (ev_body ⟨[], [], [], false, [], noIt⟩ [.tmp 12] rfl Try.func91 rfl rfl rfl (by kernel_rfl) (by show 6 ≤ 44; decide)).trans ?_
  simp +contextual (maxSteps := 10000000) only [↓reduceIte, go_sem, Nat.reduceEqDiff, Nat.reduceAdd, Nat.reduceSub, Nat.reduceMul, Nat.reduceLeDiff, Nat.reduceLT, Nat.reduceBEq, Nat.reduceDiv, Nat.reduceMod, Int.reduceLE, Int.reduceLT, Int.reduceEq, Int.reduceBEq, Int.reduceBNe, Int.reduceAdd, Int.reduceSub, Int.reduceNeg, Int.reduceToNat, Int.reduceMul, Int.reducePow, Nat.reducePow, reduceCtorEq, at_some l sp i x h, f1, f2, t1, t2, hf, spoil_c, List.cons_append]
set_option maxHeartbeats 1000000 in
theorem tell_txt_ok (nn rr : ByteArray) (l : List Val) (sp must : Bool) (i : Int) (fF tF : FuncId) (fc tc : List D) (f1 : D.refsL fc = []) (f2 : fc.map D.canA = fc) (t1 : D.refsL tc = []) (t2 : tc.map D.canA = tc) (x : Val) (h : atS l i = some x) (hf : EV fF (x.d :: fc) [] = some (.ret (B true), [])) (ht : EV tF (x.d :: tc) [] = some (.ret (Sx rr), [])) :
    EV 91 [.ptr 0 0 0, I i, B must, Sx nn, .fn (.func fF) [] fc, .fn (.func tF) [] tc] [fRow l sp] = some (.ret (Sx rr), [fRow l sp]) := by
  refine (ev_body ⟨[], [], [], false, [], noIt⟩ [.tmp 12] rfl Try.func91 rfl rfl rfl (by kernel_rfl) (by show 6 ≤ 44; decide)).trans ?_
  simp +contextual (maxSteps := 10000000) only [↓reduceIte, go_sem, Nat.reduceEqDiff, Nat.reduceAdd, Nat.reduceSub, Nat.reduceMul, Nat.reduceLeDiff, Nat.reduceLT, Nat.reduceBEq, Nat.reduceDiv, Nat.reduceMod, Int.reduceLE, Int.reduceLT, Int.reduceEq, Int.reduceBEq, Int.reduceBNe, Int.reduceAdd, Int.reduceSub, Int.reduceNeg, Int.reduceToNat, Int.reduceMul, Int.reducePow, Nat.reducePow, reduceCtorEq, at_some l sp i x h, f1, f2, t1, t2, hf, ht, spoil_c, List.cons_append]
set_option maxHeartbeats 1000000 in
theorem tell_val_none (nn rr : Val) (l : List Val) (sp must : Bool) (i : Int) (fF tF : FuncId) (fc tc : List D) (f1 : D.refsL fc = []) (f2 : fc.map D.canA = fc) (t1 : D.refsL tc = []) (t2 : tc.map D.canA = tc) (h : atS l i = none) :
    EV 94 [.ptr 0 0 0, I i, B must, nn.d, .fn (.func fF) [] fc, .fn (.func tF) [] tc] [fRow l sp] = some (.ret (nn.d), [fRow l (sp || must)]) := by
  refine (ev_body ⟨[9], [], [], true, [], noIt⟩ [.cell 12 28] rfl Try.func94 rfl rfl rfl (by kernel_rfl) (by show 6 ≤ 44; decide)).trans ?_
  cases must
  · simp +contextual (maxSteps := 10000000) only [↓reduceIte, go_sem, Nat.reduceEqDiff, Nat.reduceAdd, Nat.reduceSub, Nat.reduceMul, Nat.reduceLeDiff, Nat.reduceLT, Nat.reduceBEq, Nat.reduceDiv, Nat.reduceMod, Int.reduceLE, Int.reduceLT, Int.reduceEq, Int.reduceBEq, Int.reduceBNe, Int.reduceAdd, Int.reduceSub, Int.reduceNeg, Int.reduceToNat, Int.reduceMul, Int.reducePow, Nat.reducePow, reduceCtorEq, at_none l sp i h, spoil_c, Bool.or_false]
  · simp +contextual (maxSteps := 10000000) only [↓reduceIte, go_sem, Nat.reduceEqDiff, Nat.reduceAdd, Nat.reduceSub, Nat.reduceMul, Nat.reduceLeDiff, Nat.reduceLT, Nat.reduceBEq, Nat.reduceDiv, Nat.reduceMod, Int.reduceLE, Int.reduceLT, Int.reduceEq, Int.reduceBEq, Int.reduceBNe, Int.reduceAdd, Int.reduceSub, Int.reduceNeg, Int.reduceToNat, Int.reduceMul, Int.reducePow, Nat.reducePow, reduceCtorEq, at_none l sp i h, spoil_c, Bool.or_true]
set_option maxHeartbeats 1000000 in
theorem tell_val_bad (nn rr : Val) (l : List Val) (sp must : Bool) (i : Int) (fF tF : FuncId) (fc tc : List D) (f1 : D.refsL fc = []) (f2 : fc.map D.canA = fc) (t1 : D.refsL tc = []) (t2 : tc.map D.canA = tc) (x : Val) (h : atS l i = some x) (hf : EV fF (x.d :: fc) [] = some (.ret (B false), [])) :
    EV 94 [.ptr 0 0 0, I i, B must, nn.d, .fn (.func fF) [] fc, .fn (.func tF) [] tc] [fRow l sp] = some (.ret (nn.d), [fRow l true]) := by
  refine (ev_body ⟨[9], [], [], true, [], noIt⟩ [.cell 12 28] rfl Try.func94 rfl rfl rfl (by kernel_rfl) (by show 6 ≤ 44; decide)).trans ?_
  simp +contextual (maxSteps := 10000000) only [↓reduceIte, go_sem, Nat.reduceEqDiff, Nat.reduceAdd, Nat.reduceSub, Nat.reduceMul, Nat.reduceLeDiff, Nat.reduceLT, Nat.reduceBEq, Nat.reduceDiv, Nat.reduceMod, Int.reduceLE, Int.reduceLT, Int.reduceEq, Int.reduceBEq, Int.reduceBNe, Int.reduceAdd, Int.reduceSub, Int.reduceNeg, Int.reduceToNat, Int.reduceMul, Int.reducePow, Nat.reducePow, reduceCtorEq, at_some l sp i x h, f1, f2, t1, t2, hf, spoil_c, List.cons_append]
set_option maxHeartbeats 1000000 in
theorem tell_val_ok (nn rr : Val) (l : List Val) (sp must : Bool) (i : Int) (fF tF : FuncId) (fc tc : List D) (f1 : D.refsL fc = []) (f2 : fc.map D.canA = fc) (t1 : D.refsL tc = []) (t2 : tc.map D.canA = tc) (x : Val) (h : atS l i = some x) (hf : EV fF (x.d :: fc) [] = some (.ret (B true), [])) (ht : EV tF (x.d :: tc) [] = some (.ret (rr.d), [])) :
    EV 94 [.ptr 0 0 0, I i, B must, nn.d, .fn (.func fF) [] fc, .fn (.func tF) [] tc] [fRow l sp] = some (.ret (rr.d), [fRow l sp]) := by
  refine (ev_body ⟨[9], [], [], true, [], noIt⟩ [.cell 12 28] rfl Try.func94 rfl rfl rfl (by kernel_rfl) (by show 6 ≤ 44; decide)).trans ?_
  simp +contextual (maxSteps := 10000000) only [↓reduceIte, go_sem, Nat.reduceEqDiff, Nat.reduceAdd, Nat.reduceSub, Nat.reduceMul, Nat.reduceLeDiff, Nat.reduceLT, Nat.reduceBEq, Nat.reduceDiv, Nat.reduceMod, Int.reduceLE, Int.reduceLT, Int.reduceEq, Int.reduceBEq, Int.reduceBNe, Int.reduceAdd, Int.reduceSub, Int.reduceNeg, Int.reduceToNat, Int.reduceMul, Int.reducePow, Nat.reducePow, reduceCtorEq, at_some l sp i x h, f1, f2, t1, t2, hf, ht, spoil_c, List.cons_append]
end Go.Bw.R1

namespace Go.Bw.R1
set_option maxRecDepth 5000
open Go Go.Bw Go.Proofs
/-- the number of a kind at a place, and whether that spoils -/
def numS' (l : List Val) (i kind : Int) (must : Bool) (none : Int) : Int × Bool := match atS l i with
  | .none => (none, must)
  | some x => if x.kind = kind then (x.num, false) else (none, true)
def txtS (l : List Val) (i kind : Int) (must : Bool) : ByteArray × Bool := match atS l i with
  | .none => (⟨#[]⟩, must)
  | some x => if x.kind = kind then (x.text, false) else (⟨#[]⟩, true)
def valS (l : List Val) (i : Int) (ks : List Int) : Val × Bool := match atS l i with
  | .none => (vN, false)
  | some x => if ks = [] ∨ x.kind ∈ ks then (x, false) else (vN, true)
def symS (l : List Val) (i : Int) : List ByteArray × Bool := match atS l i with
  | .none => ([], false)
  | some x => if x.kind = 21 then ([x.text], false) else if x.kind = 24 ∧ (x.kids.all fun k => k.kind == 21) = true then (x.kids.map Val.text, false) else ([], true)
theorem num1_c (v : Val) : EV 78 [v.d] [] = some (.ret (U64 v.num), []) := by
  refine (ev_body ⟨[1], [], [], false, [], noIt⟩ [.tmp 2] rfl Try.func78 rfl rfl rfl (by kernel_rfl) (by show 1 ≤ 5; decide)).trans ?_
  simp +contextual (maxSteps := 10000000) only [↓reduceIte, go_sem, Nat.reduceEqDiff, Nat.reduceAdd, Nat.reduceSub, Nat.reduceMul, Nat.reduceLeDiff, Nat.reduceLT, Nat.reduceBEq, Nat.reduceDiv, Nat.reduceMod, Int.reduceLE, Int.reduceLT, Int.reduceEq, Int.reduceBEq, Int.reduceBNe, Int.reduceAdd, Int.reduceSub, Int.reduceNeg, Int.reduceToNat, Int.reduceMul, Int.reducePow, Nat.reducePow, reduceCtorEq]
theorem txt1_c (v : Val) : EV 92 [v.d] [] = some (.ret (Sx v.text), []) := by
  refine (ev_body ⟨[1], [], [], false, [], noIt⟩ [.tmp 2] rfl Try.func92 rfl rfl rfl (by kernel_rfl) (by show 1 ≤ 5; decide)).trans ?_
  simp +contextual (maxSteps := 10000000) only [↓reduceIte, go_sem, Nat.reduceEqDiff, Nat.reduceAdd, Nat.reduceSub, Nat.reduceMul, Nat.reduceLeDiff, Nat.reduceLT, Nat.reduceBEq, Nat.reduceDiv, Nat.reduceMod, Int.reduceLE, Int.reduceLT, Int.reduceEq, Int.reduceBEq, Int.reduceBNe, Int.reduceAdd, Int.reduceSub, Int.reduceNeg, Int.reduceToNat, Int.reduceMul, Int.reducePow, Nat.reducePow, reduceCtorEq]
theorem val1_c (v : Val) : EV 93 [v.d] [] = some (.ret (B true), []) := by
  refine (ev_body ⟨[1], [], [], false, [], noIt⟩ [.tmp 2] rfl Try.func93 rfl rfl rfl (by kernel_rfl) (by show 1 ≤ 3; decide)).trans ?_
  simp +contextual (maxSteps := 10000000) only [↓reduceIte, go_sem, Nat.reduceEqDiff, Nat.reduceAdd, Nat.reduceSub, Nat.reduceMul, Nat.reduceLeDiff, Nat.reduceLT, Nat.reduceBEq, Nat.reduceDiv, Nat.reduceMod, Int.reduceLE, Int.reduceLT, Int.reduceEq, Int.reduceBEq, Int.reduceBNe, Int.reduceAdd, Int.reduceSub, Int.reduceNeg, Int.reduceToNat, Int.reduceMul, Int.reducePow, Nat.reducePow, reduceCtorEq]
theorem of_one (k : Int) : EV 52 [.ro false [U8 k]] [] = some (.ret (.fn (.func 86) [] [.rp [.ro false [U8 k]]]), []) := of_c [k]
theorem of1_one (k : Int) (v : Val) {b : Bool} (h : decide (v.kind = k) = b) : EV 86 [v.d, .rp [.ro false [U8 k]]] [] = some (.ret (B b), []) := by
  have := of1_c [k] v (by simp)
  simp only [List.mem_singleton, h] at this
  exact this
theorem of_nil : EV 52 [.ro false []] [] = some (.ret (.fn (.func 86) [] [.rp [.ro false []]]), []) := of_c []
theorem number_f (l : List Val) (sp : Bool) (i kind : Int) (must : Bool) (none : Int) : EV 44 [.ptr 0 0 0, I i, U8 kind, B must, U64 none] [fRow l sp] = some (.ret (U64 (numS' l i kind must none).1), [fRow l (sp || (numS' l i kind must none).2)]) := by
  refine (ev_body ⟨[], [], [], false, [], noIt⟩ [.tmp 10] rfl Try.func44 rfl rfl rfl (by kernel_rfl) (by show 5 ≤ 19; decide)).trans ?_
  unfold numS'
  cases h : atS l i with
  | none =>
    have ht := tell_num_none none none l sp must i 86 78 [.rp [.ro false [U8 kind]]] [] rfl rfl rfl rfl h
    simp +contextual (maxSteps := 10000000) only [↓reduceIte, go_sem, Nat.reduceEqDiff, Nat.reduceAdd, Nat.reduceSub, Nat.reduceMul, Nat.reduceLeDiff, Nat.reduceLT, Nat.reduceBEq, Nat.reduceDiv, Nat.reduceMod, Int.reduceLE, Int.reduceLT, Int.reduceEq, Int.reduceBEq, Int.reduceBNe, Int.reduceAdd, Int.reduceSub, Int.reduceNeg, Int.reduceToNat, Int.reduceMul, Int.reducePow, Nat.reducePow, reduceCtorEq, of_one, ht]
  | some x =>
    by_cases hk : x.kind = kind
    · have ht := tell_num_ok none x.num l sp must i 86 78 [.rp [.ro false [U8 kind]]] [] rfl rfl rfl rfl x h (of1_one kind x (by simpa using hk)) (num1_c x)
      simp +contextual (maxSteps := 10000000) only [↓reduceIte, go_sem, Nat.reduceEqDiff, Nat.reduceAdd, Nat.reduceSub, Nat.reduceMul, Nat.reduceLeDiff, Nat.reduceLT, Nat.reduceBEq, Nat.reduceDiv, Nat.reduceMod, Int.reduceLE, Int.reduceLT, Int.reduceEq, Int.reduceBEq, Int.reduceBNe, Int.reduceAdd, Int.reduceSub, Int.reduceNeg, Int.reduceToNat, Int.reduceMul, Int.reducePow, Nat.reducePow, reduceCtorEq, of_one, ht, hk, Bool.or_false]
    · have ht := tell_num_bad none none l sp must i 86 78 [.rp [.ro false [U8 kind]]] [] rfl rfl rfl rfl x h (of1_one kind x (by simpa using hk))
      simp +contextual (maxSteps := 10000000) only [↓reduceIte, go_sem, Nat.reduceEqDiff, Nat.reduceAdd, Nat.reduceSub, Nat.reduceMul, Nat.reduceLeDiff, Nat.reduceLT, Nat.reduceBEq, Nat.reduceDiv, Nat.reduceMod, Int.reduceLE, Int.reduceLT, Int.reduceEq, Int.reduceBEq, Int.reduceBNe, Int.reduceAdd, Int.reduceSub, Int.reduceNeg, Int.reduceToNat, Int.reduceMul, Int.reducePow, Nat.reducePow, reduceCtorEq, of_one, ht, hk, Bool.or_true]
theorem text_f (l : List Val) (sp : Bool) (i kind : Int) (must : Bool) : EV 61 [.ptr 0 0 0, I i, U8 kind, B must] [fRow l sp] = some (.ret (Sx (txtS l i kind must).1), [fRow l (sp || (txtS l i kind must).2)]) := by
  refine (ev_body ⟨[], [], [], false, [], noIt⟩ [.tmp 8] rfl Try.func61 rfl rfl rfl (by kernel_rfl) (by show 4 ≤ 16; decide)).trans ?_
  unfold txtS
  cases h : atS l i with
  | none =>
    have ht := tell_txt_none ⟨#[]⟩ ⟨#[]⟩ l sp must i 86 92 [.rp [.ro false [U8 kind]]] [] rfl rfl rfl rfl h
    simp +contextual (maxSteps := 10000000) only [↓reduceIte, go_sem, Nat.reduceEqDiff, Nat.reduceAdd, Nat.reduceSub, Nat.reduceMul, Nat.reduceLeDiff, Nat.reduceLT, Nat.reduceBEq, Nat.reduceDiv, Nat.reduceMod, Int.reduceLE, Int.reduceLT, Int.reduceEq, Int.reduceBEq, Int.reduceBNe, Int.reduceAdd, Int.reduceSub, Int.reduceNeg, Int.reduceToNat, Int.reduceMul, Int.reducePow, Nat.reducePow, reduceCtorEq, of_one, ht]
  | some x =>
    by_cases hk : x.kind = kind
    · have ht := tell_txt_ok ⟨#[]⟩ x.text l sp must i 86 92 [.rp [.ro false [U8 kind]]] [] rfl rfl rfl rfl x h (of1_one kind x (by simpa using hk)) (txt1_c x)
      simp +contextual (maxSteps := 10000000) only [↓reduceIte, go_sem, Nat.reduceEqDiff, Nat.reduceAdd, Nat.reduceSub, Nat.reduceMul, Nat.reduceLeDiff, Nat.reduceLT, Nat.reduceBEq, Nat.reduceDiv, Nat.reduceMod, Int.reduceLE, Int.reduceLT, Int.reduceEq, Int.reduceBEq, Int.reduceBNe, Int.reduceAdd, Int.reduceSub, Int.reduceNeg, Int.reduceToNat, Int.reduceMul, Int.reducePow, Nat.reducePow, reduceCtorEq, of_one, ht, hk, Bool.or_false]
    · have ht := tell_txt_bad ⟨#[]⟩ ⟨#[]⟩ l sp must i 86 92 [.rp [.ro false [U8 kind]]] [] rfl rfl rfl rfl x h (of1_one kind x (by simpa using hk))
      simp +contextual (maxSteps := 10000000) only [↓reduceIte, go_sem, Nat.reduceEqDiff, Nat.reduceAdd, Nat.reduceSub, Nat.reduceMul, Nat.reduceLeDiff, Nat.reduceLT, Nat.reduceBEq, Nat.reduceDiv, Nat.reduceMod, Int.reduceLE, Int.reduceLT, Int.reduceEq, Int.reduceBEq, Int.reduceBNe, Int.reduceAdd, Int.reduceSub, Int.reduceNeg, Int.reduceToNat, Int.reduceMul, Int.reducePow, Nat.reducePow, reduceCtorEq, of_one, ht, hk, Bool.or_true]
theorem bool_f (l : List Val) (sp : Bool) (i : Int) (must : Bool) : EV 60 [.ptr 0 0 0, I i, B must] [fRow l sp] = some (.ret (B ((numS' l i 2 must 0).1 == 1)), [fRow l (sp || (numS' l i 2 must 0).2)]) := by
  refine (ev_body ⟨[], [], [], false, [], noIt⟩ [.tmp 6] rfl Try.func60 rfl rfl rfl (by kernel_rfl) (by show 3 ≤ 12; decide)).trans ?_
  simp +contextual (maxSteps := 10000000) only [↓reduceIte, go_sem, Nat.reduceEqDiff, Nat.reduceAdd, Nat.reduceSub, Nat.reduceMul, Nat.reduceLeDiff, Nat.reduceLT, Nat.reduceBEq, Nat.reduceDiv, Nat.reduceMod, Int.reduceLE, Int.reduceLT, Int.reduceEq, Int.reduceBEq, Int.reduceBNe, Int.reduceAdd, Int.reduceSub, Int.reduceNeg, Int.reduceToNat, Int.reduceMul, Int.reducePow, Nat.reducePow, reduceCtorEq, number_f]
theorem value_f (l : List Val) (hl : Val.szL l ≤ 4000000) (sp : Bool) (i : Int) (ks : List Int) (hks : ks.length ≤ 4000000) : EV 62 [.ptr 0 0 0, I i, .ro false (u8L ks)] [fRow l sp] = some (.ret (valS l i ks).1.d, [fRow l (sp || (valS l i ks).2)]) := by
  refine (ev_body ⟨[], [], [], true, [], noIt⟩ [.cell 6 28] rfl Try.func62 rfl rfl rfl (by kernel_rfl) (by show 3 ≤ 18; decide)).trans ?_
  unfold valS
  cases hk : ks with
  | nil =>
    cases h : atS l i with
    | none =>
      have ht := tell_val_none vN vN l sp false i 93 40 [] [] rfl rfl rfl rfl h
      simp +contextual (maxSteps := 10000000) only [↓reduceIte, go_sem, Nat.reduceEqDiff, Nat.reduceAdd, Nat.reduceSub, Nat.reduceMul, Nat.reduceLeDiff, Nat.reduceLT, Nat.reduceBEq, Nat.reduceDiv, Nat.reduceMod, Int.reduceLE, Int.reduceLT, Int.reduceEq, Int.reduceBEq, Int.reduceBNe, Int.reduceAdd, Int.reduceSub, Int.reduceNeg, Int.reduceToNat, Int.reduceMul, Int.reducePow, Nat.reducePow, reduceCtorEq, of_nil, ht, null_c]
    | some x =>
      have hx := szL_mem (atS_len h).2.2.1
      have ht := tell_val_ok vN x l sp false i 93 40 [] [] rfl rfl rfl rfl x h (val1_c x) (copy_c _ x (Nat.le_refl _) (by omega))
      simp +contextual (maxSteps := 10000000) only [↓reduceIte, go_sem, Nat.reduceEqDiff, Nat.reduceAdd, Nat.reduceSub, Nat.reduceMul, Nat.reduceLeDiff, Nat.reduceLT, Nat.reduceBEq, Nat.reduceDiv, Nat.reduceMod, Int.reduceLE, Int.reduceLT, Int.reduceEq, Int.reduceBEq, Int.reduceBNe, Int.reduceAdd, Int.reduceSub, Int.reduceNeg, Int.reduceToNat, Int.reduceMul, Int.reducePow, Nat.reducePow, reduceCtorEq, of_nil, ht, null_c, true_or, if_true, Bool.or_false]
  | cons k r =>
    rw [← hk]
    have hne : ks ≠ [] := by rw [hk]; simp
    have hl0 : ((ks.length : Int) == 0) = false := by rw [hk]; simp; omega
    cases h : atS l i with
    | none =>
      have ht := tell_val_none vN vN l sp false i 86 40 [.rp [.ro false (u8L ks)]] [] (by simp only [D.refsL, D.refs, u8L_refs, List.append_nil]) (by simp only [List.map_cons, List.map_nil, D.canA, D.can, D.canL, u8L_can]) rfl rfl h
      simp +contextual (maxSteps := 10000000) only [↓reduceIte, go_sem, Nat.reduceEqDiff, Nat.reduceAdd, Nat.reduceSub, Nat.reduceMul, Nat.reduceLeDiff, Nat.reduceLT, Nat.reduceBEq, Nat.reduceDiv, Nat.reduceMod, Int.reduceLE, Int.reduceLT, Int.reduceEq, Int.reduceBEq, Int.reduceBNe, Int.reduceAdd, Int.reduceSub, Int.reduceNeg, Int.reduceToNat, Int.reduceMul, Int.reducePow, Nat.reducePow, reduceCtorEq, of_c ks, hl0, ht, null_c]
    | some x =>
      have hx := szL_mem (atS_len h).2.2.1
      by_cases hm : x.kind ∈ ks
      · have ho := of1_c ks x hks
        rw [decide_eq_true hm] at ho
        have ht := tell_val_ok vN x l sp false i 86 40 [.rp [.ro false (u8L ks)]] [] (by simp only [D.refsL, D.refs, u8L_refs, List.append_nil]) (by simp only [List.map_cons, List.map_nil, D.canA, D.can, D.canL, u8L_can]) rfl rfl x h ho (copy_c _ x (Nat.le_refl _) (by omega))
        simp +contextual (maxSteps := 10000000) only [↓reduceIte, go_sem, Nat.reduceEqDiff, Nat.reduceAdd, Nat.reduceSub, Nat.reduceMul, Nat.reduceLeDiff, Nat.reduceLT, Nat.reduceBEq, Nat.reduceDiv, Nat.reduceMod, Int.reduceLE, Int.reduceLT, Int.reduceEq, Int.reduceBEq, Int.reduceBNe, Int.reduceAdd, Int.reduceSub, Int.reduceNeg, Int.reduceToNat, Int.reduceMul, Int.reducePow, Nat.reducePow, reduceCtorEq, of_c ks, hl0, ht, null_c, hm, or_true, if_true, Bool.or_false]
      · have ho := of1_c ks x hks
        rw [decide_eq_false hm] at ho
        have ht := tell_val_bad vN vN l sp false i 86 40 [.rp [.ro false (u8L ks)]] [] (by simp only [D.refsL, D.refs, u8L_refs, List.append_nil]) (by simp only [List.map_cons, List.map_nil, D.canA, D.can, D.canL, u8L_can]) rfl rfl x h ho
        simp +contextual (maxSteps := 10000000) only [↓reduceIte, go_sem, Nat.reduceEqDiff, Nat.reduceAdd, Nat.reduceSub, Nat.reduceMul, Nat.reduceLeDiff, Nat.reduceLT, Nat.reduceBEq, Nat.reduceDiv, Nat.reduceMod, Int.reduceLE, Int.reduceLT, Int.reduceEq, Int.reduceBEq, Int.reduceBNe, Int.reduceAdd, Int.reduceSub, Int.reduceNeg, Int.reduceToNat, Int.reduceMul, Int.reducePow, Nat.reducePow, reduceCtorEq, of_c ks, hl0, ht, null_c, hm, hne, or_self, if_false, Bool.or_true]
end Go.Bw.R1

namespace Go.Bw.R1
set_option maxRecDepth 5000
open Go Go.Bw Go.Proofs
set_option maxHeartbeats 1000000 in
theorem gen_idx (F : FuncId) (fc : List D) (f1 : D.refsL fc = []) (f2 : fc.map D.canA = fc) (f3 : D.canL fc = fc) (p : Val → Bool) (l : List Val) (hl : l.length ≤ 4000000) (hp : ∀ x ∈ l, EV F (x.d :: fc) [] = some (.ret (B (p x)), [])) : EV 88 [.ro false (l.map Val.d), .fn (.func F) [] fc] [] = some (.ret (I (idxS p l 0)), []) := by
  refine (ev_body ⟨[], [(0, [0, 1, 7, 8])], [], false, [], noIt⟩ [.tmp 4] rfl Try.func88 rfl rfl rfl (by kernel_rfl) (by show 2 ≤ 19; decide)).trans ?_
  simp +contextual (maxSteps := 10000000) only [↓reduceIte, go_sem, Nat.reduceEqDiff, Nat.reduceAdd, Nat.reduceSub, Nat.reduceMul, Nat.reduceLeDiff, Nat.reduceLT, Nat.reduceBEq, Nat.reduceDiv, Nat.reduceMod, Int.reduceLE, Int.reduceLT, Int.reduceEq, Int.reduceBEq, Int.reduceBNe, Int.reduceAdd, Int.reduceSub, Int.reduceNeg, Int.reduceToNat, Int.reduceMul, Int.reducePow, Nat.reducePow, reduceCtorEq, f1, f2]
  refine lpK_inv (fun m0 f es => ∃ (i : Nat), i + m0 = l.length ∧ idxS p l 0 = idxS p (l.drop i) i ∧ f = [(0, .ro false (l.map Val.d)), (1, .fn (.func F) [] fc), (7, I l.length), (8, I i)] ∧ es = []) l.length ⟨0, Nat.zero_add _, rfl, rfl, rfl⟩ ?_
  rintro m0 _ _ ⟨i, hi, hsm, rfl, rfl⟩ ih
  rcases Nat.lt_or_ge i l.length with hlt | hge
  · obtain ⟨x, hx⟩ := get_lt hlt
    have hlt' : decide ((i : Int) < l.length) = true := by simpa using hlt
    have hlt2 : (i : Int) < l.length := by omega
    have hpx := hp x (List.mem_of_getElem? hx)
    simp +contextual (maxSteps := 10000000) only [↓reduceIte, go_sem, Nat.reduceEqDiff, Nat.reduceAdd, Nat.reduceSub, Nat.reduceMul, Nat.reduceLeDiff, Nat.reduceLT, Nat.reduceBEq, Nat.reduceDiv, Nat.reduceMod, Int.reduceLE, Int.reduceLT, Int.reduceEq, Int.reduceBEq, Int.reduceBNe, Int.reduceAdd, Int.reduceSub, Int.reduceNeg, Int.reduceToNat, Int.reduceMul, Int.reducePow, Nat.reducePow, reduceCtorEq, f1, f2, List.cons_append, hx, hpx, hlt', hlt2, wrap_i64 (n := (i : Int) + 1) (by omega) (by omega)]
    rw [hsm, idxS_drop hx]
    refine ite_intro (fun h => ?_) (fun h => ?_)
    · rw [if_pos h]
    · rw [if_neg h]
      have hsm' : idxS p l 0 = idxS p (l.drop (i + 1)) (i + 1) := by rw [hsm, idxS_drop hx, if_neg h]
      rw [← hsm']
      exact ih (m0 - 1) _ _ (by omega) ⟨i + 1, by omega, hsm', by simp only [Int.natCast_add, Int.cast_ofNat_Int], rfl⟩
  · have hlt' : decide ((i : Int) < l.length) = false := by simpa using hge
    simp +contextual (maxSteps := 10000000) only [↓reduceIte, go_sem, Nat.reduceEqDiff, Nat.reduceAdd, Nat.reduceSub, Nat.reduceMul, Nat.reduceLeDiff, Nat.reduceLT, Nat.reduceBEq, Nat.reduceDiv, Nat.reduceMod, Int.reduceLE, Int.reduceLT, Int.reduceEq, Int.reduceBEq, Int.reduceBNe, Int.reduceAdd, Int.reduceSub, Int.reduceNeg, Int.reduceToNat, Int.reduceMul, Int.reducePow, Nat.reducePow, reduceCtorEq, hlt']
    rw [hsm, List.drop_eq_nil_of_le hge]; rfl
theorem gen_has (F : FuncId) (fc : List D) (f1 : D.refsL fc = []) (f2 : fc.map D.canA = fc) (f3 : D.canL fc = fc) (p : Val → Bool) (l : List Val) (hl : l.length ≤ 4000000) (hp : ∀ x ∈ l, EV F (x.d :: fc) [] = some (.ret (B (p x)), [])) : EV 54 [.ro false (l.map Val.d), .fn (.func F) [] fc] [] = some (.ret (B (l.any p)), []) := by
  refine (ev_body ⟨[], [], [], false, [], noIt⟩ [.tmp 4] rfl Try.func54 rfl rfl rfl (by kernel_rfl) (by show 2 ≤ 9; decide)).trans ?_
  simp +contextual (maxSteps := 10000000) only [↓reduceIte, go_sem, Nat.reduceEqDiff, Nat.reduceAdd, Nat.reduceSub, Nat.reduceMul, Nat.reduceLeDiff, Nat.reduceLT, Nat.reduceBEq, Nat.reduceDiv, Nat.reduceMod, Int.reduceLE, Int.reduceLT, Int.reduceEq, Int.reduceBEq, Int.reduceBNe, Int.reduceAdd, Int.reduceSub, Int.reduceNeg, Int.reduceToNat, Int.reduceMul, Int.reducePow, Nat.reducePow, reduceCtorEq, f1, f2, f3, gen_idx F fc f1 f2 f3 p l hl hp, idxS_ge]
abbrev symF : D := .fn (.func 86) [] [.rp [.ro false [U8 21]]]
theorem sy11_c (v : Val) : EV 55 [v.d, .rp [symF]] [] = some (.ret (B (!(v.kind == 21))), []) := by
  refine (ev_body ⟨[2], [], [], false, [], noIt⟩ [.tmp 3] rfl Try.func55 rfl rfl rfl (by kernel_rfl) (by show 2 ≤ 8; decide)).trans ?_
  have h := of1_one 21 v (b := v.kind == 21) rfl
  simp +contextual (maxSteps := 10000000) only [↓reduceIte, go_sem, Nat.reduceEqDiff, Nat.reduceAdd, Nat.reduceSub, Nat.reduceMul, Nat.reduceLeDiff, Nat.reduceLT, Nat.reduceBEq, Nat.reduceDiv, Nat.reduceMod, Int.reduceLE, Int.reduceLT, Int.reduceEq, Int.reduceBEq, Int.reduceBNe, Int.reduceAdd, Int.reduceSub, Int.reduceNeg, Int.reduceToNat, Int.reduceMul, Int.reducePow, Nat.reducePow, reduceCtorEq, h]
def symOk (v : Val) : Bool := v.kind == 21 || (v.kind == 24 && v.kids.all fun k => k.kind == 21)
theorem sy1_c (v : Val) (hl : v.kids.length ≤ 4000000) : EV 53 [v.d, .rp [symF]] [] = some (.ret (B (symOk v)), []) := by
  refine (ev_body ⟨[2], [], [], false, [], noIt⟩ [.tmp 3] rfl Try.func53 rfl rfl rfl (by kernel_rfl) (by show 2 ≤ 19; decide)).trans ?_
  have h := of1_one 21 v (b := v.kind == 21) rfl
  have hh := gen_has 55 [.rp [symF]] rfl rfl rfl (fun k => !(k.kind == 21)) v.kids hl (fun x _ => sy11_c x)
  have e : (v.kids.any fun k => !(k.kind == 21)) = !(v.kids.all fun k => k.kind == 21) := by
    rw [List.not_all_eq_any_not]
  rw [e] at hh
  simp +contextual (maxSteps := 10000000) only [↓reduceIte, go_sem, Nat.reduceEqDiff, Nat.reduceAdd, Nat.reduceSub, Nat.reduceMul, Nat.reduceLeDiff, Nat.reduceLT, Nat.reduceBEq, Nat.reduceDiv, Nat.reduceMod, Int.reduceLE, Int.reduceLT, Int.reduceEq, Int.reduceBEq, Int.reduceBNe, Int.reduceAdd, Int.reduceSub, Int.reduceNeg, Int.reduceToNat, Int.reduceMul, Int.reducePow, Nat.reducePow, reduceCtorEq, h, hh]
  unfold symOk
  cases v.kind == 21 <;> cases v.kind == 24 <;> cases (v.kids.all fun k => k.kind == 21) <;> rfl
theorem strOk : EncOk (fun s : ByteArray => D.sc (.string s)) 1 := ⟨fun _ => rfl, by decide, fun _ => rfl, fun _ => rfl, fun _ => rfl, fun _ => rfl⟩
theorem rowS_refs (l : List ByteArray) : D.refsL (rowE (fun s : ByteArray => D.sc (.string s)) l) = [] := strOk.row_refs l
theorem fin_strs (l : List ByteArray) : (frzN (stoE (fun s : ByteArray => D.sc (.string s)) l) (fromB 0) 20 (accE 1 l)).can = .ro false (l.map fun s => D.sc (.string s)) := fin_acc strOk l 19
theorem rowS_snoc (l : List ByteArray) (x : ByteArray) : rowE (fun s : ByteArray => D.sc (.string s)) l ++ [.sc (.string x)] = rowE (fun s : ByteArray => D.sc (.string s)) (l ++ [x]) := by rw [← rowE_snoc]; rfl
theorem rowS_one (x : ByteArray) : [D.sc (.string x)] = rowE (fun s : ByteArray => D.sc (.string s)) [x] := rowE_one (f := fun s : ByteArray => D.sc (.string s)) x
attribute [go_sem] rowS_refs fin_strs
set_option maxHeartbeats 1000000 in
theorem sy2_one (v : Val) (h : v.kind = 21) : EV 57 [v.d, .rp [symF]] [] = some (.ret (.ro false [Sx v.text]), []) := by
  refine (ev_body ⟨[2], [(0, [3, 13, 14, 15])], [], true, [], noIt⟩ [.tmp 3] rfl Try.func57 rfl rfl rfl (by kernel_rfl) (by show 2 ≤ 26; decide)).trans ?_
  have h := of1_one 21 v (b := true) (by simpa using h)
  simp +contextual (maxSteps := 10000000) only [↓reduceIte, go_sem, Nat.reduceEqDiff, Nat.reduceAdd, Nat.reduceSub, Nat.reduceMul, Nat.reduceLeDiff, Nat.reduceLT, Nat.reduceBEq, Nat.reduceDiv, Nat.reduceMod, Int.reduceLE, Int.reduceLT, Int.reduceEq, Int.reduceBEq, Int.reduceBNe, Int.reduceAdd, Int.reduceSub, Int.reduceNeg, Int.reduceToNat, Int.reduceMul, Int.reducePow, Nat.reducePow, reduceCtorEq, h]
set_option maxHeartbeats 1000000 in
theorem sy2_many (v : Val) (hl : v.kids.length ≤ 4000000) (h : v.kind ≠ 21) : EV 57 [v.d, .rp [symF]] [] = some (.ret (.ro false ((v.kids.map Val.text).map fun s => D.sc (.string s))), []) := by
  refine (ev_body ⟨[2], [(0, [3, 13, 14, 15])], [], true, [], noIt⟩ [.tmp 3] rfl Try.func57 rfl rfl rfl (by kernel_rfl) (by show 2 ≤ 26; decide)).trans ?_
  have h := of1_one 21 v (b := false) (by simpa using h)
  obtain ⟨l, hle⟩ : ∃ l, l = v.kids.map Val.text := ⟨_, rfl⟩
  have hll : l.length = v.kids.length := by rw [hle, List.length_map]
  have hg : ∀ i : Nat, (v.kids.map Val.d)[i]? = v.kids[i]?.map Val.d := fun i => List.getElem?_map ..
  simp +contextual (maxSteps := 10000000) only [↓reduceIte, go_sem, Nat.reduceEqDiff, Nat.reduceAdd, Nat.reduceSub, Nat.reduceMul, Nat.reduceLeDiff, Nat.reduceLT, Nat.reduceBEq, Nat.reduceDiv, Nat.reduceMod, Int.reduceLE, Int.reduceLT, Int.reduceEq, Int.reduceBEq, Int.reduceBNe, Int.reduceAdd, Int.reduceSub, Int.reduceNeg, Int.reduceToNat, Int.reduceMul, Int.reducePow, Nat.reducePow, reduceCtorEq, h]
  rw [← hle, ← hll]
  refine lpK_inv (fun m0 f es => ∃ (i : Nat) (j : Int) (A : D), j = i ∧ A = accE 1 (l.take i) ∧ m0 = l.length - i ∧ i ≤ l.length ∧ f = [(3, A), (13, .ro false (v.kids.map Val.d)), (14, I l.length), (15, I j)] ∧ es = stoE (fun s : ByteArray => D.sc (.string s)) (l.take i)) l.length ⟨0, _, _, rfl, rfl, rfl, Nat.zero_le _, rfl, rfl⟩ ?_
  rintro _ _ _ ⟨i, _, _, rfl, rfl, rfl, hi, rfl, rfl⟩ ih
  rcases Nat.lt_or_ge i l.length with hlt | hge
  · obtain ⟨x, hx⟩ := get_lt (l := v.kids) (i := i) (by omega)
    have hx2 : l[i]? = some x.text := by rw [hle, List.getElem?_map, hx]; rfl
    have hlt' : decide ((i : Int) < l.length) = true := by simpa using hlt
    have hlk : (i : Int) < v.kids.length := by omega
    have hsn := take_snoc hx2
    rcases Nat.eq_zero_or_pos i with rfl | hpos
    · simp only [List.take_zero, accE, stoE]
      have hlt0 : decide ((0 : Int) < l.length) = true := by simpa using hlt
      have hlk0 : (0 : Int) < v.kids.length := by omega
      simp +contextual (maxSteps := 10000000) only [↓reduceIte, go_sem, Nat.reduceEqDiff, Nat.reduceAdd, Nat.reduceSub, Nat.reduceMul, Nat.reduceLeDiff, Nat.reduceLT, Nat.reduceBEq, Nat.reduceDiv, Nat.reduceMod, Int.reduceLE, Int.reduceLT, Int.reduceEq, Int.reduceBEq, Int.reduceBNe, Int.reduceAdd, Int.reduceSub, Int.reduceNeg, Int.reduceToNat, Int.reduceMul, Int.reducePow, Nat.reducePow, reduceCtorEq, hx, hlt0, hlk0, wrap_i64 (n := 1) (by omega) (by omega)]
      refine ih (l.length - 1) _ _ (by omega) ⟨1, _, _, rfl, ?_, rfl, hlt, rfl, ?_⟩
      · rw [hsn]; rfl
      · rw [hsn, rowS_one]; rfl
    · obtain ⟨y, t, ht, hlen⟩ := take_cons hi hpos
      simp only [ht, accE, stoE, hlen]
      have hb : (i + 1) * 16 ≤ 140737488355328 := by omega
      have hr := strOk.row_len (y :: t)
      rw [hlen] at hr
      simp +contextual (maxSteps := 10000000) only [↓reduceIte, go_sem, Nat.reduceEqDiff, Nat.reduceAdd, Nat.reduceSub, Nat.reduceMul, Nat.reduceLeDiff, Nat.reduceLT, Nat.reduceBEq, Nat.reduceDiv, Nat.reduceMod, Int.reduceLE, Int.reduceLT, Int.reduceEq, Int.reduceBEq, Int.reduceBNe, Int.reduceAdd, Int.reduceSub, Int.reduceNeg, Int.reduceToNat, Int.reduceMul, Int.reducePow, Nat.reducePow, reduceCtorEq, hx, hlt', hlk, hb, hr, wrap_i64 (n := (i : Int) + 1) (by omega) (by omega)]
      refine ih (l.length - (i + 1)) _ _ (by omega) ⟨i + 1, _, _, by omega, ?_, rfl, hlt, rfl, ?_⟩
      · rw [hsn, ht]; simp only [List.cons_append, accE, List.length_cons, List.length_append, List.length_nil] at hlen ⊢; simp only [← hlen]
      · rw [hsn, ht, rowS_snoc]; rfl
  · have hlt' : decide ((i : Int) < l.length) = false := by simpa using hge
    obtain rfl : i = l.length := by omega
    simp +contextual (maxSteps := 10000000) only [↓reduceIte, go_sem, Nat.reduceEqDiff, Nat.reduceAdd, Nat.reduceSub, Nat.reduceMul, Nat.reduceLeDiff, Nat.reduceLT, Nat.reduceBEq, Nat.reduceDiv, Nat.reduceMod, Int.reduceLE, Int.reduceLT, Int.reduceEq, Int.reduceBEq, Int.reduceBNe, Int.reduceAdd, Int.reduceSub, Int.reduceNeg, Int.reduceToNat, Int.reduceMul, Int.reducePow, Nat.reducePow, reduceCtorEq, hlt']
end Go.Bw.R1

namespace Go.Bw.R1
set_option maxRecDepth 5000
open Go Go.Bw Go.Proofs
abbrev strL (l : List ByteArray) : List D := l.map fun s => D.sc (.string s)
theorem symbols_f (l : List Val) (hl : Val.szL l ≤ 4000000) (sp : Bool) (i : Int) : EV 23 [.ptr 0 0 0, I i] [fRow l sp] = some (.ret (.ro false (strL (symS l i).1)), [fRow l (sp || (symS l i).2)]) := by
  refine (ev_body ⟨[], [], [], true, [(1, [5])], noIt⟩ [.tmp 4] rfl Try.func23 rfl rfl rfl (by kernel_rfl) (by show 2 ≤ 15; decide)).trans ?_
  unfold symS
  cases h : atS l i with
  | none =>
    have ht := tell_strs_none [] l sp false i 53 57 [.rp [symF]] [.rp [symF]] rfl rfl rfl rfl h
    simp +contextual (maxSteps := 10000000) only [↓reduceIte, go_sem, Nat.reduceEqDiff, Nat.reduceAdd, Nat.reduceSub, Nat.reduceMul, Nat.reduceLeDiff, Nat.reduceLT, Nat.reduceBEq, Nat.reduceDiv, Nat.reduceMod, Int.reduceLE, Int.reduceLT, Int.reduceEq, Int.reduceBEq, Int.reduceBNe, Int.reduceAdd, Int.reduceSub, Int.reduceNeg, Int.reduceToNat, Int.reduceMul, Int.reducePow, Nat.reducePow, reduceCtorEq, of_one, ht]
  | some x =>
    have hx := szL_mem (atS_len h).2.2.1
    have hz := Val.sz_eq x
    have hk := szL_len x.kids
    have h1 := sy1_c x (by omega)
    by_cases hk : x.kind = 21
    · have e : symOk x = true := by simp [symOk, hk]
      rw [e] at h1
      have ht := tell_strs_ok [x.text] l sp false i 53 57 [.rp [symF]] [.rp [symF]] rfl rfl rfl rfl x h h1 (sy2_one x hk)
      simp only [List.map_cons, List.map_nil] at ht
      simp +contextual (maxSteps := 10000000) only [↓reduceIte, go_sem, Nat.reduceEqDiff, Nat.reduceAdd, Nat.reduceSub, Nat.reduceMul, Nat.reduceLeDiff, Nat.reduceLT, Nat.reduceBEq, Nat.reduceDiv, Nat.reduceMod, Int.reduceLE, Int.reduceLT, Int.reduceEq, Int.reduceBEq, Int.reduceBNe, Int.reduceAdd, Int.reduceSub, Int.reduceNeg, Int.reduceToNat, Int.reduceMul, Int.reducePow, Nat.reducePow, reduceCtorEq, of_one, ht, hk, Bool.or_false]
    · have h2 := sy2_many x (by omega) hk
      by_cases hq : x.kind = 24 ∧ (x.kids.all fun k => k.kind == 21) = true
      · have e : symOk x = true := by simp only [symOk, hq.1, hq.2]; rfl
        rw [e] at h1
        have ht := tell_strs_ok (x.kids.map Val.text) l sp false i 53 57 [.rp [symF]] [.rp [symF]] rfl rfl rfl rfl x h h1 h2
        have hq1 := hq.1
        have hq2 := hq.2
        simp +contextual (maxSteps := 10000000) only [↓reduceIte, go_sem, Nat.reduceEqDiff, Nat.reduceAdd, Nat.reduceSub, Nat.reduceMul, Nat.reduceLeDiff, Nat.reduceLT, Nat.reduceBEq, Nat.reduceDiv, Nat.reduceMod, Int.reduceLE, Int.reduceLT, Int.reduceEq, Int.reduceBEq, Int.reduceBNe, Int.reduceAdd, Int.reduceSub, Int.reduceNeg, Int.reduceToNat, Int.reduceMul, Int.reducePow, Nat.reducePow, reduceCtorEq, of_one, ht, hq1, hq2, and_self, Bool.or_false]
      · have e : symOk x = false := by
          rw [Bool.eq_false_iff]; intro hh; apply hq
          simp only [symOk, Bool.or_eq_true, Bool.and_eq_true, beq_iff_eq] at hh
          rcases hh with hh | hh
          · exact absurd hh hk
          · exact hh
        rw [e] at h1
        have ht := tell_strs_bad [] l sp false i 53 57 [.rp [symF]] [.rp [symF]] rfl rfl rfl rfl x h h1
        simp +contextual (maxSteps := 10000000) only [↓reduceIte, go_sem, Nat.reduceEqDiff, Nat.reduceAdd, Nat.reduceSub, Nat.reduceMul, Nat.reduceLeDiff, Nat.reduceLT, Nat.reduceBEq, Nat.reduceDiv, Nat.reduceMod, Int.reduceLE, Int.reduceLT, Int.reduceEq, Int.reduceBEq, Int.reduceBNe, Int.reduceAdd, Int.reduceSub, Int.reduceNeg, Int.reduceToNat, Int.reduceMul, Int.reducePow, Nat.reducePow, reduceCtorEq, of_one, ht, hk, hq, Bool.or_true]
/-- the fields of a value that is called so -/
def newS (v : Val) (code : Int) (name : ByteArray) : Option (List Val) :=
  if rightS v = true ∧ v.kind = 25 then match v.kids with
    | [d, x] => if x.kind = 22 ∧ calledS d code name = true then some x.kids else none
    | _ => none
  else none
theorem right_may {v : Val} (h : rightS v = true) : mayS v = true := by
  simp only [rightS, Bool.and_eq_true] at h; exact h.2
theorem newS_some {v : Val} {code : Int} {name : ByteArray} {l : List Val} (h : newS v code name = some l) : rightS v = true ∧ v.kind = 25 ∧ ∃ d x, v.kids = [d, x] ∧ x.kind = 22 ∧ calledS d code name = true ∧ l = x.kids ∧ mayL l = true := by
  unfold newS at h
  split at h
  · rename_i hh
    obtain ⟨h1, h2⟩ := hh
    obtain ⟨d, x, hk, hd, hx⟩ := may_desc (right_may h1) h2
    rw [hk] at h
    simp only at h
    split at h
    · rename_i hc
      simp only [Option.some.injEq] at h
      subst h
      rw [mayS_eq] at hx
      simp only [Bool.and_eq_true] at hx
      exact ⟨h1, h2, d, x, hk, hc.1, hc.2, rfl, hx.1.2⟩
    · cases h
  · cases h
theorem fd_val (v : Val) : fdD Try.prog 28 3 v.d = some (.ro false (v.kids.map Val.d)) := by
  cases v; simp only [Val.d, Val.dL_map, fdD, fd28_3]; rfl
set_option maxHeartbeats 1000000 in
theorem new_some (v : Val) (hs : v.sz ≤ 4000000) (hw : v.wf) (code : Int) (name : ByteArray) (l : List Val) (h : newS v code name = some l) : EV 26 [v.d, U64 code, Sx name] [] = some (.ret (.tup [.ptr 0 0 0, I 0]), [fRow l false]) := by
  obtain ⟨h1, h2, d, x, hk, hx, hc, rfl, _⟩ := newS_some h
  obtain ⟨k, n, t, kids⟩ := v
  obtain ⟨k2, n2, t2, l2⟩ := x
  simp only [Val.kind_mk, Val.kids_mk] at h2 hk hx
  subst h2 hk hx
  have hr := right_c _ hs hw
  rw [h1] at hr
  have hz := Val.sz_eq (Val.mk 25 n t [d, Val.mk 22 n2 t2 l2])
  simp only [Val.kids_mk, Val.szL] at hz
  have hcp := copy_c _ (Val.mk 22 n2 t2 l2) (Nat.le_refl _) (by omega)
  have hcl := fcalled_c d code name
  rw [hc] at hcl
  have fv := fd_val (Val.mk 22 n2 t2 l2)
  simp only [Val.kids_mk] at fv
  refine (ev_body ⟨[3], [], [], false, [], noIt⟩ [.tmp 6, .tmp 7] rfl Try.func26 rfl rfl rfl (by kernel_rfl) (by show 3 ≤ 42; decide)).trans ?_
  simp +contextual (maxSteps := 10000000) only [↓reduceIte, go_sem, Nat.reduceEqDiff, Nat.reduceAdd, Nat.reduceSub, Nat.reduceMul, Nat.reduceLeDiff, Nat.reduceLT, Nat.reduceBEq, Nat.reduceDiv, Nat.reduceMod, Int.reduceLE, Int.reduceLT, Int.reduceEq, Int.reduceBEq, Int.reduceBNe, Int.reduceAdd, Int.reduceSub, Int.reduceNeg, Int.reduceToNat, Int.reduceMul, Int.reducePow, Nat.reducePow, reduceCtorEq, hr, hcl, hcp, fv, List.map_cons, List.map_nil, List.length_cons, List.length_nil, bne_self_eq_false]
set_option maxHeartbeats 1000000 in
theorem new_none (v : Val) (hs : v.sz ≤ 4000000) (hw : v.wf) (code : Int) (name : ByteArray) (h : newS v code name = none) : EV 26 [v.d, U64 code, Sx name] [] = some (.ret (.tup [.nilp, I 6]), []) := by
  have hr := right_c v hs hw
  refine (ev_body ⟨[3], [], [], false, [], noIt⟩ [.tmp 6, .tmp 7] rfl Try.func26 rfl rfl rfl (by kernel_rfl) (by show 3 ≤ 42; decide)).trans ?_
  cases h1 : rightS v
  · rw [h1] at hr
    simp +contextual (maxSteps := 10000000) only [↓reduceIte, go_sem, Nat.reduceEqDiff, Nat.reduceAdd, Nat.reduceSub, Nat.reduceMul, Nat.reduceLeDiff, Nat.reduceLT, Nat.reduceBEq, Nat.reduceDiv, Nat.reduceMod, Int.reduceLE, Int.reduceLT, Int.reduceEq, Int.reduceBEq, Int.reduceBNe, Int.reduceAdd, Int.reduceSub, Int.reduceNeg, Int.reduceToNat, Int.reduceMul, Int.reducePow, Nat.reducePow, reduceCtorEq, hr]
  · rw [h1] at hr
    by_cases h2 : v.kind = 25
    · obtain ⟨d, x, hk, _, _⟩ := may_desc (right_may h1) h2
      unfold newS at h
      rw [if_pos ⟨h1, h2⟩, hk] at h
      simp only at h
      obtain ⟨k, n, t, kids⟩ := v
      simp only [Val.kind_mk, Val.kids_mk] at h2 hk
      subst h2 hk
      have hcl := fcalled_c d code name
      by_cases hx : x.kind = 22
      · cases hc : calledS d code name
        · rw [hc] at hcl
          simp +contextual (maxSteps := 10000000) only [↓reduceIte, go_sem, Nat.reduceEqDiff, Nat.reduceAdd, Nat.reduceSub, Nat.reduceMul, Nat.reduceLeDiff, Nat.reduceLT, Nat.reduceBEq, Nat.reduceDiv, Nat.reduceMod, Int.reduceLE, Int.reduceLT, Int.reduceEq, Int.reduceBEq, Int.reduceBNe, Int.reduceAdd, Int.reduceSub, Int.reduceNeg, Int.reduceToNat, Int.reduceMul, Int.reducePow, Nat.reducePow, reduceCtorEq, hr, hx, hcl, List.map_cons, List.map_nil, List.length_cons, List.length_nil, bne_self_eq_false]
        · rw [if_pos ⟨hx, hc⟩] at h; cases h
      · have e : (x.kind != 22) = true := by simpa using hx
        simp +contextual (maxSteps := 10000000) only [↓reduceIte, go_sem, Nat.reduceEqDiff, Nat.reduceAdd, Nat.reduceSub, Nat.reduceMul, Nat.reduceLeDiff, Nat.reduceLT, Nat.reduceBEq, Nat.reduceDiv, Nat.reduceMod, Int.reduceLE, Int.reduceLT, Int.reduceEq, Int.reduceBEq, Int.reduceBNe, Int.reduceAdd, Int.reduceSub, Int.reduceNeg, Int.reduceToNat, Int.reduceMul, Int.reducePow, Nat.reducePow, reduceCtorEq, hr, e, List.map_cons, List.map_nil, List.length_cons, List.length_nil, bne_self_eq_false]
    · have e : (v.kind != 25) = true := by simpa using h2
      simp +contextual (maxSteps := 10000000) only [↓reduceIte, go_sem, Nat.reduceEqDiff, Nat.reduceAdd, Nat.reduceSub, Nat.reduceMul, Nat.reduceLeDiff, Nat.reduceLT, Nat.reduceBEq, Nat.reduceDiv, Nat.reduceMod, Int.reduceLE, Int.reduceLT, Int.reduceEq, Int.reduceBEq, Int.reduceBNe, Int.reduceAdd, Int.reduceSub, Int.reduceNeg, Int.reduceToNat, Int.reduceMul, Int.reducePow, Nat.reducePow, reduceCtorEq, hr, e]
/-- without what is null at the end -/
def trimS (l : List Val) : List Val := (l.reverse.dropWhile fun v => v.kind == 1).reverse
def putS (code : Int) (l : List Val) : Val := .mk 25 0 ⟨#[]⟩ [.mk 6 code ⟨#[]⟩ [], .mk 22 0 ⟨#[]⟩ (trimS l)]
theorem trimS_take : ∀ (l : List Val) (n : Nat) (h : n ≤ l.length), (∀ i x, n ≤ i → l[i]? = some x → x.kind = 1) → trimS l = trimS (l.take n) := by
  intro l n h hx
  have e : l = l.take n ++ l.drop n := (List.take_append_drop n l).symm
  have hd : ∀ x ∈ (l.drop n).reverse, (x.kind == 1) = true := fun x hm => by
    obtain ⟨i, hi⟩ := List.getElem?_of_mem (List.mem_reverse.1 hm)
    rw [List.getElem?_drop] at hi
    simpa using hx _ _ (by omega) hi
  unfold trimS
  conv => lhs; rw [e]
  rw [List.reverse_append, List.dropWhile_append_of_pos hd]
theorem trimS_end {l : List Val} {n : Nat} {x : Val} (h : l[n]? = some x) (hk : x.kind ≠ 1) : trimS (l.take (n + 1)) = l.take (n + 1) := by
  rw [take_snoc h]
  unfold trimS
  rw [List.reverse_append]
  simp only [List.reverse_cons, List.reverse_nil, List.nil_append, List.cons_append]
  rw [List.dropWhile_cons, if_neg (by simpa using hk)]
  simp
theorem trimS_sz (l : List Val) : Val.szL (trimS l) ≤ Val.szL l := by
  obtain ⟨n, hn⟩ : ∃ n, trimS l = l.take n := by
    unfold trimS
    obtain ⟨t, ht⟩ := List.dropWhile_suffix (fun v : Val => v.kind == 1) (l := l.reverse)
    have : l = ((l.reverse.dropWhile fun v => v.kind == 1).reverse) ++ t.reverse := by
      rw [← List.reverse_append, ht, List.reverse_reverse]
    generalize (l.reverse.dropWhile fun v => v.kind == 1).reverse = a at this
    subst this
    exact ⟨a.length, by rw [List.take_left]⟩
  rw [hn]; exact szL_take l n
end Go.Bw.R1

namespace Go.Bw.R1
set_option maxRecDepth 5000
open Go Go.Bw Go.Proofs
abbrev zV : Option En := some ⟨0, [.sc (.int .u8 0), .sc (.int .u64 0), .sc (.string ⟨#[]⟩), .nils]⟩
theorem putS_sz (code : Int) (l : List Val) : (putS code l).sz ≤ Val.szL l + 3 := by
  have := trimS_sz l
  have e : (putS code l).sz = 0 + ((0 + 0 + 1) + ((0 + Val.szL (trimS l) + 1) + 0)) + 1 := by simp only [putS, Val.sz, Val.szL]; rfl
  omega
set_option maxHeartbeats 1000000 in
theorem fput_end (l : List Val) (n : Nat) (hn : n ≤ l.length) (h1 : ∀ i x, n ≤ i → l[i]? = some x → x.kind = 1) (h2 : ∀ x, 0 < n → l[n - 1]? = some x → x.kind ≠ 1) : l.take n = trimS l := by
  rw [trimS_take l n hn h1]
  cases n with
  | zero => rfl
  | succ n =>
    obtain ⟨x, hx⟩ := get_lt (l := l) (i := n) (by omega)
    exact (trimS_end hx (h2 x (by omega) (by simpa using hx))).symm
theorem rnumber_c (k n : Int) : EV 47 [.sc (.int .u8 k), .sc (.int .u64 n)] [] = some (.ret (Val.mk k n ⟨#[]⟩ []).d, []) := by
  refine (ev_body ⟨[], [], [], true, [], noIt⟩ [.cell 4 28] rfl Try.func47 rfl rfl rfl (by kernel_rfl) (by show 2 ≤ 8; decide)).trans ?_
  simp +contextual (maxSteps := 10000000) only [↓reduceIte, go_sem, Nat.reduceEqDiff, Nat.reduceAdd, Nat.reduceSub, Nat.reduceMul, Nat.reduceLeDiff, Nat.reduceLT, Nat.reduceBEq, Nat.reduceDiv, Nat.reduceMod, Int.reduceLE, Int.reduceLT, Int.reduceEq, Int.reduceBEq, Int.reduceBNe, Int.reduceAdd, Int.reduceSub, Int.reduceNeg, Int.reduceToNat, Int.reduceMul, Int.reducePow, Nat.reducePow, reduceCtorEq]
theorem rnull_c : EV 74 [] [] = some (.ret (Val.mk 1 0 ⟨#[]⟩ []).d, []) := by
  refine (ev_body ⟨[], [], [], true, [], noIt⟩ [.cell 0 28] rfl Try.func74 rfl rfl rfl (by kernel_rfl) (by show 0 ≤ 2; decide)).trans ?_
  simp +contextual (maxSteps := 10000000) only [↓reduceIte, go_sem, Nat.reduceEqDiff, Nat.reduceAdd, Nat.reduceSub, Nat.reduceMul, Nat.reduceLeDiff, Nat.reduceLT, Nat.reduceBEq, Nat.reduceDiv, Nat.reduceMod, Int.reduceLE, Int.reduceLT, Int.reduceEq, Int.reduceBEq, Int.reduceBNe, Int.reduceAdd, Int.reduceSub, Int.reduceNeg, Int.reduceToNat, Int.reduceMul, Int.reducePow, Nat.reducePow, reduceCtorEq]
set_option maxHeartbeats 2000000 in
theorem fput_c (code : Int) (l : List Val) (hl : Val.szL l ≤ 3999990) : EV 15 [U64 code, .ro false (l.map Val.d)] [] = some (.ret (putS code l).d, []) := by
  have hlen := szL_len l
  refine (ev_body ⟨[], [(0, [0, 1, 4, 5])], [(4, [(0, 0, false), (1, 0, false), (2, 0, false), (3, 0, false), (4, 0, false), (5, 0, false), (6, 0, false), (7, 0, true)])], true, [], noIt⟩ [.cell 4 28] rfl Try.func15 rfl rfl rfl (by kernel_rfl) (by show 2 ≤ 28; decide)).trans ?_
  simp +contextual (maxSteps := 10000000) only [↓reduceIte, go_sem, Nat.reduceEqDiff, Nat.reduceAdd, Nat.reduceSub, Nat.reduceMul, Nat.reduceLeDiff, Nat.reduceLT, Nat.reduceBEq, Nat.reduceDiv, Nat.reduceMod, Int.reduceLE, Int.reduceLT, Int.reduceEq, Int.reduceBEq, Int.reduceBNe, Int.reduceAdd, Int.reduceSub, Int.reduceNeg, Int.reduceToNat, Int.reduceMul, Int.reducePow, Nat.reducePow, reduceCtorEq]
  refine lpK_inv (fun m0 f es => ∃ (n : Nat) (j : Int), j = n ∧ m0 = n ∧ n ≤ l.length ∧ (∀ i x, n ≤ i → l[i]? = some x → x.kind = 1) ∧ f = [(0, U64 code), (1, .ro false (l.map Val.d)), (4, .ptr 0 0 0), (5, I j)] ∧ es = [zV]) l.length ⟨l.length, _, rfl, rfl, Nat.le_refl _, fun i x h1 h2 => by have := (List.getElem?_eq_some_iff.1 h2).1; omega, rfl, rfl⟩ ?_
  rintro m0 _ _ ⟨n, j, hj, hm, hn, hz, rfl, rfl⟩ ih
  have fin : (∀ x, 0 < n → l[n - 1]? = some x → x.kind ≠ 1) → (l.map Val.d).take j.toNat = (trimS l).map Val.d ∧ EV 20 [U8 22, .ro false ((trimS l).map Val.d)] [] = some (.ret (Val.mk 22 0 ⟨#[]⟩ (trimS l)).d, []) ∧ EV 45 [(Val.mk 6 code ⟨#[]⟩ []).d, (Val.mk 22 0 ⟨#[]⟩ (trimS l)).d] [] = some (.ret (putS code l).d, []) := fun h2 => by
    have e := fput_end l n hn hz h2
    have hs := trimS_sz l
    refine ⟨?_, many_c 22 (trimS l) (by omega), desc_c _ _ (by simp only [Val.sz, Val.szL]; show 0 + 0 + 1 + (0 + Val.szL (trimS l) + 1) ≤ 4000000; omega)⟩
    rw [← List.map_take, show j.toNat = n by omega, e]
  have hall : ((l.map Val.d).all fun e => e.cells.length == 4) = true := by
    rw [List.all_eq_true]; intro e he; obtain ⟨v, _, rfl⟩ := List.mem_map.1 he; rw [Val.cells]; rfl
  have hjn : j.toNat ≤ l.length := by omega
  have hjl : decide (j ≤ (l.length : Int)) = true := by simp; omega
  have hj0 : 0 ≤ j := by omega
  have hjl' : j ≤ l.length := by omega
  rcases Nat.eq_zero_or_pos n with h0 | hpos
  · obtain ⟨f0, f1, f2⟩ := fin (fun x h => by omega)
    have e0 : decide (0 < j) = false := by simp; omega
    simp +contextual (maxSteps := 10000000) only [↓reduceIte, go_sem, Nat.reduceEqDiff, Nat.reduceAdd, Nat.reduceSub, Nat.reduceMul, Nat.reduceLeDiff, Nat.reduceLT, Nat.reduceBEq, Nat.reduceDiv, Nat.reduceMod, Int.reduceLE, Int.reduceLT, Int.reduceEq, Int.reduceBEq, Int.reduceBNe, Int.reduceAdd, Int.reduceSub, Int.reduceNeg, Int.reduceToNat, Int.reduceMul, Int.reducePow, Nat.reducePow, reduceCtorEq, e0, number_c, f0, f1, f2, hj0, hjl', hjn, hall, Bool.false_and, and_self]
  · obtain ⟨x, hx⟩ := get_lt (l := l) (i := n - 1) (by omega)
    have e0 : decide (0 < j) = true := by simp; omega
    have hw := wrap_i64 (n := j - 1) (by omega) (by omega)
    have g1 : l[(j - 1).toNat]? = some x := by rw [show (j - 1).toNat = n - 1 by omega]; exact hx
    have b1 : 0 ≤ j - 1 := by omega
    have b2 : j - 1 < l.length := by omega
    by_cases hk : x.kind = 1
    · have ek : (x.kind == 1) = true := by simpa using hk
      simp +contextual (maxSteps := 10000000) only [↓reduceIte, go_sem, Nat.reduceEqDiff, Nat.reduceAdd, Nat.reduceSub, Nat.reduceMul, Nat.reduceLeDiff, Nat.reduceLT, Nat.reduceBEq, Nat.reduceDiv, Nat.reduceMod, Int.reduceLE, Int.reduceLT, Int.reduceEq, Int.reduceBEq, Int.reduceBNe, Int.reduceAdd, Int.reduceSub, Int.reduceNeg, Int.reduceToNat, Int.reduceMul, Int.reducePow, Nat.reducePow, reduceCtorEq, e0, hw, g1, b1, b2, ek]
      refine ih (n - 1) _ _ (by omega) ⟨n - 1, _, by omega, rfl, by omega, fun i y hi hy => ?_, rfl, rfl⟩
      by_cases hin : i = n - 1
      · subst hin; rw [hx] at hy; simp only [Option.some.injEq] at hy; subst hy; exact hk
      · exact hz i y (by omega) hy
    · have ek : (x.kind == 1) = false := by simpa using hk
      obtain ⟨f0, f1, f2⟩ := fin (fun y _ hy => by rw [hx] at hy; simp only [Option.some.injEq] at hy; subst hy; exact hk)
      simp +contextual (maxSteps := 10000000) only [↓reduceIte, go_sem, Nat.reduceEqDiff, Nat.reduceAdd, Nat.reduceSub, Nat.reduceMul, Nat.reduceLeDiff, Nat.reduceLT, Nat.reduceBEq, Nat.reduceDiv, Nat.reduceMod, Int.reduceLE, Int.reduceLT, Int.reduceEq, Int.reduceBEq, Int.reduceBNe, Int.reduceAdd, Int.reduceSub, Int.reduceNeg, Int.reduceToNat, Int.reduceMul, Int.reducePow, Nat.reducePow, reduceCtorEq, e0, hw, g1, b1, b2, ek, number_c, f0, f1, f2, hj0, hjl', hjn, hall, Bool.false_and, and_self]
set_option maxHeartbeats 2000000 in
theorem rput_c (code : Int) (l : List Val) (hl : Val.szL l ≤ 3999990) : EV 16 [U64 code, .ro false (l.map Val.d)] [] = some (.ret (putS code l).d, []) := by
  have hlen := szL_len l
  refine (ev_body ⟨[], [(0, [0, 1, 4, 5])], [(4, [(0, 0, false), (1, 0, false), (2, 0, false), (3, 0, false), (4, 0, false), (5, 0, false), (6, 0, false), (7, 0, true)])], true, [], noIt⟩ [.cell 4 28] rfl Try.func16 rfl rfl rfl (by kernel_rfl) (by show 2 ≤ 28; decide)).trans ?_
  simp +contextual (maxSteps := 10000000) only [↓reduceIte, go_sem, Nat.reduceEqDiff, Nat.reduceAdd, Nat.reduceSub, Nat.reduceMul, Nat.reduceLeDiff, Nat.reduceLT, Nat.reduceBEq, Nat.reduceDiv, Nat.reduceMod, Int.reduceLE, Int.reduceLT, Int.reduceEq, Int.reduceBEq, Int.reduceBNe, Int.reduceAdd, Int.reduceSub, Int.reduceNeg, Int.reduceToNat, Int.reduceMul, Int.reducePow, Nat.reducePow, reduceCtorEq]
  refine lpK_inv (fun m0 f es => ∃ (n : Nat) (j : Int), j = n ∧ m0 = n ∧ n ≤ l.length ∧ (∀ i x, n ≤ i → l[i]? = some x → x.kind = 1) ∧ f = [(0, U64 code), (1, .ro false (l.map Val.d)), (4, .ptr 0 0 0), (5, I j)] ∧ es = [zV]) l.length ⟨l.length, _, rfl, rfl, Nat.le_refl _, fun i x h1 h2 => by have := (List.getElem?_eq_some_iff.1 h2).1; omega, rfl, rfl⟩ ?_
  rintro m0 _ _ ⟨n, j, hj, hm, hn, hz, rfl, rfl⟩ ih
  have fin : (∀ x, 0 < n → l[n - 1]? = some x → x.kind ≠ 1) → (l.map Val.d).take j.toNat = (trimS l).map Val.d ∧ EV 18 [U8 22, .ro false ((trimS l).map Val.d)] [] = some (.ret (Val.mk 22 0 ⟨#[]⟩ (trimS l)).d, []) ∧ EV 46 [(Val.mk 6 code ⟨#[]⟩ []).d, (Val.mk 22 0 ⟨#[]⟩ (trimS l)).d] [] = some (.ret (putS code l).d, []) := fun h2 => by
    have e := fput_end l n hn hz h2
    have hs := trimS_sz l
    refine ⟨?_, rmany_c 22 (trimS l) (by omega), rdesc_c _ _ (by simp only [Val.sz, Val.szL]; show 0 + 0 + 1 + (0 + Val.szL (trimS l) + 1) ≤ 4000000; omega)⟩
    rw [← List.map_take, show j.toNat = n by omega, e]
  have hall : ((l.map Val.d).all fun e => e.cells.length == 4) = true := by
    rw [List.all_eq_true]; intro e he; obtain ⟨v, _, rfl⟩ := List.mem_map.1 he; rw [Val.cells]; rfl
  have hjn : j.toNat ≤ l.length := by omega
  have hjl : decide (j ≤ (l.length : Int)) = true := by simp; omega
  have hj0 : 0 ≤ j := by omega
  have hjl' : j ≤ l.length := by omega
  rcases Nat.eq_zero_or_pos n with h0 | hpos
  · obtain ⟨f0, f1, f2⟩ := fin (fun x h => by omega)
    have e0 : decide (0 < j) = false := by simp; omega
    simp +contextual (maxSteps := 10000000) only [↓reduceIte, go_sem, Nat.reduceEqDiff, Nat.reduceAdd, Nat.reduceSub, Nat.reduceMul, Nat.reduceLeDiff, Nat.reduceLT, Nat.reduceBEq, Nat.reduceDiv, Nat.reduceMod, Int.reduceLE, Int.reduceLT, Int.reduceEq, Int.reduceBEq, Int.reduceBNe, Int.reduceAdd, Int.reduceSub, Int.reduceNeg, Int.reduceToNat, Int.reduceMul, Int.reducePow, Nat.reducePow, reduceCtorEq, e0, rnumber_c, f0, f1, f2, hj0, hjl', hjn, hall, Bool.false_and, and_self]
  · obtain ⟨x, hx⟩ := get_lt (l := l) (i := n - 1) (by omega)
    have e0 : decide (0 < j) = true := by simp; omega
    have hw := wrap_i64 (n := j - 1) (by omega) (by omega)
    have g1 : l[(j - 1).toNat]? = some x := by rw [show (j - 1).toNat = n - 1 by omega]; exact hx
    have b1 : 0 ≤ j - 1 := by omega
    have b2 : j - 1 < l.length := by omega
    by_cases hk : x.kind = 1
    · have ek : (x.kind == 1) = true := by simpa using hk
      simp +contextual (maxSteps := 10000000) only [↓reduceIte, go_sem, Nat.reduceEqDiff, Nat.reduceAdd, Nat.reduceSub, Nat.reduceMul, Nat.reduceLeDiff, Nat.reduceLT, Nat.reduceBEq, Nat.reduceDiv, Nat.reduceMod, Int.reduceLE, Int.reduceLT, Int.reduceEq, Int.reduceBEq, Int.reduceBNe, Int.reduceAdd, Int.reduceSub, Int.reduceNeg, Int.reduceToNat, Int.reduceMul, Int.reducePow, Nat.reducePow, reduceCtorEq, e0, hw, g1, b1, b2, ek]
      refine ih (n - 1) _ _ (by omega) ⟨n - 1, _, by omega, rfl, by omega, fun i y hi hy => ?_, rfl, rfl⟩
      by_cases hin : i = n - 1
      · subst hin; rw [hx] at hy; simp only [Option.some.injEq] at hy; subst hy; exact hk
      · exact hz i y (by omega) hy
    · have ek : (x.kind == 1) = false := by simpa using hk
      obtain ⟨f0, f1, f2⟩ := fin (fun y _ hy => by rw [hx] at hy; simp only [Option.some.injEq] at hy; subst hy; exact hk)
      simp +contextual (maxSteps := 10000000) only [↓reduceIte, go_sem, Nat.reduceEqDiff, Nat.reduceAdd, Nat.reduceSub, Nat.reduceMul, Nat.reduceLeDiff, Nat.reduceLT, Nat.reduceBEq, Nat.reduceDiv, Nat.reduceMod, Int.reduceLE, Int.reduceLT, Int.reduceEq, Int.reduceBEq, Int.reduceBNe, Int.reduceAdd, Int.reduceSub, Int.reduceNeg, Int.reduceToNat, Int.reduceMul, Int.reducePow, Nat.reducePow, reduceCtorEq, e0, hw, g1, b1, b2, ek, rnumber_c, f0, f1, f2, hj0, hjl', hjn, hall, Bool.false_and, and_self]
end Go.Bw.R1

namespace Go.Bw.R1
set_option maxRecDepth 5000
open Go Go.Bw Go.Proofs
abbrev vZ : Val := .mk 0 0 ⟨#[]⟩ []
set_option maxHeartbeats 1000000 in
theorem rhas_c (l : List Val) (sp : Bool) (i : Int) : EV 63 [.ptr 0 0 0, I i] [fRow l sp] = some (.ret (B (atS l i).isSome), [fRow l sp]) := by
  refine (ev_body ⟨[], [], [], false, [], noIt⟩ [.tmp 4] rfl Try.func63 rfl rfl rfl (by kernel_rfl) (by show 2 ≤ 27; decide)).trans ?_
  unfold atS
  rcases Int.lt_or_le i 0 with hi | hi
  · have e1 : decide (0 ≤ i) = false := by simp; omega
    simp +contextual (maxSteps := 10000000) only [↓reduceIte, go_sem, Nat.reduceEqDiff, Nat.reduceAdd, Nat.reduceSub, Nat.reduceMul, Nat.reduceLeDiff, Nat.reduceLT, Nat.reduceBEq, Nat.reduceDiv, Nat.reduceMod, Int.reduceLE, Int.reduceLT, Int.reduceEq, Int.reduceBEq, Int.reduceBNe, Int.reduceAdd, Int.reduceSub, Int.reduceNeg, Int.reduceToNat, Int.reduceMul, Int.reducePow, Nat.reducePow, reduceCtorEq, e1, hi, Option.isSome]
  · have e1 : decide (0 ≤ i) = true := by simp; omega
    have e2 : ¬ i < 0 := by omega
    rcases Int.lt_or_le i l.length with h2 | h2
    · obtain ⟨x, hx⟩ := get_lt (l := l) (i := i.toNat) (by omega)
      have e3 : decide (i < l.length) = true := by simpa using h2
      by_cases hk : x.kind = 1
      · have e4 : (x.kind != 1) = false := by simpa using hk
        simp +contextual (maxSteps := 10000000) only [↓reduceIte, go_sem, Nat.reduceEqDiff, Nat.reduceAdd, Nat.reduceSub, Nat.reduceMul, Nat.reduceLeDiff, Nat.reduceLT, Nat.reduceBEq, Nat.reduceDiv, Nat.reduceMod, Int.reduceLE, Int.reduceLT, Int.reduceEq, Int.reduceBEq, Int.reduceBNe, Int.reduceAdd, Int.reduceSub, Int.reduceNeg, Int.reduceToNat, Int.reduceMul, Int.reducePow, Nat.reducePow, reduceCtorEq, e1, e2, e3, hx, hi, h2, e4, hk, Option.isSome]
      · have e4 : (x.kind != 1) = true := by simpa using hk
        simp +contextual (maxSteps := 10000000) only [↓reduceIte, go_sem, Nat.reduceEqDiff, Nat.reduceAdd, Nat.reduceSub, Nat.reduceMul, Nat.reduceLeDiff, Nat.reduceLT, Nat.reduceBEq, Nat.reduceDiv, Nat.reduceMod, Int.reduceLE, Int.reduceLT, Int.reduceEq, Int.reduceBEq, Int.reduceBNe, Int.reduceAdd, Int.reduceSub, Int.reduceNeg, Int.reduceToNat, Int.reduceMul, Int.reducePow, Nat.reducePow, reduceCtorEq, e1, e2, e3, hx, hi, h2, e4, hk, Option.isSome]
    · have e3 : decide (i < l.length) = false := by simp; omega
      have hn : l[i.toNat]? = none := List.getElem?_eq_none (by omega)
      simp +contextual (maxSteps := 10000000) only [↓reduceIte, go_sem, Nat.reduceEqDiff, Nat.reduceAdd, Nat.reduceSub, Nat.reduceMul, Nat.reduceLeDiff, Nat.reduceLT, Nat.reduceBEq, Nat.reduceDiv, Nat.reduceMod, Int.reduceLE, Int.reduceLT, Int.reduceEq, Int.reduceBEq, Int.reduceBNe, Int.reduceAdd, Int.reduceSub, Int.reduceNeg, Int.reduceToNat, Int.reduceMul, Int.reducePow, Nat.reducePow, reduceCtorEq, e1, e2, e3, hn, Option.isSome]
set_option maxHeartbeats 1000000 in
theorem rtake_none (l : List Val) (sp must : Bool) (i : Int) (h : atS l i = none) : EV 95 [.ptr 0 0 0, I i, B must] [fRow l sp] = some (.ret (.tup [vZ.d, B false]), [fRow l (sp || must)]) := by
  have hh := rhas_c l sp i
  rw [h] at hh
  simp only [Option.isSome] at hh
  refine (ev_body ⟨[], [], [], true, [], noIt⟩ [.cell 6 28, .tmp 7] rfl Try.func95 rfl rfl rfl (by kernel_rfl) (by show 3 ≤ 30; decide)).trans ?_
  cases sp
  · simp +contextual (maxSteps := 10000000) only [↓reduceIte, go_sem, Nat.reduceEqDiff, Nat.reduceAdd, Nat.reduceSub, Nat.reduceMul, Nat.reduceLeDiff, Nat.reduceLT, Nat.reduceBEq, Nat.reduceDiv, Nat.reduceMod, Int.reduceLE, Int.reduceLT, Int.reduceEq, Int.reduceBEq, Int.reduceBNe, Int.reduceAdd, Int.reduceSub, Int.reduceNeg, Int.reduceToNat, Int.reduceMul, Int.reducePow, Nat.reducePow, reduceCtorEq, hh, Bool.false_or]
  · simp +contextual (maxSteps := 10000000) only [↓reduceIte, go_sem, Nat.reduceEqDiff, Nat.reduceAdd, Nat.reduceSub, Nat.reduceMul, Nat.reduceLeDiff, Nat.reduceLT, Nat.reduceBEq, Nat.reduceDiv, Nat.reduceMod, Int.reduceLE, Int.reduceLT, Int.reduceEq, Int.reduceBEq, Int.reduceBNe, Int.reduceAdd, Int.reduceSub, Int.reduceNeg, Int.reduceToNat, Int.reduceMul, Int.reducePow, Nat.reducePow, reduceCtorEq, hh, Bool.true_or]
set_option maxHeartbeats 1000000 in
theorem rtake_some (l : List Val) (sp must : Bool) (i : Int) (x : Val) (h : atS l i = some x) : EV 95 [.ptr 0 0 0, I i, B must] [fRow l sp] = some (.ret (.tup [x.d, B true]), [fRow l sp]) := by
  obtain ⟨h1, h2, h3, h4⟩ := atS_len h
  have hh := rhas_c l sp i
  rw [h] at hh
  simp only [Option.isSome] at hh
  refine (ev_body ⟨[], [], [], true, [], noIt⟩ [.cell 6 28, .tmp 7] rfl Try.func95 rfl rfl rfl (by kernel_rfl) (by show 3 ≤ 30; decide)).trans ?_
  simp +contextual (maxSteps := 10000000) only [↓reduceIte, go_sem, Nat.reduceEqDiff, Nat.reduceAdd, Nat.reduceSub, Nat.reduceMul, Nat.reduceLeDiff, Nat.reduceLT, Nat.reduceBEq, Nat.reduceDiv, Nat.reduceMod, Int.reduceLE, Int.reduceLT, Int.reduceEq, Int.reduceBEq, Int.reduceBNe, Int.reduceAdd, Int.reduceSub, Int.reduceNeg, Int.reduceToNat, Int.reduceMul, Int.reducePow, Nat.reducePow, reduceCtorEq, hh, h1, h2, h3]
set_option maxHeartbeats 1000000 in
theorem rnumber_f (l : List Val) (sp : Bool) (i kind : Int) (must : Bool) (none : Int) : EV 64 [.ptr 0 0 0, I i, U8 kind, B must, U64 none] [fRow l sp] = some (.ret (U64 (numS' l i kind must none).1), [fRow l (sp || (numS' l i kind must none).2)]) := by
  refine (ev_body ⟨[], [], [], false, [], noIt⟩ [.tmp 10] rfl Try.func64 rfl rfl rfl (by kernel_rfl) (by show 5 ≤ 33; decide)).trans ?_
  unfold numS'
  cases h : atS l i with
  | none => simp +contextual (maxSteps := 10000000) only [↓reduceIte, go_sem, Nat.reduceEqDiff, Nat.reduceAdd, Nat.reduceSub, Nat.reduceMul, Nat.reduceLeDiff, Nat.reduceLT, Nat.reduceBEq, Nat.reduceDiv, Nat.reduceMod, Int.reduceLE, Int.reduceLT, Int.reduceEq, Int.reduceBEq, Int.reduceBNe, Int.reduceAdd, Int.reduceSub, Int.reduceNeg, Int.reduceToNat, Int.reduceMul, Int.reducePow, Nat.reducePow, reduceCtorEq, rtake_none l sp must i h]
  | some x =>
    by_cases hk : x.kind = kind
    · have e : (kind != kind) = false := by simp
      simp +contextual (maxSteps := 10000000) only [↓reduceIte, go_sem, Nat.reduceEqDiff, Nat.reduceAdd, Nat.reduceSub, Nat.reduceMul, Nat.reduceLeDiff, Nat.reduceLT, Nat.reduceBEq, Nat.reduceDiv, Nat.reduceMod, Int.reduceLE, Int.reduceLT, Int.reduceEq, Int.reduceBEq, Int.reduceBNe, Int.reduceAdd, Int.reduceSub, Int.reduceNeg, Int.reduceToNat, Int.reduceMul, Int.reducePow, Nat.reducePow, reduceCtorEq, rtake_some l sp must i x h, hk, e, Bool.or_false]
    · have e : (x.kind != kind) = true := by simpa using hk
      simp +contextual (maxSteps := 10000000) only [↓reduceIte, go_sem, Nat.reduceEqDiff, Nat.reduceAdd, Nat.reduceSub, Nat.reduceMul, Nat.reduceLeDiff, Nat.reduceLT, Nat.reduceBEq, Nat.reduceDiv, Nat.reduceMod, Int.reduceLE, Int.reduceLT, Int.reduceEq, Int.reduceBEq, Int.reduceBNe, Int.reduceAdd, Int.reduceSub, Int.reduceNeg, Int.reduceToNat, Int.reduceMul, Int.reducePow, Nat.reducePow, reduceCtorEq, rtake_some l sp must i x h, hk, e, Bool.or_true]
set_option maxHeartbeats 1000000 in
theorem rtext_f (l : List Val) (sp : Bool) (i kind : Int) (must : Bool) : EV 66 [.ptr 0 0 0, I i, U8 kind, B must] [fRow l sp] = some (.ret (Sx (txtS l i kind must).1), [fRow l (sp || (txtS l i kind must).2)]) := by
  refine (ev_body ⟨[], [], [], false, [], noIt⟩ [.tmp 8] rfl Try.func66 rfl rfl rfl (by kernel_rfl) (by show 4 ≤ 29; decide)).trans ?_
  unfold txtS
  cases h : atS l i with
  | none => simp +contextual (maxSteps := 10000000) only [↓reduceIte, go_sem, Nat.reduceEqDiff, Nat.reduceAdd, Nat.reduceSub, Nat.reduceMul, Nat.reduceLeDiff, Nat.reduceLT, Nat.reduceBEq, Nat.reduceDiv, Nat.reduceMod, Int.reduceLE, Int.reduceLT, Int.reduceEq, Int.reduceBEq, Int.reduceBNe, Int.reduceAdd, Int.reduceSub, Int.reduceNeg, Int.reduceToNat, Int.reduceMul, Int.reducePow, Nat.reducePow, reduceCtorEq, rtake_none l sp must i h]
  | some x =>
    by_cases hk : x.kind = kind
    · have e : (kind != kind) = false := by simp
      simp +contextual (maxSteps := 10000000) only [↓reduceIte, go_sem, Nat.reduceEqDiff, Nat.reduceAdd, Nat.reduceSub, Nat.reduceMul, Nat.reduceLeDiff, Nat.reduceLT, Nat.reduceBEq, Nat.reduceDiv, Nat.reduceMod, Int.reduceLE, Int.reduceLT, Int.reduceEq, Int.reduceBEq, Int.reduceBNe, Int.reduceAdd, Int.reduceSub, Int.reduceNeg, Int.reduceToNat, Int.reduceMul, Int.reducePow, Nat.reducePow, reduceCtorEq, rtake_some l sp must i x h, hk, e, Bool.or_false]
    · have e : (x.kind != kind) = true := by simpa using hk
      simp +contextual (maxSteps := 10000000) only [↓reduceIte, go_sem, Nat.reduceEqDiff, Nat.reduceAdd, Nat.reduceSub, Nat.reduceMul, Nat.reduceLeDiff, Nat.reduceLT, Nat.reduceBEq, Nat.reduceDiv, Nat.reduceMod, Int.reduceLE, Int.reduceLT, Int.reduceEq, Int.reduceBEq, Int.reduceBNe, Int.reduceAdd, Int.reduceSub, Int.reduceNeg, Int.reduceToNat, Int.reduceMul, Int.reducePow, Nat.reducePow, reduceCtorEq, rtake_some l sp must i x h, hk, e, Bool.or_true]
theorem rbool_f (l : List Val) (sp : Bool) (i : Int) (must : Bool) : EV 65 [.ptr 0 0 0, I i, B must] [fRow l sp] = some (.ret (B ((numS' l i 2 must 0).1 == 1)), [fRow l (sp || (numS' l i 2 must 0).2)]) := by
  refine (ev_body ⟨[], [], [], false, [], noIt⟩ [.tmp 6] rfl Try.func65 rfl rfl rfl (by kernel_rfl) (by show 3 ≤ 12; decide)).trans ?_
  simp +contextual (maxSteps := 10000000) only [↓reduceIte, go_sem, Nat.reduceEqDiff, Nat.reduceAdd, Nat.reduceSub, Nat.reduceMul, Nat.reduceLeDiff, Nat.reduceLT, Nat.reduceBEq, Nat.reduceDiv, Nat.reduceMod, Int.reduceLE, Int.reduceLT, Int.reduceEq, Int.reduceBEq, Int.reduceBNe, Int.reduceAdd, Int.reduceSub, Int.reduceNeg, Int.reduceToNat, Int.reduceMul, Int.reducePow, Nat.reducePow, reduceCtorEq, rnumber_f]
set_option maxHeartbeats 2000000 in
theorem rvalue_f (l : List Val) (hl : Val.szL l ≤ 4000000) (sp : Bool) (i : Int) (ks : List Int) (hks : ks.length ≤ 4000000) : EV 67 [.ptr 0 0 0, I i, .ro false (u8L ks)] [fRow l sp] = some (.ret (valS l i ks).1.d, [fRow l (sp || (valS l i ks).2)]) := by
  refine (ev_body ⟨[], [(0, [0, 2, 6, 7, 9, 10])], [(8, [(0, 0, false), (1, 0, false), (2, 0, false), (3, 0, false), (4, 0, false), (5, 0, false), (6, 0, false), (7, 0, false), (8, 0, false), (9, 0, false), (10, 0, false)])], true, [], noIt⟩ [.cell 6 28] rfl Try.func67 rfl rfl rfl (by kernel_rfl) (by show 3 ≤ 47; decide)).trans ?_
  unfold valS
  cases h : atS l i with
  | none => simp +contextual (maxSteps := 10000000) only [↓reduceIte, go_sem, Nat.reduceEqDiff, Nat.reduceAdd, Nat.reduceSub, Nat.reduceMul, Nat.reduceLeDiff, Nat.reduceLT, Nat.reduceBEq, Nat.reduceDiv, Nat.reduceMod, Int.reduceLE, Int.reduceLT, Int.reduceEq, Int.reduceBEq, Int.reduceBNe, Int.reduceAdd, Int.reduceSub, Int.reduceNeg, Int.reduceToNat, Int.reduceMul, Int.reducePow, Nat.reducePow, reduceCtorEq, rtake_none l sp false i h, rnull_c]
  | some x =>
    have hx := szL_mem (atS_len h).2.2.1
    have hcp := rcopy_c _ x (Nat.le_refl _) (by omega)
    have hz : ((ks.length : Int) == 0) = decide (ks = []) := by
      cases ks with
      | nil => rfl
      | cons a r => simp; omega
    simp +contextual (maxSteps := 10000000) only [↓reduceIte, go_sem, Nat.reduceEqDiff, Nat.reduceAdd, Nat.reduceSub, Nat.reduceMul, Nat.reduceLeDiff, Nat.reduceLT, Nat.reduceBEq, Nat.reduceDiv, Nat.reduceMod, Int.reduceLE, Int.reduceLT, Int.reduceEq, Int.reduceBEq, Int.reduceBNe, Int.reduceAdd, Int.reduceSub, Int.reduceNeg, Int.reduceToNat, Int.reduceMul, Int.reducePow, Nat.reducePow, reduceCtorEq, rtake_some l sp false i x h]
    refine lpK_inv (fun m0 f es => ∃ (i : Nat) (j : Int) (b : Bool), j = i ∧ i + m0 = ks.length ∧ b = (decide (ks = []) || decide (x.kind ∈ ks.take i)) ∧ f = [(0, .ptr 0 0 0), (2, .ro false (u8L ks)), (6, .ptr 1 0 0), (7, .ptr 2 0 0), (9, B b), (10, I j)] ∧ es = [fRow l sp, zV, some ⟨0, x.cs⟩]) ks.length ⟨0, _, _, rfl, by omega, (by simp [hz]), rfl, rfl⟩ ?_
    rintro m0 _ _ ⟨i, j, b, hj, hi, hb, rfl, rfl⟩ ih
    rcases Nat.lt_or_ge i ks.length with hlt | hge
    · obtain ⟨y, hy⟩ := get_lt hlt
      have hlt' : decide (j < ks.length) = true := by simp <;> omega
      have g1 : ks[j.toNat]? = some y := by rw [show j.toNat = i by omega]; exact hy
      have hs := take_snoc hy
      cases b
      · simp +contextual (maxSteps := 10000000) only [↓reduceIte, go_sem, Nat.reduceEqDiff, Nat.reduceAdd, Nat.reduceSub, Nat.reduceMul, Nat.reduceLeDiff, Nat.reduceLT, Nat.reduceBEq, Nat.reduceDiv, Nat.reduceMod, Int.reduceLE, Int.reduceLT, Int.reduceEq, Int.reduceBEq, Int.reduceBNe, Int.reduceAdd, Int.reduceSub, Int.reduceNeg, Int.reduceToNat, Int.reduceMul, Int.reducePow, Nat.reducePow, reduceCtorEq, hlt', g1, show 0 ≤ j by omega, show j < ks.length by omega, wrap_i64 (n := j + 1) (by omega) (by omega)]
        refine ih (m0 - 1) _ _ (by omega) ⟨i + 1, _, _, by omega, by omega, ?_, rfl, rfl⟩
        have e : (decide (ks = []) || decide (x.kind ∈ ks.take i)) = false := hb.symm
        rw [hs]
        simp only [List.mem_append, List.mem_singleton, Bool.decide_or, ← Bool.or_assoc, e, Bool.false_or]
        rw [Bool.beq_eq_decide_eq, decide_eq_decide]
        exact eq_comm
      · simp +contextual (maxSteps := 10000000) only [↓reduceIte, go_sem, Nat.reduceEqDiff, Nat.reduceAdd, Nat.reduceSub, Nat.reduceMul, Nat.reduceLeDiff, Nat.reduceLT, Nat.reduceBEq, Nat.reduceDiv, Nat.reduceMod, Int.reduceLE, Int.reduceLT, Int.reduceEq, Int.reduceBEq, Int.reduceBNe, Int.reduceAdd, Int.reduceSub, Int.reduceNeg, Int.reduceToNat, Int.reduceMul, Int.reducePow, Nat.reducePow, reduceCtorEq, hlt', g1, show 0 ≤ j by omega, show j < ks.length by omega, wrap_i64 (n := j + 1) (by omega) (by omega)]
        refine ih (m0 - 1) _ _ (by omega) ⟨i + 1, _, _, by omega, by omega, ?_, rfl, rfl⟩
        have e : (decide (ks = []) || decide (x.kind ∈ ks.take i)) = true := hb.symm
        rw [hs]
        simp only [List.mem_append, Bool.decide_or, ← Bool.or_assoc, e, Bool.true_or]
    · have hlt' : decide (j < ks.length) = false := by simp <;> omega
      rw [List.take_of_length_le hge] at hb
      have hbb : (ks = [] ∨ x.kind ∈ ks) = (b = true) := by rw [hb]; simp
      cases b
      · simp +contextual (maxSteps := 10000000) only [↓reduceIte, go_sem, Nat.reduceEqDiff, Nat.reduceAdd, Nat.reduceSub, Nat.reduceMul, Nat.reduceLeDiff, Nat.reduceLT, Nat.reduceBEq, Nat.reduceDiv, Nat.reduceMod, Int.reduceLE, Int.reduceLT, Int.reduceEq, Int.reduceBEq, Int.reduceBNe, Int.reduceAdd, Int.reduceSub, Int.reduceNeg, Int.reduceToNat, Int.reduceMul, Int.reducePow, Nat.reducePow, reduceCtorEq, hlt', rnull_c, hbb, Bool.false_eq_true, if_false, Bool.or_true]
      · simp +contextual (maxSteps := 10000000) only [↓reduceIte, go_sem, Nat.reduceEqDiff, Nat.reduceAdd, Nat.reduceSub, Nat.reduceMul, Nat.reduceLeDiff, Nat.reduceLT, Nat.reduceBEq, Nat.reduceDiv, Nat.reduceMod, Int.reduceLE, Int.reduceLT, Int.reduceEq, Int.reduceBEq, Int.reduceBNe, Int.reduceAdd, Int.reduceSub, Int.reduceNeg, Int.reduceToNat, Int.reduceMul, Int.reducePow, Nat.reducePow, reduceCtorEq, hlt', hcp, hbb, if_true, Bool.or_false]
theorem rdone_c (l : List Val) (sp : Bool) (n : Int) : EV 31 [.ptr 0 0 0, I n] [fRow l sp] = some (.ret (I (if sp || decide (n < l.length) then 6 else 0)), [fRow l sp]) := by
  refine (ev_body ⟨[], [], [], false, [], noIt⟩ [.tmp 4] rfl Try.func31 rfl rfl rfl (by kernel_rfl) (by show 2 ≤ 18; decide)).trans ?_
  cases sp
  · simp +contextual (maxSteps := 10000000) only [↓reduceIte, go_sem, Nat.reduceEqDiff, Nat.reduceAdd, Nat.reduceSub, Nat.reduceMul, Nat.reduceLeDiff, Nat.reduceLT, Nat.reduceBEq, Nat.reduceDiv, Nat.reduceMod, Int.reduceLE, Int.reduceLT, Int.reduceEq, Int.reduceBEq, Int.reduceBNe, Int.reduceAdd, Int.reduceSub, Int.reduceNeg, Int.reduceToNat, Int.reduceMul, Int.reducePow, Nat.reducePow, reduceCtorEq]
    cases decide (n < l.length) <;> rfl
  · simp +contextual (maxSteps := 10000000) only [↓reduceIte, go_sem, Nat.reduceEqDiff, Nat.reduceAdd, Nat.reduceSub, Nat.reduceMul, Nat.reduceLeDiff, Nat.reduceLT, Nat.reduceBEq, Nat.reduceDiv, Nat.reduceMod, Int.reduceLE, Int.reduceLT, Int.reduceEq, Int.reduceBEq, Int.reduceBNe, Int.reduceAdd, Int.reduceSub, Int.reduceNeg, Int.reduceToNat, Int.reduceMul, Int.reducePow, Nat.reducePow, reduceCtorEq]
set_option maxHeartbeats 1000000 in
theorem rnew_some (v : Val) (hs : v.sz ≤ 4000000) (code : Int) (name : ByteArray) (l : List Val) (h : newS v code name = some l) : EV 27 [v.d, U64 code, Sx name] [] = some (.ret (.tup [.ptr 0 0 0, I 0]), [fRow l false]) := by
  obtain ⟨h1, h2, d, x, hk, hx, hc, rfl, _⟩ := newS_some h
  obtain ⟨k, n, t, kids⟩ := v
  obtain ⟨k2, n2, t2, l2⟩ := x
  simp only [Val.kind_mk, Val.kids_mk] at h2 hk hx
  subst h2 hk hx
  have hr := rright_v _ hs
  rw [h1] at hr
  have hz := Val.sz_eq (Val.mk 25 n t [d, Val.mk 22 n2 t2 l2])
  have hz2 := Val.sz_eq (Val.mk 22 n2 t2 l2)
  simp only [Val.kids_mk, Val.szL] at hz hz2
  have hcp := copyAll_c l2 (by omega)
  refine (ev_body ⟨[3], [], [], false, [], noIt⟩ [.tmp 6, .tmp 7] rfl Try.func27 rfl rfl rfl (by kernel_rfl) (by show 3 ≤ 59; decide)).trans ?_
  unfold calledS at hc
  cases e1 : d.kind == 6 <;> cases e2 : d.num == code <;> cases e3 : d.kind == 21 <;> cases e4 : decide (d.text = name) <;> simp only [e1, e2, e3, e4, Bool.false_and, Bool.and_false, Bool.true_and, Bool.or_self, Bool.false_or, Bool.or_false, Bool.or_true, Bool.true_or, Bool.false_eq_true, reduceCtorEq] at hc
  all_goals simp +contextual (maxSteps := 10000000) only [↓reduceIte, go_sem, Nat.reduceEqDiff, Nat.reduceAdd, Nat.reduceSub, Nat.reduceMul, Nat.reduceLeDiff, Nat.reduceLT, Nat.reduceBEq, Nat.reduceDiv, Nat.reduceMod, Int.reduceLE, Int.reduceLT, Int.reduceEq, Int.reduceBEq, Int.reduceBNe, Int.reduceAdd, Int.reduceSub, Int.reduceNeg, Int.reduceToNat, Int.reduceMul, Int.reducePow, Nat.reducePow, reduceCtorEq, hr, hcp, e1, e2, e3, e4, List.map_cons, List.map_nil, List.length_cons, List.length_nil, bne_self_eq_false]
set_option maxHeartbeats 1000000 in
theorem rnew_none (v : Val) (hs : v.sz ≤ 4000000) (code : Int) (name : ByteArray) (h : newS v code name = none) : EV 27 [v.d, U64 code, Sx name] [] = some (.ret (.tup [.nilp, I 6]), []) := by
  have hr := rright_v v hs
  refine (ev_body ⟨[3], [], [], false, [], noIt⟩ [.tmp 6, .tmp 7] rfl Try.func27 rfl rfl rfl (by kernel_rfl) (by show 3 ≤ 59; decide)).trans ?_
  cases h1 : rightS v
  · rw [h1] at hr
    simp +contextual (maxSteps := 10000000) only [↓reduceIte, go_sem, Nat.reduceEqDiff, Nat.reduceAdd, Nat.reduceSub, Nat.reduceMul, Nat.reduceLeDiff, Nat.reduceLT, Nat.reduceBEq, Nat.reduceDiv, Nat.reduceMod, Int.reduceLE, Int.reduceLT, Int.reduceEq, Int.reduceBEq, Int.reduceBNe, Int.reduceAdd, Int.reduceSub, Int.reduceNeg, Int.reduceToNat, Int.reduceMul, Int.reducePow, Nat.reducePow, reduceCtorEq, hr]
  · rw [h1] at hr
    by_cases h2 : v.kind = 25
    · obtain ⟨d, x, hk, _, _⟩ := may_desc (right_may h1) h2
      unfold newS at h
      rw [if_pos ⟨h1, h2⟩, hk] at h
      simp only at h
      obtain ⟨k, n, t, kids⟩ := v
      simp only [Val.kind_mk, Val.kids_mk] at h2 hk
      subst h2 hk
      by_cases hx : x.kind = 22
      · have hc : calledS d code name = false := by
          cases hc : calledS d code name
          · rfl
          · rw [if_pos ⟨hx, hc⟩] at h; cases h
        unfold calledS at hc
        cases e1 : d.kind == 6 <;> cases e2 : d.num == code <;> cases e3 : d.kind == 21 <;> cases e4 : decide (d.text = name) <;> simp only [e1, e2, e3, e4, Bool.false_and, Bool.and_false, Bool.true_and, Bool.or_self, Bool.false_or, Bool.or_false, Bool.or_true, Bool.true_or, Bool.false_eq_true, reduceCtorEq] at hc
        all_goals simp +contextual (maxSteps := 10000000) only [↓reduceIte, go_sem, Nat.reduceEqDiff, Nat.reduceAdd, Nat.reduceSub, Nat.reduceMul, Nat.reduceLeDiff, Nat.reduceLT, Nat.reduceBEq, Nat.reduceDiv, Nat.reduceMod, Int.reduceLE, Int.reduceLT, Int.reduceEq, Int.reduceBEq, Int.reduceBNe, Int.reduceAdd, Int.reduceSub, Int.reduceNeg, Int.reduceToNat, Int.reduceMul, Int.reducePow, Nat.reducePow, reduceCtorEq, hr, hx, e1, e2, e3, e4, List.map_cons, List.map_nil, List.length_cons, List.length_nil, bne_self_eq_false]
      · have e : (x.kind != 22) = true := by simpa using hx
        simp +contextual (maxSteps := 10000000) only [↓reduceIte, go_sem, Nat.reduceEqDiff, Nat.reduceAdd, Nat.reduceSub, Nat.reduceMul, Nat.reduceLeDiff, Nat.reduceLT, Nat.reduceBEq, Nat.reduceDiv, Nat.reduceMod, Int.reduceLE, Int.reduceLT, Int.reduceEq, Int.reduceBEq, Int.reduceBNe, Int.reduceAdd, Int.reduceSub, Int.reduceNeg, Int.reduceToNat, Int.reduceMul, Int.reducePow, Nat.reducePow, reduceCtorEq, hr, e, List.map_cons, List.map_nil, List.length_cons, List.length_nil, bne_self_eq_false]
    · have e : (v.kind != 25) = true := by simpa using h2
      simp +contextual (maxSteps := 10000000) only [↓reduceIte, go_sem, Nat.reduceEqDiff, Nat.reduceAdd, Nat.reduceSub, Nat.reduceMul, Nat.reduceLeDiff, Nat.reduceLT, Nat.reduceBEq, Nat.reduceDiv, Nat.reduceMod, Int.reduceLE, Int.reduceLT, Int.reduceEq, Int.reduceBEq, Int.reduceBNe, Int.reduceAdd, Int.reduceSub, Int.reduceNeg, Int.reduceToNat, Int.reduceMul, Int.reducePow, Nat.reducePow, reduceCtorEq, hr, e]
end Go.Bw.R1

namespace Go.Bw.R1
set_option maxRecDepth 5000
open Go Go.Bw Go.Proofs
theorem may_leaf {v : Val} (h : mayS v = true) (hk : v.kind ≤ 21) : v.kids = [] := by
  rw [mayS_eq] at h
  simp only [Bool.and_eq_true] at h
  have hf := h.2.2
  simp only [famS] at hf
  rw [if_neg (by simp; omega), if_neg (by simp; omega), if_neg (by simp; omega), if_neg (by simp; omega)] at hf
  simpa using hf
theorem fsE_strs {es : Sto} {F : Nat → Bool} {n i v len : Nat} {l : List ByteArray} (hl : l.length = len) : fsE es F n i v 1 0 len true (some ⟨v, rowE (fun s : ByteArray => D.sc (.string s)) l⟩) = .ro false (l.map fun s => D.sc (.string s)) := fsE_rowE strOk hl
attribute [go_sem] fsE_strs
abbrev strD : ByteArray → D := fun s => D.sc (.string s)
theorem val_none (l : List Val) (i : Int) (ks : List Int) (h : atS l i = none) : valS l i ks = (vN, false) := by unfold valS; rw [h]
set_option maxHeartbeats 1000000 in
theorem rsy_end (l : List Val) (hl : Val.szL l ≤ 4000000) (sp b : Bool) (i : Int) (h : valS l i [21, 24] = (vN, b)) : EV 68 [.ptr 0 0 0, I i] [fRow l sp] = some (.ret (.ro false []), [fRow l (sp || b)]) := by
  have hv := rvalue_f l hl sp i [21, 24] (by simp)
  rw [h] at hv
  simp only [List.map_cons, List.map_nil] at hv
  refine (ev_body ⟨[], [(0, [0, 5, 6, 7])], [], true, [], noIt⟩ [.tmp 4] rfl Try.func68 rfl rfl rfl (by kernel_rfl) (by show 2 ≤ 47; decide)).trans ?_
  simp +contextual (maxSteps := 10000000) only [↓reduceIte, go_sem, Nat.reduceEqDiff, Nat.reduceAdd, Nat.reduceSub, Nat.reduceMul, Nat.reduceLeDiff, Nat.reduceLT, Nat.reduceBEq, Nat.reduceDiv, Nat.reduceMod, Int.reduceLE, Int.reduceLT, Int.reduceEq, Int.reduceBEq, Int.reduceBNe, Int.reduceAdd, Int.reduceSub, Int.reduceNeg, Int.reduceToNat, Int.reduceMul, Int.reducePow, Nat.reducePow, reduceCtorEq, hv]
  refine lpK_inv (fun m0 f es => f = [(0, .ptr 0 0 0), (5, .ptr 1 0 0), (6, .nils), (7, I 0)] ∧ es = [fRow l (sp || b), some ⟨0, vN.cs⟩]) 0 ⟨rfl, rfl⟩ ?_
  rintro m0 _ _ ⟨rfl, rfl⟩ ih
  simp +contextual (maxSteps := 10000000) only [↓reduceIte, go_sem, Nat.reduceEqDiff, Nat.reduceAdd, Nat.reduceSub, Nat.reduceMul, Nat.reduceLeDiff, Nat.reduceLT, Nat.reduceBEq, Nat.reduceDiv, Nat.reduceMod, Int.reduceLE, Int.reduceLT, Int.reduceEq, Int.reduceBEq, Int.reduceBNe, Int.reduceAdd, Int.reduceSub, Int.reduceNeg, Int.reduceToNat, Int.reduceMul, Int.reducePow, Nat.reducePow, reduceCtorEq]
set_option maxHeartbeats 1000000 in
theorem rsy_one (l : List Val) (hl : Val.szL l ≤ 4000000) (sp : Bool) (i : Int) (n : Int) (t : ByteArray) (h : valS l i [21, 24] = (.mk 21 n t [], false)) : EV 68 [.ptr 0 0 0, I i] [fRow l sp] = some (.ret (.ro false [Sx t]), [fRow l sp]) := by
  have hv := rvalue_f l hl sp i [21, 24] (by simp)
  rw [h] at hv
  simp only [List.map_cons, List.map_nil, Bool.or_false] at hv
  refine (ev_body ⟨[], [(0, [0, 5, 6, 7])], [], true, [], noIt⟩ [.tmp 4] rfl Try.func68 rfl rfl rfl (by kernel_rfl) (by show 2 ≤ 47; decide)).trans ?_
  simp +contextual (maxSteps := 10000000) only [↓reduceIte, go_sem, Nat.reduceEqDiff, Nat.reduceAdd, Nat.reduceSub, Nat.reduceMul, Nat.reduceLeDiff, Nat.reduceLT, Nat.reduceBEq, Nat.reduceDiv, Nat.reduceMod, Int.reduceLE, Int.reduceLT, Int.reduceEq, Int.reduceBEq, Int.reduceBNe, Int.reduceAdd, Int.reduceSub, Int.reduceNeg, Int.reduceToNat, Int.reduceMul, Int.reducePow, Nat.reducePow, reduceCtorEq, hv]
  refine lpK_inv (fun m0 f es => f = [(0, .ptr 0 0 0), (5, .ptr 1 0 0), (6, .ref 2 0 1 0 1), (7, I 0)] ∧ es = [fRow l sp, some ⟨0, (Val.mk 21 n t []).cs⟩, some ⟨0, rowE strD [t]⟩]) 0 ⟨rfl, rfl⟩ ?_
  rintro m0 _ _ ⟨rfl, rfl⟩ ih
  simp +contextual (maxSteps := 10000000) only [↓reduceIte, go_sem, Nat.reduceEqDiff, Nat.reduceAdd, Nat.reduceSub, Nat.reduceMul, Nat.reduceLeDiff, Nat.reduceLT, Nat.reduceBEq, Nat.reduceDiv, Nat.reduceMod, Int.reduceLE, Int.reduceLT, Int.reduceEq, Int.reduceBEq, Int.reduceBNe, Int.reduceAdd, Int.reduceSub, Int.reduceNeg, Int.reduceToNat, Int.reduceMul, Int.reducePow, Nat.reducePow, reduceCtorEq, List.length_cons, List.length_nil, List.map_cons, List.map_nil]
set_option maxHeartbeats 1000000 in
theorem rsy_many (l : List Val) (hl : Val.szL l ≤ 4000000) (sp : Bool) (i : Int) (n : Int) (t : ByteArray) (kids : List Val) (hkl : kids.length ≤ 4000000) (h : valS l i [21, 24] = (.mk 24 n t kids, false)) : EV 68 [.ptr 0 0 0, I i] [fRow l sp] =
    some (.ret (.ro false ((if (kids.all fun k => k.kind == 21) = true then kids.map Val.text else []).map strD)), [fRow l (sp || !(kids.all fun k => k.kind == 21))]) := by
  have hv := rvalue_f l hl sp i [21, 24] (by simp)
  rw [h] at hv
  simp only [List.map_cons, List.map_nil, Bool.or_false] at hv
  obtain ⟨ts, hts⟩ : ∃ ts, ts = kids.map Val.text := ⟨_, rfl⟩
  have htl : ts.length = kids.length := by rw [hts, List.length_map]
  refine (ev_body ⟨[], [(0, [0, 5, 6, 7])], [], true, [], noIt⟩ [.tmp 4] rfl Try.func68 rfl rfl rfl (by kernel_rfl) (by show 2 ≤ 47; decide)).trans ?_
  simp +contextual (maxSteps := 10000000) only [↓reduceIte, go_sem, Nat.reduceEqDiff, Nat.reduceAdd, Nat.reduceSub, Nat.reduceMul, Nat.reduceLeDiff, Nat.reduceLT, Nat.reduceBEq, Nat.reduceDiv, Nat.reduceMod, Int.reduceLE, Int.reduceLT, Int.reduceEq, Int.reduceBEq, Int.reduceBNe, Int.reduceAdd, Int.reduceSub, Int.reduceNeg, Int.reduceToNat, Int.reduceMul, Int.reducePow, Nat.reducePow, reduceCtorEq, hv]
  refine lpK_inv (fun m0 f es => ∃ (k : Nat) (j : Int), j = k ∧ k + m0 = kids.length ∧ ((kids.take k).all fun k => k.kind == 21) = true ∧ f = [(0, .ptr 0 0 0), (5, .ptr 1 0 0), (6, accB 2 1 (ts.take k)), (7, I j)] ∧ es = stoB strD [fRow l sp, some ⟨0, (Val.mk 24 n t kids).cs⟩] (ts.take k)) kids.length ⟨0, _, rfl, by omega, rfl, rfl, rfl⟩ ?_
  rintro m0 _ _ ⟨k, j, hj, hk, ha, rfl, rfl⟩ ih
  rcases Nat.lt_or_ge k kids.length with hlt | hge
  · obtain ⟨y, hy⟩ := get_lt hlt
    have hy2 : ts[k]? = some y.text := by rw [hts, List.getElem?_map, hy]; rfl
    have hlt' : decide (j < kids.length) = true := by simp <;> omega
    have g1 : kids[j.toNat]? = some y := by rw [show j.toNat = k by omega]; exact hy
    have hsn := take_snoc hy2
    have hsk := take_snoc hy
    by_cases h21 : y.kind = 21
    · have e21 : (y.kind != 21) = false := by simpa using h21
      have ha' : ((kids.take (k + 1)).all fun k => k.kind == 21) = true := by rw [hsk]; simp [ha, h21]
      rcases Nat.eq_zero_or_pos k with rfl | hpos
      · simp only [List.take_zero, accB, stoB]
        simp +contextual (maxSteps := 10000000) only [↓reduceIte, go_sem, Nat.reduceEqDiff, Nat.reduceAdd, Nat.reduceSub, Nat.reduceMul, Nat.reduceLeDiff, Nat.reduceLT, Nat.reduceBEq, Nat.reduceDiv, Nat.reduceMod, Int.reduceLE, Int.reduceLT, Int.reduceEq, Int.reduceBEq, Int.reduceBNe, Int.reduceAdd, Int.reduceSub, Int.reduceNeg, Int.reduceToNat, Int.reduceMul, Int.reducePow, Nat.reducePow, reduceCtorEq, hlt', g1, e21, show 0 ≤ j by omega, show j < kids.length by omega, wrap_i64 (n := j + 1) (by omega) (by omega)]
        refine ih (m0 - 1) _ _ (by omega) ⟨1, j + 1, by omega, by omega, ha', ?_, ?_⟩
        · rw [hsn]; rfl
        · rw [hsn]; rfl
      · obtain ⟨z, r, hr, hlen⟩ := take_cons (l := ts) (i := k) (by omega) hpos
        simp only [hr, accB, stoB, hlen]
        have hb : (k + 1) * 16 ≤ 140737488355328 := by omega
        have hrl := strOk.row_len (z :: r)
        rw [hlen] at hrl
        simp +contextual (maxSteps := 10000000) only [↓reduceIte, go_sem, Nat.reduceEqDiff, Nat.reduceAdd, Nat.reduceSub, Nat.reduceMul, Nat.reduceLeDiff, Nat.reduceLT, Nat.reduceBEq, Nat.reduceDiv, Nat.reduceMod, Int.reduceLE, Int.reduceLT, Int.reduceEq, Int.reduceBEq, Int.reduceBNe, Int.reduceAdd, Int.reduceSub, Int.reduceNeg, Int.reduceToNat, Int.reduceMul, Int.reducePow, Nat.reducePow, reduceCtorEq, hlt', g1, e21, hb, hrl, show 0 ≤ j by omega, show j < kids.length by omega, wrap_i64 (n := j + 1) (by omega) (by omega)]
        refine ih (m0 - 1) _ _ (by omega) ⟨k + 1, j + 1, by omega, by omega, ha', ?_, ?_⟩
        · rw [hsn, hr]; simp only [List.cons_append, accB, List.length_cons, List.length_append, List.length_nil] at hlen ⊢; simp only [← hlen]
        · rw [hsn, hr, stoB_snoc]; rfl
    · have e21 : (y.kind != 21) = true := by simpa using h21
      have hno : (kids.all fun k => k.kind == 21) = false := by
        rw [Bool.eq_false_iff]; intro hh
        rw [List.all_eq_true] at hh
        exact h21 (by simpa using hh y (List.mem_of_getElem? hy))
      cases hst : ts.take k with
      | nil =>
        simp only [accB, stoB]
        simp +contextual (maxSteps := 10000000) only [↓reduceIte, go_sem, Nat.reduceEqDiff, Nat.reduceAdd, Nat.reduceSub, Nat.reduceMul, Nat.reduceLeDiff, Nat.reduceLT, Nat.reduceBEq, Nat.reduceDiv, Nat.reduceMod, Int.reduceLE, Int.reduceLT, Int.reduceEq, Int.reduceBEq, Int.reduceBNe, Int.reduceAdd, Int.reduceSub, Int.reduceNeg, Int.reduceToNat, Int.reduceMul, Int.reducePow, Nat.reducePow, reduceCtorEq, hlt', g1, e21, hno, show 0 ≤ j by omega, show j < kids.length by omega, Bool.not_false, Bool.or_true, List.map_nil]
      | cons z r =>
        simp only [accB, stoB]
        simp +contextual (maxSteps := 10000000) only [↓reduceIte, go_sem, Nat.reduceEqDiff, Nat.reduceAdd, Nat.reduceSub, Nat.reduceMul, Nat.reduceLeDiff, Nat.reduceLT, Nat.reduceBEq, Nat.reduceDiv, Nat.reduceMod, Int.reduceLE, Int.reduceLT, Int.reduceEq, Int.reduceBEq, Int.reduceBNe, Int.reduceAdd, Int.reduceSub, Int.reduceNeg, Int.reduceToNat, Int.reduceMul, Int.reducePow, Nat.reducePow, reduceCtorEq, hlt', g1, e21, hno, show 0 ≤ j by omega, show j < kids.length by omega, Bool.not_false, Bool.or_true, List.map_nil]
  · have hlt' : decide (j < kids.length) = false := by simp <;> omega
    rw [List.take_of_length_le hge] at ha
    rw [List.take_of_length_le (by omega)]
    cases hst : ts with
    | nil =>
      simp only [accB, stoB]
      have hkn : kids.map Val.text = [] := by rw [← hts, hst]
      simp +contextual (maxSteps := 10000000) only [↓reduceIte, go_sem, Nat.reduceEqDiff, Nat.reduceAdd, Nat.reduceSub, Nat.reduceMul, Nat.reduceLeDiff, Nat.reduceLT, Nat.reduceBEq, Nat.reduceDiv, Nat.reduceMod, Int.reduceLE, Int.reduceLT, Int.reduceEq, Int.reduceBEq, Int.reduceBNe, Int.reduceAdd, Int.reduceSub, Int.reduceNeg, Int.reduceToNat, Int.reduceMul, Int.reducePow, Nat.reducePow, reduceCtorEq, hlt', ha, hkn, Bool.not_true, Bool.or_false, List.map_nil]
    | cons z r =>
      simp only [accB, stoB]
      have hkn : kids.map Val.text = z :: r := by rw [← hts, hst]
      simp +contextual (maxSteps := 10000000) only [↓reduceIte, go_sem, Nat.reduceEqDiff, Nat.reduceAdd, Nat.reduceSub, Nat.reduceMul, Nat.reduceLeDiff, Nat.reduceLT, Nat.reduceBEq, Nat.reduceDiv, Nat.reduceMod, Int.reduceLE, Int.reduceLT, Int.reduceEq, Int.reduceBEq, Int.reduceBNe, Int.reduceAdd, Int.reduceSub, Int.reduceNeg, Int.reduceToNat, Int.reduceMul, Int.reducePow, Nat.reducePow, reduceCtorEq, hlt', ha, hkn, List.length_cons, Bool.not_true, Bool.or_false]
end Go.Bw.R1

namespace Go.Bw.R1
set_option maxRecDepth 5000
open Go Go.Bw Go.Proofs
structure Tld where
  n : Int
  s : ByteArray
  v : Val
  l : List ByteArray
  is : Bool
  e : Int
@[reducible] def Tld.cs (x : Tld) : List D := [U64 x.n, Sx x.s, U8 x.v.kind, U64 x.v.num, Sx x.v.text, .ro false (x.v.kids.map Val.d), .ro false (x.l.map fun s => D.sc (.string s)), B x.is, I x.e]
@[reducible] def Tld.d (x : Tld) : D := .agg x.cs
def t0 : Tld := ⟨0, ⟨#[]⟩, vZ, [], false, 0⟩
@[reducible] def askD (a : Ask) : D := .agg [I a.what, I a.at0, U8 a.kind, B a.must, U64 a.none, .ro false (u8L (bl a.kinds))]
theorem askD_eq (a : Ask) : askD a = a.d := by
  have : u8L (bl a.kinds) = bytesD a.kinds := by simp only [u8L, bl, bytesD, List.map_map]; rfl
  rw [askD, this]; rfl
theorem sym_bad {l : List Val} {i : Int} {x : Val} (h : atS l i = some x) (hm : ∀ x ∈ l, mayS x = true) : mayS x = true := hm x (List.mem_of_getElem? (atS_len h).2.2.1)
theorem rsymbols_f (l : List Val) (hl : Val.szL l ≤ 4000000) (hm : ∀ x ∈ l, mayS x = true) (sp : Bool) (i : Int) : EV 68 [.ptr 0 0 0, I i] [fRow l sp] = some (.ret (.ro false (strL (symS l i).1)), [fRow l (sp || (symS l i).2)]) := by
  cases h : atS l i with
  | none =>
    have hv : valS l i [21, 24] = (vN, false) := val_none l i _ h
    rw [rsy_end l hl sp false i hv]
    unfold symS; rw [h]; rfl
  | some x =>
    have hx := sym_bad h hm
    have hxs := szL_mem (atS_len h).2.2.1
    obtain ⟨k, n, t, kids⟩ := x
    by_cases h1 : k = 21
    · subst h1
      have hk := may_leaf hx (by simp only [Val.kind_mk]; omega)
      simp only [Val.kids_mk] at hk
      subst hk
      have hv : valS l i [21, 24] = (.mk 21 n t [], false) := by unfold valS; rw [h]; simp [Val.kind_mk]
      rw [rsy_one l hl sp i n t hv]
      unfold symS; rw [h]; simp [Val.kind_mk, Val.text_mk]
    · by_cases h2 : k = 24
      · subst h2
        have hv : valS l i [21, 24] = (.mk 24 n t kids, false) := by unfold valS; rw [h]; simp [Val.kind_mk]
        have hz := Val.sz_eq (Val.mk 24 n t kids)
        simp only [Val.kids_mk] at hz
        have := szL_len kids
        rw [rsy_many l hl sp i n t kids (by omega) hv]
        unfold symS; rw [h]
        simp only [Val.kind_mk, Val.kids_mk]
        cases (kids.all fun k => k.kind == 21) <;> simp
      · have hv : valS l i [21, 24] = (vN, true) := by unfold valS; rw [h]; simp [Val.kind_mk, h1, h2]
        rw [rsy_end l hl sp true i hv]
        unfold symS; rw [h]; simp [Val.kind_mk, h1, h2]
/-- what is answered, and whether that spoils -/
def doesS (l : List Val) (sp : Bool) (a : Ask) : Tld × Bool :=
  if a.what = 0 then ({ t0 with is := (atS l a.at0).isSome }, false)
  else if a.what = 1 then ({ t0 with n := (numS' l a.at0 a.kind a.must a.none).1 }, (numS' l a.at0 a.kind a.must a.none).2)
  else if a.what = 2 then ({ t0 with is := (numS' l a.at0 2 a.must 0).1 == 1 }, (numS' l a.at0 2 a.must 0).2)
  else if a.what = 3 then ({ t0 with s := (txtS l a.at0 a.kind a.must).1 }, (txtS l a.at0 a.kind a.must).2)
  else if a.what = 4 then ({ t0 with v := (valS l a.at0 (bl a.kinds)).1 }, (valS l a.at0 (bl a.kinds)).2)
  else if a.what = 5 then ({ t0 with l := (symS l a.at0).1 }, (symS l a.at0).2)
  else if a.what = 6 then (t0, true)
  else if a.what = 7 then ({ t0 with e := if sp || decide (a.at0 < l.length) then 6 else 0 }, false)
  else (t0, false)
set_option maxHeartbeats 2000000 in
theorem does_0 (l : List Val) (hl : Val.szL l ≤ 4000000) (sp : Bool) (at0 kind : Int) (must : Bool) (none : Int) (kinds : ByteArray) (hk : kinds.size ≤ 4000000) :
    EV 29 [.ptr 0 0 0, askD ⟨0, at0, kind, must, none, kinds⟩] [fRow l sp] = some (.ret (doesS l sp ⟨0, at0, kind, must, none, kinds⟩).1.d, [fRow l (sp || (doesS l sp ⟨0, at0, kind, must, none, kinds⟩).2)]) := by
  refine (ev_body ⟨[3], [], [], true, [], noIt⟩ [.cell 4 51] rfl Try.func29 rfl rfl rfl (by kernel_rfl) (by show 2 ≤ 76; decide)).trans ?_
  have hbl : (bl kinds).length ≤ 4000000 := by rw [bl_len]; exact hk
  have hc := has_c l sp at0
  simp +contextual (maxSteps := 10000000) only [↓reduceIte, go_sem, Nat.reduceEqDiff, Nat.reduceAdd, Nat.reduceSub, Nat.reduceMul, Nat.reduceLeDiff, Nat.reduceLT, Nat.reduceBEq, Nat.reduceDiv, Nat.reduceMod, Int.reduceLE, Int.reduceLT, Int.reduceEq, Int.reduceBEq, Int.reduceBNe, Int.reduceAdd, Int.reduceSub, Int.reduceNeg, Int.reduceToNat, Int.reduceMul, Int.reducePow, Nat.reducePow, reduceCtorEq, hc, doesS, t0, Bool.or_false, Bool.or_true]
  all_goals rfl
set_option maxHeartbeats 2000000 in
theorem does_1 (l : List Val) (hl : Val.szL l ≤ 4000000) (sp : Bool) (at0 kind : Int) (must : Bool) (none : Int) (kinds : ByteArray) (hk : kinds.size ≤ 4000000) :
    EV 29 [.ptr 0 0 0, askD ⟨1, at0, kind, must, none, kinds⟩] [fRow l sp] = some (.ret (doesS l sp ⟨1, at0, kind, must, none, kinds⟩).1.d, [fRow l (sp || (doesS l sp ⟨1, at0, kind, must, none, kinds⟩).2)]) := by
  refine (ev_body ⟨[3], [], [], true, [], noIt⟩ [.cell 4 51] rfl Try.func29 rfl rfl rfl (by kernel_rfl) (by show 2 ≤ 76; decide)).trans ?_
  have hbl : (bl kinds).length ≤ 4000000 := by rw [bl_len]; exact hk
  have hc := number_f l sp at0 kind must none
  simp +contextual (maxSteps := 10000000) only [↓reduceIte, go_sem, Nat.reduceEqDiff, Nat.reduceAdd, Nat.reduceSub, Nat.reduceMul, Nat.reduceLeDiff, Nat.reduceLT, Nat.reduceBEq, Nat.reduceDiv, Nat.reduceMod, Int.reduceLE, Int.reduceLT, Int.reduceEq, Int.reduceBEq, Int.reduceBNe, Int.reduceAdd, Int.reduceSub, Int.reduceNeg, Int.reduceToNat, Int.reduceMul, Int.reducePow, Nat.reducePow, reduceCtorEq, hc, doesS, t0, Bool.or_false, Bool.or_true]
  all_goals rfl
set_option maxHeartbeats 2000000 in
theorem does_2 (l : List Val) (hl : Val.szL l ≤ 4000000) (sp : Bool) (at0 kind : Int) (must : Bool) (none : Int) (kinds : ByteArray) (hk : kinds.size ≤ 4000000) :
    EV 29 [.ptr 0 0 0, askD ⟨2, at0, kind, must, none, kinds⟩] [fRow l sp] = some (.ret (doesS l sp ⟨2, at0, kind, must, none, kinds⟩).1.d, [fRow l (sp || (doesS l sp ⟨2, at0, kind, must, none, kinds⟩).2)]) := by
  refine (ev_body ⟨[3], [], [], true, [], noIt⟩ [.cell 4 51] rfl Try.func29 rfl rfl rfl (by kernel_rfl) (by show 2 ≤ 76; decide)).trans ?_
  have hbl : (bl kinds).length ≤ 4000000 := by rw [bl_len]; exact hk
  have hc := bool_f l sp at0 must
  simp +contextual (maxSteps := 10000000) only [↓reduceIte, go_sem, Nat.reduceEqDiff, Nat.reduceAdd, Nat.reduceSub, Nat.reduceMul, Nat.reduceLeDiff, Nat.reduceLT, Nat.reduceBEq, Nat.reduceDiv, Nat.reduceMod, Int.reduceLE, Int.reduceLT, Int.reduceEq, Int.reduceBEq, Int.reduceBNe, Int.reduceAdd, Int.reduceSub, Int.reduceNeg, Int.reduceToNat, Int.reduceMul, Int.reducePow, Nat.reducePow, reduceCtorEq, hc, doesS, t0, Bool.or_false, Bool.or_true]
  all_goals rfl
set_option maxHeartbeats 2000000 in
theorem does_3 (l : List Val) (hl : Val.szL l ≤ 4000000) (sp : Bool) (at0 kind : Int) (must : Bool) (none : Int) (kinds : ByteArray) (hk : kinds.size ≤ 4000000) :
    EV 29 [.ptr 0 0 0, askD ⟨3, at0, kind, must, none, kinds⟩] [fRow l sp] = some (.ret (doesS l sp ⟨3, at0, kind, must, none, kinds⟩).1.d, [fRow l (sp || (doesS l sp ⟨3, at0, kind, must, none, kinds⟩).2)]) := by
  refine (ev_body ⟨[3], [], [], true, [], noIt⟩ [.cell 4 51] rfl Try.func29 rfl rfl rfl (by kernel_rfl) (by show 2 ≤ 76; decide)).trans ?_
  have hbl : (bl kinds).length ≤ 4000000 := by rw [bl_len]; exact hk
  have hc := text_f l sp at0 kind must
  simp +contextual (maxSteps := 10000000) only [↓reduceIte, go_sem, Nat.reduceEqDiff, Nat.reduceAdd, Nat.reduceSub, Nat.reduceMul, Nat.reduceLeDiff, Nat.reduceLT, Nat.reduceBEq, Nat.reduceDiv, Nat.reduceMod, Int.reduceLE, Int.reduceLT, Int.reduceEq, Int.reduceBEq, Int.reduceBNe, Int.reduceAdd, Int.reduceSub, Int.reduceNeg, Int.reduceToNat, Int.reduceMul, Int.reducePow, Nat.reducePow, reduceCtorEq, hc, doesS, t0, Bool.or_false, Bool.or_true]
  all_goals rfl
set_option maxHeartbeats 2000000 in
theorem does_4 (l : List Val) (hl : Val.szL l ≤ 4000000) (sp : Bool) (at0 kind : Int) (must : Bool) (none : Int) (kinds : ByteArray) (hk : kinds.size ≤ 4000000) :
    EV 29 [.ptr 0 0 0, askD ⟨4, at0, kind, must, none, kinds⟩] [fRow l sp] = some (.ret (doesS l sp ⟨4, at0, kind, must, none, kinds⟩).1.d, [fRow l (sp || (doesS l sp ⟨4, at0, kind, must, none, kinds⟩).2)]) := by
  refine (ev_body ⟨[3], [], [], true, [], noIt⟩ [.cell 4 51] rfl Try.func29 rfl rfl rfl (by kernel_rfl) (by show 2 ≤ 76; decide)).trans ?_
  have hbl : (bl kinds).length ≤ 4000000 := by rw [bl_len]; exact hk
  have hc := value_f l hl sp at0 (bl kinds) hbl
  simp +contextual (maxSteps := 10000000) only [↓reduceIte, go_sem, Nat.reduceEqDiff, Nat.reduceAdd, Nat.reduceSub, Nat.reduceMul, Nat.reduceLeDiff, Nat.reduceLT, Nat.reduceBEq, Nat.reduceDiv, Nat.reduceMod, Int.reduceLE, Int.reduceLT, Int.reduceEq, Int.reduceBEq, Int.reduceBNe, Int.reduceAdd, Int.reduceSub, Int.reduceNeg, Int.reduceToNat, Int.reduceMul, Int.reducePow, Nat.reducePow, reduceCtorEq, hc, doesS, t0, Bool.or_false, Bool.or_true]
  all_goals rfl
set_option maxHeartbeats 2000000 in
theorem does_5 (l : List Val) (hl : Val.szL l ≤ 4000000) (sp : Bool) (at0 kind : Int) (must : Bool) (none : Int) (kinds : ByteArray) (hk : kinds.size ≤ 4000000) :
    EV 29 [.ptr 0 0 0, askD ⟨5, at0, kind, must, none, kinds⟩] [fRow l sp] = some (.ret (doesS l sp ⟨5, at0, kind, must, none, kinds⟩).1.d, [fRow l (sp || (doesS l sp ⟨5, at0, kind, must, none, kinds⟩).2)]) := by
  refine (ev_body ⟨[3], [], [], true, [], noIt⟩ [.cell 4 51] rfl Try.func29 rfl rfl rfl (by kernel_rfl) (by show 2 ≤ 76; decide)).trans ?_
  have hbl : (bl kinds).length ≤ 4000000 := by rw [bl_len]; exact hk
  have hc := symbols_f l hl sp at0
  simp +contextual (maxSteps := 10000000) only [↓reduceIte, go_sem, Nat.reduceEqDiff, Nat.reduceAdd, Nat.reduceSub, Nat.reduceMul, Nat.reduceLeDiff, Nat.reduceLT, Nat.reduceBEq, Nat.reduceDiv, Nat.reduceMod, Int.reduceLE, Int.reduceLT, Int.reduceEq, Int.reduceBEq, Int.reduceBNe, Int.reduceAdd, Int.reduceSub, Int.reduceNeg, Int.reduceToNat, Int.reduceMul, Int.reducePow, Nat.reducePow, reduceCtorEq, hc, doesS, t0, Bool.or_false, Bool.or_true]
  all_goals rfl
set_option maxHeartbeats 2000000 in
theorem does_6 (l : List Val) (hl : Val.szL l ≤ 4000000) (sp : Bool) (at0 kind : Int) (must : Bool) (none : Int) (kinds : ByteArray) (hk : kinds.size ≤ 4000000) :
    EV 29 [.ptr 0 0 0, askD ⟨6, at0, kind, must, none, kinds⟩] [fRow l sp] = some (.ret (doesS l sp ⟨6, at0, kind, must, none, kinds⟩).1.d, [fRow l (sp || (doesS l sp ⟨6, at0, kind, must, none, kinds⟩).2)]) := by
  refine (ev_body ⟨[3], [], [], true, [], noIt⟩ [.cell 4 51] rfl Try.func29 rfl rfl rfl (by kernel_rfl) (by show 2 ≤ 76; decide)).trans ?_
  have hbl : (bl kinds).length ≤ 4000000 := by rw [bl_len]; exact hk
  have hc := spoil_c l sp
  simp +contextual (maxSteps := 10000000) only [↓reduceIte, go_sem, Nat.reduceEqDiff, Nat.reduceAdd, Nat.reduceSub, Nat.reduceMul, Nat.reduceLeDiff, Nat.reduceLT, Nat.reduceBEq, Nat.reduceDiv, Nat.reduceMod, Int.reduceLE, Int.reduceLT, Int.reduceEq, Int.reduceBEq, Int.reduceBNe, Int.reduceAdd, Int.reduceSub, Int.reduceNeg, Int.reduceToNat, Int.reduceMul, Int.reducePow, Nat.reducePow, reduceCtorEq, hc, doesS, t0, Bool.or_false, Bool.or_true]
  all_goals rfl
set_option maxHeartbeats 2000000 in
theorem does_7 (l : List Val) (hl : Val.szL l ≤ 4000000) (sp : Bool) (at0 kind : Int) (must : Bool) (none : Int) (kinds : ByteArray) (hk : kinds.size ≤ 4000000) :
    EV 29 [.ptr 0 0 0, askD ⟨7, at0, kind, must, none, kinds⟩] [fRow l sp] = some (.ret (doesS l sp ⟨7, at0, kind, must, none, kinds⟩).1.d, [fRow l (sp || (doesS l sp ⟨7, at0, kind, must, none, kinds⟩).2)]) := by
  refine (ev_body ⟨[3], [], [], true, [], noIt⟩ [.cell 4 51] rfl Try.func29 rfl rfl rfl (by kernel_rfl) (by show 2 ≤ 76; decide)).trans ?_
  have hbl : (bl kinds).length ≤ 4000000 := by rw [bl_len]; exact hk
  have hc := done_c l sp at0
  simp +contextual (maxSteps := 10000000) only [↓reduceIte, go_sem, Nat.reduceEqDiff, Nat.reduceAdd, Nat.reduceSub, Nat.reduceMul, Nat.reduceLeDiff, Nat.reduceLT, Nat.reduceBEq, Nat.reduceDiv, Nat.reduceMod, Int.reduceLE, Int.reduceLT, Int.reduceEq, Int.reduceBEq, Int.reduceBNe, Int.reduceAdd, Int.reduceSub, Int.reduceNeg, Int.reduceToNat, Int.reduceMul, Int.reducePow, Nat.reducePow, reduceCtorEq, hc, doesS, t0, Bool.or_false, Bool.or_true]
  all_goals rfl
set_option maxHeartbeats 2000000 in
theorem does_8 (l : List Val) (sp : Bool) (a : Ask) (h0 : a.what ≠ 0) (h1 : a.what ≠ 1) (h2 : a.what ≠ 2) (h3 : a.what ≠ 3) (h4 : a.what ≠ 4) (h5 : a.what ≠ 5) (h6 : a.what ≠ 6) (h7 : a.what ≠ 7) : EV 29 [.ptr 0 0 0, askD a] [fRow l sp] = some (.ret (doesS l sp a).1.d, [fRow l (sp || (doesS l sp a).2)]) := by
  refine (ev_body ⟨[3], [], [], true, [], noIt⟩ [.cell 4 51] rfl Try.func29 rfl rfl rfl (by kernel_rfl) (by show 2 ≤ 76; decide)).trans ?_
  have hd : doesS l sp a = (t0, false) := by unfold doesS; simp only [if_neg h0, if_neg h1, if_neg h2, if_neg h3, if_neg h4, if_neg h5, if_neg h6, if_neg h7]
  rw [hd]
  simp +contextual (maxSteps := 10000000) only [↓reduceIte, go_sem, Nat.reduceEqDiff, Nat.reduceAdd, Nat.reduceSub, Nat.reduceMul, Nat.reduceLeDiff, Nat.reduceLT, Nat.reduceBEq, Nat.reduceDiv, Nat.reduceMod, Int.reduceLE, Int.reduceLT, Int.reduceEq, Int.reduceBEq, Int.reduceBNe, Int.reduceAdd, Int.reduceSub, Int.reduceNeg, Int.reduceToNat, Int.reduceMul, Int.reducePow, Nat.reducePow, reduceCtorEq, beq_eq_false_iff_ne.2 h0, beq_eq_false_iff_ne.2 h1, beq_eq_false_iff_ne.2 h2, beq_eq_false_iff_ne.2 h3, beq_eq_false_iff_ne.2 h4, beq_eq_false_iff_ne.2 h5, beq_eq_false_iff_ne.2 h6, beq_eq_false_iff_ne.2 h7, t0, Bool.or_false]
  all_goals rfl
theorem does_c (l : List Val) (hl : Val.szL l ≤ 4000000) (sp : Bool) (a : Ask) (hk : a.kinds.size ≤ 4000000) : EV 29 [.ptr 0 0 0, askD a] [fRow l sp] = some (.ret (doesS l sp a).1.d, [fRow l (sp || (doesS l sp a).2)]) := by
  obtain ⟨what, at0, kind, must, none, kinds⟩ := a
  by_cases h0 : what = 0
  · subst h0; exact does_0 l hl sp at0 kind must none kinds hk
  by_cases h1 : what = 1
  · subst h1; exact does_1 l hl sp at0 kind must none kinds hk
  by_cases h2 : what = 2
  · subst h2; exact does_2 l hl sp at0 kind must none kinds hk
  by_cases h3 : what = 3
  · subst h3; exact does_3 l hl sp at0 kind must none kinds hk
  by_cases h4 : what = 4
  · subst h4; exact does_4 l hl sp at0 kind must none kinds hk
  by_cases h5 : what = 5
  · subst h5; exact does_5 l hl sp at0 kind must none kinds hk
  by_cases h6 : what = 6
  · subst h6; exact does_6 l hl sp at0 kind must none kinds hk
  by_cases h7 : what = 7
  · subst h7; exact does_7 l hl sp at0 kind must none kinds hk
  exact does_8 l sp _ h0 h1 h2 h3 h4 h5 h6 h7
set_option maxHeartbeats 2000000 in
theorem meant_0 (l : List Val) (hl : Val.szL l ≤ 4000000) (hm : ∀ x ∈ l, mayS x = true) (sp : Bool) (at0 kind : Int) (must : Bool) (none : Int) (kinds : ByteArray) (hk : kinds.size ≤ 4000000) :
    EV 30 [.ptr 0 0 0, askD ⟨0, at0, kind, must, none, kinds⟩] [fRow l sp] = some (.ret (doesS l sp ⟨0, at0, kind, must, none, kinds⟩).1.d, [fRow l (sp || (doesS l sp ⟨0, at0, kind, must, none, kinds⟩).2)]) := by
  refine (ev_body ⟨[3], [], [], true, [], noIt⟩ [.cell 4 51] rfl Try.func30 rfl rfl rfl (by kernel_rfl) (by show 2 ≤ 77; decide)).trans ?_
  have hbl : (bl kinds).length ≤ 4000000 := by rw [bl_len]; exact hk
  have hc := rhas_c l sp at0
  simp +contextual (maxSteps := 10000000) only [↓reduceIte, go_sem, Nat.reduceEqDiff, Nat.reduceAdd, Nat.reduceSub, Nat.reduceMul, Nat.reduceLeDiff, Nat.reduceLT, Nat.reduceBEq, Nat.reduceDiv, Nat.reduceMod, Int.reduceLE, Int.reduceLT, Int.reduceEq, Int.reduceBEq, Int.reduceBNe, Int.reduceAdd, Int.reduceSub, Int.reduceNeg, Int.reduceToNat, Int.reduceMul, Int.reducePow, Nat.reducePow, reduceCtorEq, hc, doesS, t0, Bool.or_false, Bool.or_true]
  all_goals rfl
set_option maxHeartbeats 2000000 in
theorem meant_1 (l : List Val) (hl : Val.szL l ≤ 4000000) (hm : ∀ x ∈ l, mayS x = true) (sp : Bool) (at0 kind : Int) (must : Bool) (none : Int) (kinds : ByteArray) (hk : kinds.size ≤ 4000000) :
    EV 30 [.ptr 0 0 0, askD ⟨1, at0, kind, must, none, kinds⟩] [fRow l sp] = some (.ret (doesS l sp ⟨1, at0, kind, must, none, kinds⟩).1.d, [fRow l (sp || (doesS l sp ⟨1, at0, kind, must, none, kinds⟩).2)]) := by
  refine (ev_body ⟨[3], [], [], true, [], noIt⟩ [.cell 4 51] rfl Try.func30 rfl rfl rfl (by kernel_rfl) (by show 2 ≤ 77; decide)).trans ?_
  have hbl : (bl kinds).length ≤ 4000000 := by rw [bl_len]; exact hk
  have hc := rnumber_f l sp at0 kind must none
  simp +contextual (maxSteps := 10000000) only [↓reduceIte, go_sem, Nat.reduceEqDiff, Nat.reduceAdd, Nat.reduceSub, Nat.reduceMul, Nat.reduceLeDiff, Nat.reduceLT, Nat.reduceBEq, Nat.reduceDiv, Nat.reduceMod, Int.reduceLE, Int.reduceLT, Int.reduceEq, Int.reduceBEq, Int.reduceBNe, Int.reduceAdd, Int.reduceSub, Int.reduceNeg, Int.reduceToNat, Int.reduceMul, Int.reducePow, Nat.reducePow, reduceCtorEq, hc, doesS, t0, Bool.or_false, Bool.or_true]
  all_goals rfl
set_option maxHeartbeats 2000000 in
theorem meant_2 (l : List Val) (hl : Val.szL l ≤ 4000000) (hm : ∀ x ∈ l, mayS x = true) (sp : Bool) (at0 kind : Int) (must : Bool) (none : Int) (kinds : ByteArray) (hk : kinds.size ≤ 4000000) :
    EV 30 [.ptr 0 0 0, askD ⟨2, at0, kind, must, none, kinds⟩] [fRow l sp] = some (.ret (doesS l sp ⟨2, at0, kind, must, none, kinds⟩).1.d, [fRow l (sp || (doesS l sp ⟨2, at0, kind, must, none, kinds⟩).2)]) := by
  refine (ev_body ⟨[3], [], [], true, [], noIt⟩ [.cell 4 51] rfl Try.func30 rfl rfl rfl (by kernel_rfl) (by show 2 ≤ 77; decide)).trans ?_
  have hbl : (bl kinds).length ≤ 4000000 := by rw [bl_len]; exact hk
  have hc := rbool_f l sp at0 must
  simp +contextual (maxSteps := 10000000) only [↓reduceIte, go_sem, Nat.reduceEqDiff, Nat.reduceAdd, Nat.reduceSub, Nat.reduceMul, Nat.reduceLeDiff, Nat.reduceLT, Nat.reduceBEq, Nat.reduceDiv, Nat.reduceMod, Int.reduceLE, Int.reduceLT, Int.reduceEq, Int.reduceBEq, Int.reduceBNe, Int.reduceAdd, Int.reduceSub, Int.reduceNeg, Int.reduceToNat, Int.reduceMul, Int.reducePow, Nat.reducePow, reduceCtorEq, hc, doesS, t0, Bool.or_false, Bool.or_true]
  all_goals rfl
set_option maxHeartbeats 2000000 in
theorem meant_3 (l : List Val) (hl : Val.szL l ≤ 4000000) (hm : ∀ x ∈ l, mayS x = true) (sp : Bool) (at0 kind : Int) (must : Bool) (none : Int) (kinds : ByteArray) (hk : kinds.size ≤ 4000000) :
    EV 30 [.ptr 0 0 0, askD ⟨3, at0, kind, must, none, kinds⟩] [fRow l sp] = some (.ret (doesS l sp ⟨3, at0, kind, must, none, kinds⟩).1.d, [fRow l (sp || (doesS l sp ⟨3, at0, kind, must, none, kinds⟩).2)]) := by
  refine (ev_body ⟨[3], [], [], true, [], noIt⟩ [.cell 4 51] rfl Try.func30 rfl rfl rfl (by kernel_rfl) (by show 2 ≤ 77; decide)).trans ?_
  have hbl : (bl kinds).length ≤ 4000000 := by rw [bl_len]; exact hk
  have hc := rtext_f l sp at0 kind must
  simp +contextual (maxSteps := 10000000) only [↓reduceIte, go_sem, Nat.reduceEqDiff, Nat.reduceAdd, Nat.reduceSub, Nat.reduceMul, Nat.reduceLeDiff, Nat.reduceLT, Nat.reduceBEq, Nat.reduceDiv, Nat.reduceMod, Int.reduceLE, Int.reduceLT, Int.reduceEq, Int.reduceBEq, Int.reduceBNe, Int.reduceAdd, Int.reduceSub, Int.reduceNeg, Int.reduceToNat, Int.reduceMul, Int.reducePow, Nat.reducePow, reduceCtorEq, hc, doesS, t0, Bool.or_false, Bool.or_true]
  all_goals rfl
set_option maxHeartbeats 2000000 in
theorem meant_4 (l : List Val) (hl : Val.szL l ≤ 4000000) (hm : ∀ x ∈ l, mayS x = true) (sp : Bool) (at0 kind : Int) (must : Bool) (none : Int) (kinds : ByteArray) (hk : kinds.size ≤ 4000000) :
    EV 30 [.ptr 0 0 0, askD ⟨4, at0, kind, must, none, kinds⟩] [fRow l sp] = some (.ret (doesS l sp ⟨4, at0, kind, must, none, kinds⟩).1.d, [fRow l (sp || (doesS l sp ⟨4, at0, kind, must, none, kinds⟩).2)]) := by
  refine (ev_body ⟨[3], [], [], true, [], noIt⟩ [.cell 4 51] rfl Try.func30 rfl rfl rfl (by kernel_rfl) (by show 2 ≤ 77; decide)).trans ?_
  have hbl : (bl kinds).length ≤ 4000000 := by rw [bl_len]; exact hk
  have hc := rvalue_f l hl sp at0 (bl kinds) hbl
  simp +contextual (maxSteps := 10000000) only [↓reduceIte, go_sem, Nat.reduceEqDiff, Nat.reduceAdd, Nat.reduceSub, Nat.reduceMul, Nat.reduceLeDiff, Nat.reduceLT, Nat.reduceBEq, Nat.reduceDiv, Nat.reduceMod, Int.reduceLE, Int.reduceLT, Int.reduceEq, Int.reduceBEq, Int.reduceBNe, Int.reduceAdd, Int.reduceSub, Int.reduceNeg, Int.reduceToNat, Int.reduceMul, Int.reducePow, Nat.reducePow, reduceCtorEq, hc, doesS, t0, Bool.or_false, Bool.or_true]
  all_goals rfl
set_option maxHeartbeats 2000000 in
theorem meant_5 (l : List Val) (hl : Val.szL l ≤ 4000000) (hm : ∀ x ∈ l, mayS x = true) (sp : Bool) (at0 kind : Int) (must : Bool) (none : Int) (kinds : ByteArray) (hk : kinds.size ≤ 4000000) :
    EV 30 [.ptr 0 0 0, askD ⟨5, at0, kind, must, none, kinds⟩] [fRow l sp] = some (.ret (doesS l sp ⟨5, at0, kind, must, none, kinds⟩).1.d, [fRow l (sp || (doesS l sp ⟨5, at0, kind, must, none, kinds⟩).2)]) := by
  refine (ev_body ⟨[3], [], [], true, [], noIt⟩ [.cell 4 51] rfl Try.func30 rfl rfl rfl (by kernel_rfl) (by show 2 ≤ 77; decide)).trans ?_
  have hbl : (bl kinds).length ≤ 4000000 := by rw [bl_len]; exact hk
  have hc := rsymbols_f l hl hm sp at0
  simp +contextual (maxSteps := 10000000) only [↓reduceIte, go_sem, Nat.reduceEqDiff, Nat.reduceAdd, Nat.reduceSub, Nat.reduceMul, Nat.reduceLeDiff, Nat.reduceLT, Nat.reduceBEq, Nat.reduceDiv, Nat.reduceMod, Int.reduceLE, Int.reduceLT, Int.reduceEq, Int.reduceBEq, Int.reduceBNe, Int.reduceAdd, Int.reduceSub, Int.reduceNeg, Int.reduceToNat, Int.reduceMul, Int.reducePow, Nat.reducePow, reduceCtorEq, hc, doesS, t0, Bool.or_false, Bool.or_true]
  all_goals rfl
set_option maxHeartbeats 2000000 in
theorem meant_6 (l : List Val) (hl : Val.szL l ≤ 4000000) (hm : ∀ x ∈ l, mayS x = true) (sp : Bool) (at0 kind : Int) (must : Bool) (none : Int) (kinds : ByteArray) (hk : kinds.size ≤ 4000000) :
    EV 30 [.ptr 0 0 0, askD ⟨6, at0, kind, must, none, kinds⟩] [fRow l sp] = some (.ret (doesS l sp ⟨6, at0, kind, must, none, kinds⟩).1.d, [fRow l (sp || (doesS l sp ⟨6, at0, kind, must, none, kinds⟩).2)]) := by
  refine (ev_body ⟨[3], [], [], true, [], noIt⟩ [.cell 4 51] rfl Try.func30 rfl rfl rfl (by kernel_rfl) (by show 2 ≤ 77; decide)).trans ?_
  have hbl : (bl kinds).length ≤ 4000000 := by rw [bl_len]; exact hk
  have hc := True.intro
  simp +contextual (maxSteps := 10000000) only [↓reduceIte, go_sem, Nat.reduceEqDiff, Nat.reduceAdd, Nat.reduceSub, Nat.reduceMul, Nat.reduceLeDiff, Nat.reduceLT, Nat.reduceBEq, Nat.reduceDiv, Nat.reduceMod, Int.reduceLE, Int.reduceLT, Int.reduceEq, Int.reduceBEq, Int.reduceBNe, Int.reduceAdd, Int.reduceSub, Int.reduceNeg, Int.reduceToNat, Int.reduceMul, Int.reducePow, Nat.reducePow, reduceCtorEq, hc, doesS, t0, Bool.or_false, Bool.or_true]
  all_goals rfl
set_option maxHeartbeats 2000000 in
theorem meant_7 (l : List Val) (hl : Val.szL l ≤ 4000000) (hm : ∀ x ∈ l, mayS x = true) (sp : Bool) (at0 kind : Int) (must : Bool) (none : Int) (kinds : ByteArray) (hk : kinds.size ≤ 4000000) :
    EV 30 [.ptr 0 0 0, askD ⟨7, at0, kind, must, none, kinds⟩] [fRow l sp] = some (.ret (doesS l sp ⟨7, at0, kind, must, none, kinds⟩).1.d, [fRow l (sp || (doesS l sp ⟨7, at0, kind, must, none, kinds⟩).2)]) := by
  refine (ev_body ⟨[3], [], [], true, [], noIt⟩ [.cell 4 51] rfl Try.func30 rfl rfl rfl (by kernel_rfl) (by show 2 ≤ 77; decide)).trans ?_
  have hbl : (bl kinds).length ≤ 4000000 := by rw [bl_len]; exact hk
  have hc := rdone_c l sp at0
  simp +contextual (maxSteps := 10000000) only [↓reduceIte, go_sem, Nat.reduceEqDiff, Nat.reduceAdd, Nat.reduceSub, Nat.reduceMul, Nat.reduceLeDiff, Nat.reduceLT, Nat.reduceBEq, Nat.reduceDiv, Nat.reduceMod, Int.reduceLE, Int.reduceLT, Int.reduceEq, Int.reduceBEq, Int.reduceBNe, Int.reduceAdd, Int.reduceSub, Int.reduceNeg, Int.reduceToNat, Int.reduceMul, Int.reducePow, Nat.reducePow, reduceCtorEq, hc, doesS, t0, Bool.or_false, Bool.or_true]
  all_goals rfl
set_option maxHeartbeats 2000000 in
theorem meant_8 (l : List Val) (sp : Bool) (a : Ask) (h0 : a.what ≠ 0) (h1 : a.what ≠ 1) (h2 : a.what ≠ 2) (h3 : a.what ≠ 3) (h4 : a.what ≠ 4) (h5 : a.what ≠ 5) (h6 : a.what ≠ 6) (h7 : a.what ≠ 7) : EV 30 [.ptr 0 0 0, askD a] [fRow l sp] = some (.ret (doesS l sp a).1.d, [fRow l (sp || (doesS l sp a).2)]) := by
  refine (ev_body ⟨[3], [], [], true, [], noIt⟩ [.cell 4 51] rfl Try.func30 rfl rfl rfl (by kernel_rfl) (by show 2 ≤ 77; decide)).trans ?_
  have hd : doesS l sp a = (t0, false) := by unfold doesS; simp only [if_neg h0, if_neg h1, if_neg h2, if_neg h3, if_neg h4, if_neg h5, if_neg h6, if_neg h7]
  rw [hd]
  simp +contextual (maxSteps := 10000000) only [↓reduceIte, go_sem, Nat.reduceEqDiff, Nat.reduceAdd, Nat.reduceSub, Nat.reduceMul, Nat.reduceLeDiff, Nat.reduceLT, Nat.reduceBEq, Nat.reduceDiv, Nat.reduceMod, Int.reduceLE, Int.reduceLT, Int.reduceEq, Int.reduceBEq, Int.reduceBNe, Int.reduceAdd, Int.reduceSub, Int.reduceNeg, Int.reduceToNat, Int.reduceMul, Int.reducePow, Nat.reducePow, reduceCtorEq, beq_eq_false_iff_ne.2 h0, beq_eq_false_iff_ne.2 h1, beq_eq_false_iff_ne.2 h2, beq_eq_false_iff_ne.2 h3, beq_eq_false_iff_ne.2 h4, beq_eq_false_iff_ne.2 h5, beq_eq_false_iff_ne.2 h6, beq_eq_false_iff_ne.2 h7, t0, Bool.or_false]
  all_goals rfl
theorem meant_c (l : List Val) (hl : Val.szL l ≤ 4000000) (hm : ∀ x ∈ l, mayS x = true) (sp : Bool) (a : Ask) (hk : a.kinds.size ≤ 4000000) : EV 30 [.ptr 0 0 0, askD a] [fRow l sp] = some (.ret (doesS l sp a).1.d, [fRow l (sp || (doesS l sp a).2)]) := by
  obtain ⟨what, at0, kind, must, none, kinds⟩ := a
  by_cases h0 : what = 0
  · subst h0; exact meant_0 l hl hm sp at0 kind must none kinds hk
  by_cases h1 : what = 1
  · subst h1; exact meant_1 l hl hm sp at0 kind must none kinds hk
  by_cases h2 : what = 2
  · subst h2; exact meant_2 l hl hm sp at0 kind must none kinds hk
  by_cases h3 : what = 3
  · subst h3; exact meant_3 l hl hm sp at0 kind must none kinds hk
  by_cases h4 : what = 4
  · subst h4; exact meant_4 l hl hm sp at0 kind must none kinds hk
  by_cases h5 : what = 5
  · subst h5; exact meant_5 l hl hm sp at0 kind must none kinds hk
  by_cases h6 : what = 6
  · subst h6; exact meant_6 l hl hm sp at0 kind must none kinds hk
  by_cases h7 : what = 7
  · subst h7; exact meant_7 l hl hm sp at0 kind must none kinds hk
  exact meant_8 l sp _ h0 h1 h2 h3 h4 h5 h6 h7
end Go.Bw.R1

namespace Go.Bw.R1
set_option maxRecDepth 5000
open Go Go.Bw Go.Proofs
abbrev wfL7 : List Val := [.mk 1 0 ⟨#[]⟩ [], .mk 5 7 ⟨#[]⟩ [], .mk 21 0 ⟨#[97]⟩ []]
theorem list_some (code : Int) (l fl : List Val) (hl : Val.szL l ≤ 3999990) (hw : (putS code l).wf) (h : newS (putS code l) code ⟨#[]⟩ = some fl) : EV 22 [U64 code, .ro false (l.map Val.d)] [] = some (.ret (.ptr 0 0 0), [fRow fl false]) := by
  have h1 := fput_c code l hl
  have h2 := new_some (putS code l) (by have := putS_sz code l; omega) hw code ⟨#[]⟩ fl h
  refine (ev_body ⟨[], [], [], false, [], noIt⟩ [.tmp 4] rfl Try.func22 rfl rfl rfl (by kernel_rfl) (by show 2 ≤ 18; decide)).trans ?_
  simp +contextual (maxSteps := 10000000) only [↓reduceIte, go_sem, Nat.reduceEqDiff, Nat.reduceAdd, Nat.reduceSub, Nat.reduceMul, Nat.reduceLeDiff, Nat.reduceLT, Nat.reduceBEq, Nat.reduceDiv, Nat.reduceMod, Int.reduceLE, Int.reduceLT, Int.reduceEq, Int.reduceBEq, Int.reduceBNe, Int.reduceAdd, Int.reduceSub, Int.reduceNeg, Int.reduceToNat, Int.reduceMul, Int.reducePow, Nat.reducePow, reduceCtorEq, h1, h2]
theorem wf7 : (putS 16 wfL7).wf := ⟨by decide, ⟨by decide, trivial⟩, ⟨by decide, ⟨by decide, trivial⟩, ⟨by decide, trivial⟩, ⟨by decide, trivial⟩, trivial⟩, trivial⟩
theorem new7 : newS (putS 16 wfL7) 16 ⟨#[]⟩ = some wfL7 := by
  unfold newS; rw [if_pos ⟨by decide, rfl⟩]; rfl
set_option maxHeartbeats 1000000 in
theorem works7 : EV 13 [] [] = some (.ret (B true), []) := by
  refine (ev_body ⟨[], [], [], false, [], noIt⟩ [.tmp 0] rfl Try.func13 rfl rfl rfl (by kernel_rfl) (by show 0 ≤ 60; decide)).trans ?_
  have h := list_some 16 wfL7 wfL7 (by decide) wf7 new7
  simp only [List.map_cons, List.map_nil] at h
  have a0 : EV 43 [.ptr 0 0 0, I 0] [fRow wfL7 false] = some (.ret (B false), [fRow wfL7 false]) := has_c wfL7 false 0
  have a1 : EV 43 [.ptr 0 0 0, I 2] [fRow wfL7 false] = some (.ret (B true), [fRow wfL7 false]) := has_c wfL7 false 2
  have a2 : EV 44 [.ptr 0 0 0, I 1, U8 5, B true, U64 0] [fRow wfL7 false] = some (.ret (U64 7), [fRow wfL7 false]) := number_f wfL7 false 1 5 true 0
  have a3 : EV 44 [.ptr 0 0 0, I 0, U8 5, B false, U64 5] [fRow wfL7 false] = some (.ret (U64 5), [fRow wfL7 false]) := number_f wfL7 false 0 5 false 5
  have a4 : EV 23 [.ptr 0 0 0, I 2] [fRow wfL7 false] = some (.ret (.ro false [Sx ⟨#[97]⟩]), [fRow wfL7 false]) := symbols_f wfL7 (by decide) false 2
  have a5 : EV 24 [.ptr 0 0 0, I 3] [fRow wfL7 false] = some (.ret (I 0), [fRow wfL7 false]) := done_c wfL7 false 3
  have a6 : EV 24 [.ptr 0 0 0, I 2] [fRow wfL7 false] = some (.ret (I 6), [fRow wfL7 false]) := done_c wfL7 false 2
  have a7 : EV 44 [.ptr 0 0 0, I 0, U8 5, B true, U64 5] [fRow wfL7 false] = some (.ret (U64 5), [fRow wfL7 true]) := number_f wfL7 false 0 5 true 5
  have a8 : EV 24 [.ptr 0 0 0, I 3] [fRow wfL7 true] = some (.ret (I 6), [fRow wfL7 true]) := done_c wfL7 true 3
  simp only [fRow, List.map_cons, List.map_nil] at h a0 a1 a2 a3 a4 a5 a6 a7 a8
  simp +contextual (maxSteps := 10000000) only [↓reduceIte, go_sem, Nat.reduceEqDiff, Nat.reduceAdd, Nat.reduceSub, Nat.reduceMul, Nat.reduceLeDiff, Nat.reduceLT, Nat.reduceBEq, Nat.reduceDiv, Nat.reduceMod, Int.reduceLE, Int.reduceLT, Int.reduceEq, Int.reduceBEq, Int.reduceBNe, Int.reduceAdd, Int.reduceSub, Int.reduceNeg, Int.reduceToNat, Int.reduceMul, Int.reducePow, Nat.reducePow, reduceCtorEq, null_c, number_c, text_c, h, a0, a1, a2, a3, a4, a5, a6, a7, a8, List.length_cons, List.length_nil]
end Go.Bw.R1

namespace Go.Bw.R1
set_option maxRecDepth 5000
open Go Go.Bw Go.Proofs
theorem strL_at {l : List ByteArray} {i : Nat} {x : ByteArray} (h : l[i]? = some x) : (l.map fun s => D.sc (.string s))[i]? = some (.sc (.string x)) := by rw [List.getElem?_map, h]; rfl
set_option maxHeartbeats 1000000 in
theorem samet_c (t : Tld) (hv : t.v.sz ≤ 4000000) (hl : t.l.length ≤ 4000000) : EV 28 [t.d, t.d] [] = some (.ret (B true), []) := by
  have hs := same32 _ t.v t.v (Nat.le_refl _) hv
  rw [same_refl] at hs
  refine (ev_body ⟨[2, 3], [(0, [2, 3, 5])], [(6, [(0, 0, false), (1, 0, false), (2, 0, false), (3, 0, false), (4, 0, false), (5, 0, false), (6, 0, false), (7, 0, false), (8, 0, false), (9, 0, false), (10, 0, false)])], false, [], noIt⟩ [.tmp 4] rfl Try.func28 rfl rfl rfl (by kernel_rfl) (by show 2 ≤ 67; decide)).trans ?_
  simp +contextual (maxSteps := 10000000) only [↓reduceIte, go_sem, Nat.reduceEqDiff, Nat.reduceAdd, Nat.reduceSub, Nat.reduceMul, Nat.reduceLeDiff, Nat.reduceLT, Nat.reduceBEq, Nat.reduceDiv, Nat.reduceMod, Int.reduceLE, Int.reduceLT, Int.reduceEq, Int.reduceBEq, Int.reduceBNe, Int.reduceAdd, Int.reduceSub, Int.reduceNeg, Int.reduceToNat, Int.reduceMul, Int.reducePow, Nat.reducePow, reduceCtorEq, hs, bne_self_eq_false, beq_self_eq_true, Bool.false_or, eq_self, decide_true, Bool.not_true]
  refine lpK_inv (fun m0 f es => ∃ (i : Nat) (j : Int), j = i ∧ i + m0 = t.l.length ∧ f = [(2, .rp t.cs), (3, .rp t.cs), (5, I j)] ∧ es = []) t.l.length ⟨0, _, rfl, by omega, rfl, rfl⟩ ?_
  rintro m0 _ _ ⟨i, j, hj, hi, rfl, rfl⟩ ih
  rcases Nat.lt_or_ge i t.l.length with hlt | hge
  · obtain ⟨x, hx⟩ := get_lt hlt
    have hlt' : decide (j < t.l.length) = true := by simp <;> omega
    have g1 : t.l[j.toNat]? = some x := by rw [show j.toNat = i by omega]; exact hx
    have e : (!decide (x = x)) = false := by simp
    simp +contextual (maxSteps := 10000000) only [↓reduceIte, go_sem, Nat.reduceEqDiff, Nat.reduceAdd, Nat.reduceSub, Nat.reduceMul, Nat.reduceLeDiff, Nat.reduceLT, Nat.reduceBEq, Nat.reduceDiv, Nat.reduceMod, Int.reduceLE, Int.reduceLT, Int.reduceEq, Int.reduceBEq, Int.reduceBNe, Int.reduceAdd, Int.reduceSub, Int.reduceNeg, Int.reduceToNat, Int.reduceMul, Int.reducePow, Nat.reducePow, reduceCtorEq, hlt', g1, e, bne_self_eq_false, decide_true, Bool.not_true, show 0 ≤ j by omega, show j < t.l.length by omega, wrap_i64 (n := j + 1) (by omega) (by omega)]
    exact ih (m0 - 1) _ _ (by omega) ⟨i + 1, _, by omega, by omega, rfl, rfl⟩
  · have hlt' : decide (j < t.l.length) = false := by simp <;> omega
    simp +contextual (maxSteps := 10000000) only [↓reduceIte, go_sem, Nat.reduceEqDiff, Nat.reduceAdd, Nat.reduceSub, Nat.reduceMul, Nat.reduceLeDiff, Nat.reduceLT, Nat.reduceBEq, Nat.reduceDiv, Nat.reduceMod, Int.reduceLE, Int.reduceLT, Int.reduceEq, Int.reduceBEq, Int.reduceBNe, Int.reduceAdd, Int.reduceSub, Int.reduceNeg, Int.reduceToNat, Int.reduceMul, Int.reducePow, Nat.reducePow, reduceCtorEq, hlt']
theorem does_bound (l : List Val) (hl : Val.szL l ≤ 4000000) (sp : Bool) (a : Ask) : (doesS l sp a).1.v.sz ≤ 4000000 ∧ (doesS l sp a).1.l.length ≤ 4000000 := by
  have z : vZ.sz ≤ 4000000 := by decide
  have hat : ∀ i x, atS l i = some x → x.sz ≤ Val.szL l := fun i x h => szL_mem (atS_len h).2.2.1
  unfold doesS
  repeat' split
  all_goals first
    | (refine ⟨z, ?_⟩; simp [t0]; done)
    | skip
  · refine ⟨?_, by simp [t0]⟩
    show (valS l a.at0 (bl a.kinds)).1.sz ≤ _
    unfold valS
    split
    · show vN.sz ≤ _; decide
    · rename_i x hx
      have := hat _ x hx
      split
      · show x.sz ≤ _; omega
      · show vN.sz ≤ _; decide
  · refine ⟨z, ?_⟩
    show (symS l a.at0).1.length ≤ _
    unfold symS
    split
    · simp
    · rename_i x hx
      have := hat _ x hx
      have h1 := Val.sz_eq x
      have h2 := szL_len x.kids
      repeat' split
      · simp
      · simp only [List.length_map]; omega
      · simp
theorem ask_refs : ∀ l : List Ask, D.refsL (l.map askD) = []
  | [] => rfl
  | a :: l => by simp only [List.map_cons, D.refsL, D.refs, u8L_refs, ask_refs l, List.append_nil]
theorem ask_can (l : List Ask) : D.canL (l.map askD) = l.map askD := by
  rw [D.canL_map, List.map_map]
  refine List.map_congr_left fun a _ => ?_
  simp only [Function.comp, askD, D.can, D.canL, u8L_can]
attribute [go_sem] ask_refs ask_can
theorem askD_d (l : List Ask) : l.map Ask.d = l.map askD := List.map_congr_left fun a _ => (askD_eq a).symm
set_option maxHeartbeats 4000000 in
theorem plays7_law (v : Val) (hw : v.wf) (hs : v.sz ≤ 3999990) (code : Int) (name : ByteArray) (l : List Ask) (hlen : l.length ≤ 4000000) (hk : ∀ a ∈ l, a.kinds.size ≤ 4000000) : EV 5 [v.d, U64 code, Sx name, .ro false (l.map askD)] [] = some (.ret (B true), []) := by
  refine (ev_body ⟨[4], [(0, [3, 4, 9, 10, 12, 14])], [(11, [(0, 0, false), (1, 0, false), (2, 0, false), (3, 0, false), (4, 0, false), (5, 0, true), (6, 0, false), (7, 0, false), (8, 0, false), (9, 0, false), (10, 0, false), (11, 0, true), (12, 2, false), (13, 0, false)]), (13, [(0, 0, false), (1, 0, false), (2, 0, false), (3, 0, false), (4, 0, false), (5, 0, false), (6, 0, false), (7, 0, false), (8, 0, false), (9, 0, false), (10, 0, false), (11, 0, false), (12, 0, false), (13, 0, false), (14, 0, false), (15, 0, false), (16, 0, false), (17, 0, false), (18, 0, false), (19, 0, false), (20, 0, false), (21, 0, false), (22, 0, false), (23, 0, false), (24, 0, false), (25, 0, false), (26, 0, false), (27, 0, false)])], false, [], noIt⟩ [.tmp 8] rfl Try.func5 rfl rfl rfl (by kernel_rfl) (by show 4 ≤ 101; decide)).trans ?_
  have h1 := large1 v (by omega)
  have h2 := rcopy_c _ v (Nat.le_refl _) (by omega)
  have h5 := same32 _ v v (Nat.le_refl _) (by omega)
  rw [same_refl] at h5
  cases hb : decide (8192 < lgS [v])
  · rw [hb] at h1
    cases hm : decide (60 < (l.length : Int))
    · cases hn : newS v code name with
      | none =>
        simp +contextual (maxSteps := 10000000) only [↓reduceIte, go_sem, Nat.reduceEqDiff, Nat.reduceAdd, Nat.reduceSub, Nat.reduceMul, Nat.reduceLeDiff, Nat.reduceLT, Nat.reduceBEq, Nat.reduceDiv, Nat.reduceMod, Int.reduceLE, Int.reduceLT, Int.reduceEq, Int.reduceBEq, Int.reduceBNe, Int.reduceAdd, Int.reduceSub, Int.reduceNeg, Int.reduceToNat, Int.reduceMul, Int.reducePow, Nat.reducePow, reduceCtorEq, h1, h2, h5, hm, new_none v (by omega) hw code name hn, rnew_none v (by omega) code name hn, works7]
        refine lpK_inv (fun m0 f es => f = [(3, .ro false (l.map askD)), (4, .rp v.cs), (9, .ptr 0 0 0), (10, .nilp), (12, .nilp), (14, I 0)] ∧ es = [some ⟨0, v.cs⟩]) 0 ⟨rfl, rfl⟩ ?_
        rintro m0 _ _ ⟨rfl, rfl⟩ ih
        cases hl0 : decide ((0 : Int) < l.length)
        · simp +contextual (maxSteps := 10000000) only [↓reduceIte, go_sem, Nat.reduceEqDiff, Nat.reduceAdd, Nat.reduceSub, Nat.reduceMul, Nat.reduceLeDiff, Nat.reduceLT, Nat.reduceBEq, Nat.reduceDiv, Nat.reduceMod, Int.reduceLE, Int.reduceLT, Int.reduceEq, Int.reduceBEq, Int.reduceBNe, Int.reduceAdd, Int.reduceSub, Int.reduceNeg, Int.reduceToNat, Int.reduceMul, Int.reducePow, Nat.reducePow, reduceCtorEq, hl0, h5, works7]
        · simp +contextual (maxSteps := 10000000) only [↓reduceIte, go_sem, Nat.reduceEqDiff, Nat.reduceAdd, Nat.reduceSub, Nat.reduceMul, Nat.reduceLeDiff, Nat.reduceLT, Nat.reduceBEq, Nat.reduceDiv, Nat.reduceMod, Int.reduceLE, Int.reduceLT, Int.reduceEq, Int.reduceBEq, Int.reduceBNe, Int.reduceAdd, Int.reduceSub, Int.reduceNeg, Int.reduceToNat, Int.reduceMul, Int.reducePow, Nat.reducePow, reduceCtorEq, hl0, h5, works7]
      | some fl =>
        have hfl := newS_some hn
        simp +contextual (maxSteps := 10000000) only [↓reduceIte, go_sem, Nat.reduceEqDiff, Nat.reduceAdd, Nat.reduceSub, Nat.reduceMul, Nat.reduceLeDiff, Nat.reduceLT, Nat.reduceBEq, Nat.reduceDiv, Nat.reduceMod, Int.reduceLE, Int.reduceLT, Int.reduceEq, Int.reduceBEq, Int.reduceBNe, Int.reduceAdd, Int.reduceSub, Int.reduceNeg, Int.reduceToNat, Int.reduceMul, Int.reducePow, Nat.reducePow, reduceCtorEq, h1, h2, h5, hm, new_some v (by omega) hw code name fl hn, rnew_some v (by omega) code name fl hn, works7]
        obtain ⟨_, _, d, x, hvk, _, _, hflx, hml⟩ := hfl
        have hz := Val.sz_eq v
        have hz2 := Val.sz_eq x
        rw [hvk] at hz
        simp only [Val.szL] at hz
        have hfs : Val.szL fl ≤ 4000000 := by rw [hflx]; omega
        have hmay : ∀ x ∈ fl, mayS x = true := by rw [mayL_all, List.all_eq_true] at hml; exact hml
        refine lpK_inv (fun m0 f es => ∃ (i : Nat) (j : Int) (sp : Bool), j = i ∧ i + m0 = l.length ∧ f = [(3, .ro false (l.map askD)), (4, .rp v.cs), (9, .ptr 0 0 0), (10, .ptr 1 0 0), (12, .ptr 2 0 0), (14, I j)] ∧ es = [some ⟨0, v.cs⟩, fRow fl sp, fRow fl sp]) l.length ⟨0, _, false, rfl, by omega, rfl, rfl⟩ ?_
        rintro m0 _ _ ⟨i, j, sp, hj, hi, rfl, rfl⟩ ih
        rcases Nat.lt_or_ge i l.length with hlt | hge
        · obtain ⟨a, ha⟩ := get_lt hlt
          have hlt' : decide (j < l.length) = true := by simp <;> omega
          have g1 : l[j.toNat]? = some a := by rw [show j.toNat = i by omega]; exact ha
          have hka := hk a (List.mem_of_getElem? ha)
          have c1 := does_c fl hfs sp a hka
          have c2 := meant_c fl hfs hmay sp a hka
          obtain ⟨bd1, bd2⟩ := does_bound fl hfs sp a
          have c3 := samet_c (doesS fl sp a).1 bd1 bd2
          obtain ⟨t, ht⟩ : ∃ t, t = (doesS fl sp a).1 := ⟨_, rfl⟩
          obtain ⟨sp', hsp⟩ : ∃ b, b = (sp || (doesS fl sp a).2) := ⟨_, rfl⟩
          rw [← ht, ← hsp] at c1 c2
          rw [← ht] at c3
          simp +contextual (maxSteps := 10000000) only [↓reduceIte, go_sem, Nat.reduceEqDiff, Nat.reduceAdd, Nat.reduceSub, Nat.reduceMul, Nat.reduceLeDiff, Nat.reduceLT, Nat.reduceBEq, Nat.reduceDiv, Nat.reduceMod, Int.reduceLE, Int.reduceLT, Int.reduceEq, Int.reduceBEq, Int.reduceBNe, Int.reduceAdd, Int.reduceSub, Int.reduceNeg, Int.reduceToNat, Int.reduceMul, Int.reducePow, Nat.reducePow, reduceCtorEq, hlt', g1, c1, c2, c3, show 0 ≤ j by omega, show j < l.length by omega, wrap_i64 (n := j + 1) (by omega) (by omega)]
          exact ih (m0 - 1) _ _ (by omega) ⟨i + 1, j + 1, sp', by omega, by omega, rfl, rfl⟩
        · have hlt' : decide (j < l.length) = false := by simp <;> omega
          simp +contextual (maxSteps := 10000000) only [↓reduceIte, go_sem, Nat.reduceEqDiff, Nat.reduceAdd, Nat.reduceSub, Nat.reduceMul, Nat.reduceLeDiff, Nat.reduceLT, Nat.reduceBEq, Nat.reduceDiv, Nat.reduceMod, Int.reduceLE, Int.reduceLT, Int.reduceEq, Int.reduceBEq, Int.reduceBNe, Int.reduceAdd, Int.reduceSub, Int.reduceNeg, Int.reduceToNat, Int.reduceMul, Int.reducePow, Nat.reducePow, reduceCtorEq, hlt', done_c, rdone_c, h5, works7]
          rw [beq_self_eq_true]
    · simp +contextual (maxSteps := 10000000) only [↓reduceIte, go_sem, Nat.reduceEqDiff, Nat.reduceAdd, Nat.reduceSub, Nat.reduceMul, Nat.reduceLeDiff, Nat.reduceLT, Nat.reduceBEq, Nat.reduceDiv, Nat.reduceMod, Int.reduceLE, Int.reduceLT, Int.reduceEq, Int.reduceBEq, Int.reduceBNe, Int.reduceAdd, Int.reduceSub, Int.reduceNeg, Int.reduceToNat, Int.reduceMul, Int.reducePow, Nat.reducePow, reduceCtorEq, h1, hm, works7]
  · rw [hb] at h1
    simp +contextual (maxSteps := 10000000) only [↓reduceIte, go_sem, Nat.reduceEqDiff, Nat.reduceAdd, Nat.reduceSub, Nat.reduceMul, Nat.reduceLeDiff, Nat.reduceLT, Nat.reduceBEq, Nat.reduceDiv, Nat.reduceMod, Int.reduceLE, Int.reduceLT, Int.reduceEq, Int.reduceBEq, Int.reduceBNe, Int.reduceAdd, Int.reduceSub, Int.reduceNeg, Int.reduceToNat, Int.reduceMul, Int.reducePow, Nat.reducePow, reduceCtorEq, h1, works7]
end Go.Bw.R1

namespace Go.Bw.R1
set_option maxRecDepth 5000
open Go Go.Bw Go.Proofs
theorem trimS_pre (l : List Val) : ∃ n, n ≤ l.length ∧ trimS l = l.take n ∧ ∀ i x, n ≤ i → l[i]? = some x → x.kind = 1 := by
  suffices h : ∀ k, k ≤ l.length → (∀ i x, k ≤ i → l[i]? = some x → x.kind = 1) → ∃ n, n ≤ l.length ∧ trimS l = l.take n ∧ ∀ i x, n ≤ i → l[i]? = some x → x.kind = 1 from
    h l.length (Nat.le_refl _) fun i x h1 h2 => by have := (List.getElem?_eq_some_iff.1 h2).1; omega
  intro k
  induction k with
  | zero => intro hk h; exact ⟨0, hk, (fput_end l 0 hk h fun x h => by omega).symm, h⟩
  | succ k ih =>
    intro hk h
    obtain ⟨x, hx⟩ := get_lt (l := l) (i := k) (by omega)
    by_cases h1 : x.kind = 1
    · exact ih (by omega) fun i y hi hy => by
        by_cases e : i = k
        · subst e; rw [hx] at hy; simp only [Option.some.injEq] at hy; subst hy; exact h1
        · exact h i y (by omega) hy
    · exact ⟨k + 1, hk, (fput_end l (k + 1) hk h fun y _ hy => by
        simp only [Nat.add_sub_cancel] at hy; rw [hx] at hy; simp only [Option.some.injEq] at hy; subst hy; exact h1).symm, h⟩
theorem trimS_len (l : List Val) : (trimS l).length ≤ l.length := by
  obtain ⟨n, h1, h2, _⟩ := trimS_pre l
  rw [h2, List.length_take]; omega
theorem wfL_take {l : List Val} (h : Val.wfL l) (n : Nat) : Val.wfL (l.take n) := by
  induction l generalizing n with
  | nil => simpa using h
  | cons a l ih =>
    cases n with
    | zero => exact trivial
    | succ n => exact ⟨h.1, ih h.2 n⟩
theorem putS_wf (code : Int) (h0 : 0 ≤ code ∧ code < 18446744073709551616) {l : List Val} (h : Val.wfL l) : (putS code l).wf := by
  obtain ⟨n, _, h2, _⟩ := trimS_pre l
  refine ⟨by decide, ⟨⟨by decide, by decide, h0.1, h0.2⟩, trivial⟩, ⟨by decide, ?_⟩, trivial⟩
  rw [h2]; exact wfL_take h n
theorem atS_trim (l : List Val) (i : Int) : atS (trimS l) i = atS l i := by
  obtain ⟨n, h1, h2, h3⟩ := trimS_pre l
  unfold atS
  rw [h2]
  split
  · rfl
  · rw [List.getElem?_take]
    by_cases hin : i.toNat < n
    · rw [if_pos hin]
    · rw [if_neg hin]
      cases hx : l[i.toNat]? with
      | none => rfl
      | some x => simp only; rw [if_pos (h3 i.toNat x (by omega) hx)]
theorem mayS_put (code : Int) (l : List Val) : mayS (putS code l) = mayL (trimS l) := by
  simp only [putS, mayS, mayL]
  show (true && ((true && true && (true && true && true)) && ((true && mayL (trimS l) && (true && true && true)) && true)) && (true && true && true)) = mayL (trimS l)
  simp
theorem trim_last {l : List Val} {x : Val} (h : x.kind ≠ 1) : trimS (l ++ [x]) = l ++ [x] := by
  unfold trimS
  rw [List.reverse_append]
  simp only [List.reverse_cons, List.reverse_nil, List.nil_append, List.cons_append]
  rw [List.dropWhile_cons, if_neg (by simpa using h)]
  simp
theorem newS_putN {code : Int} {l : List Val} {name : ByteArray} (h : rightS (putS code l) = true) : newS (putS code l) code name = some (trimS l) := by
  unfold newS
  rw [if_pos ⟨h, rfl⟩]
  have e : calledS (Val.mk 6 code ⟨#[]⟩ []) code name = true := by simp [calledS, Val.kind_mk, Val.num_mk]
  simp only [putS, Val.kids_mk, Val.kind_mk, e, and_self, if_true]
theorem newS_putX {code c2 : Int} {l : List Val} {name : ByteArray} (h : c2 ≠ code) : newS (putS c2 l) code name = none := by
  unfold newS
  split
  · have e : calledS (Val.mk 6 c2 ⟨#[]⟩ []) code name = false := by simp [calledS, Val.kind_mk, Val.num_mk, h]
    simp only [putS, Val.kids_mk, Val.kind_mk, e, Bool.false_eq_true, and_false, if_false]
  · rfl
end Go.Bw.R1

namespace Go.Bw.R1
set_option maxRecDepth 5000
open Go Go.Bw Go.Proofs
theorem fsE_vals {es : Sto} {F : Nat → Bool} {n i v len : Nat} {l : List Val} (hl : l.length = len) : fsE es F n i v 4 0 len true (some ⟨v, rowE Val.d l⟩) = .ro false (l.map Val.d) := fsE_rowE valOk hl
attribute [go_sem] fsE_vals
theorem many_nil (k : Int) : EV 20 [U8 k, .nils] [] = some (.ret (Val.mk k 0 ⟨#[]⟩ []).d, []) := by
  have hc : EV 48 [.nils] [] = some (.ret (.ro false []), []) := by
    refine (ev_body ⟨[], [(0, [2, 5, 6, 7])], [], true, [], noIt⟩ [.tmp 2] rfl Try.func48 rfl rfl rfl (by kernel_rfl) (by show 1 ≤ 18; decide)).trans ?_
    simp +contextual (maxSteps := 10000000) only [↓reduceIte, go_sem, Nat.reduceEqDiff, Nat.reduceAdd, Nat.reduceSub, Nat.reduceMul, Nat.reduceLeDiff, Nat.reduceLT, Nat.reduceBEq, Nat.reduceDiv, Nat.reduceMod, Int.reduceLE, Int.reduceLT, Int.reduceEq, Int.reduceBEq, Int.reduceBNe, Int.reduceAdd, Int.reduceSub, Int.reduceNeg, Int.reduceToNat, Int.reduceMul, Int.reducePow, Nat.reducePow, reduceCtorEq]
    refine lpK_inv (fun m0 f es => f = [(2, .nils), (5, .nils), (6, I 0), (7, I 0)] ∧ es = []) 0 ⟨rfl, rfl⟩ ?_
    rintro m0 _ _ ⟨rfl, rfl⟩ ih
    simp +contextual (maxSteps := 10000000) only [↓reduceIte, go_sem, Nat.reduceEqDiff, Nat.reduceAdd, Nat.reduceSub, Nat.reduceMul, Nat.reduceLeDiff, Nat.reduceLT, Nat.reduceBEq, Nat.reduceDiv, Nat.reduceMod, Int.reduceLE, Int.reduceLT, Int.reduceEq, Int.reduceBEq, Int.reduceBNe, Int.reduceAdd, Int.reduceSub, Int.reduceNeg, Int.reduceToNat, Int.reduceMul, Int.reducePow, Nat.reducePow, reduceCtorEq]
  refine (ev_body ⟨[], [], [], true, [], noIt⟩ [.cell 4 28] rfl Try.func20 rfl rfl rfl (by kernel_rfl) (by show 2 ≤ 9; decide)).trans ?_
  simp +contextual (maxSteps := 10000000) only [↓reduceIte, go_sem, Nat.reduceEqDiff, Nat.reduceAdd, Nat.reduceSub, Nat.reduceMul, Nat.reduceLeDiff, Nat.reduceLT, Nat.reduceBEq, Nat.reduceDiv, Nat.reduceMod, Int.reduceLE, Int.reduceLT, Int.reduceEq, Int.reduceBEq, Int.reduceBNe, Int.reduceAdd, Int.reduceSub, Int.reduceNeg, Int.reduceToNat, Int.reduceMul, Int.reducePow, Nat.reducePow, reduceCtorEq, hc]
theorem wfL_app : ∀ {a b : List Val}, Val.wfL a → Val.wfL b → Val.wfL (a ++ b)
  | [], _, _, h => h
  | _ :: _, _, h, k => ⟨h.1, wfL_app h.2 k⟩
def symV (s : ByteArray) : Val := .mk 21 0 s []
theorem symV_sz : ∀ l : List ByteArray, Val.szL (l.map symV) = sumW (fun s => s.size + 1) l
  | [] => rfl
  | s :: l => by simp only [List.map_cons, Val.szL, symV_sz l, sumW]; simp only [symV, Val.sz, Val.szL, Nat.add_zero]
theorem symV_wf : ∀ l : List ByteArray, Val.wfL (l.map symV)
  | [] => trivial
  | s :: l => ⟨⟨by decide, trivial⟩, symV_wf l⟩
theorem sym_texts : ∀ l : List ByteArray, (l.map symV).map Val.text = l
  | [] => rfl
  | s :: l => by simp only [List.map_cons, sym_texts l]; rfl
theorem sym_all : ∀ l : List ByteArray, ((l.map symV).all fun k => k.kind == 21) = true
  | [] => rfl
  | s :: l => by simp only [List.map_cons, List.all_cons, sym_all l, Bool.and_true]; rfl
theorem symS_trim (l : List Val) (i : Int) : symS (trimS l) i = symS l i := by unfold symS; rw [atS_trim]
theorem symS_0 (l : List ByteArray) (r : List Val) : symS (Val.mk 24 0 ⟨#[]⟩ (l.map symV) :: r) 0 = (l, false) := by
  have h : atS (Val.mk 24 0 ⟨#[]⟩ (l.map symV) :: r) 0 = some (Val.mk 24 0 ⟨#[]⟩ (l.map symV)) := rfl
  unfold symS
  rw [h]
  simp only [Val.kind_mk, Val.kids_mk, Int.reduceEq, if_false, sym_all, and_self, if_true, sym_texts]
theorem symS_at {A : List Val} {i : Nat} {s : ByteArray} (h : A[i]? = some (symV s)) {j : Int} (hj : j = i) : symS A j = ([s], false) := by
  have h2 : atS A j = some (symV s) := by
    unfold atS
    rw [if_neg (by omega), show j.toNat = i by omega, h]; rfl
  unfold symS
  rw [h2]; rfl
theorem symS_out {A : List Val} {j : Int} (h : j < 0 ∨ (A.length : Int) ≤ j) : symS A j = ([], false) := by
  have h2 : atS A j = none := by
    unfold atS
    rcases Int.lt_or_le j 0 with h0 | h0
    · rw [if_pos h0]
    · rw [if_neg (by omega), List.getElem?_eq_none (by omega)]
  unfold symS
  rw [h2]
def fineS (v : Val) : Bool := v.kind == 1 || (v.kind == 21 || (v.kind == 24 && (match v.kids with | [] => true | x :: _ => x.kind == 21)))
theorem symS_last {A : List Val} {i : Nat} {v : Val} (h : A[i]? = some v) {j : Int} (hj : j = i) (hm : v.kind ≠ 1 → mayS v = true) : (symS A j).2 = !fineS v := by
  have h2 : atS A j = if v.kind = 1 then none else some v := by
    unfold atS
    rw [if_neg (by omega), show j.toNat = i by omega, h]
  unfold symS fineS
  rw [h2]
  by_cases h1 : v.kind = 1
  · rw [if_pos h1, h1]; rfl
  · rw [if_neg h1]
    have e1 : (v.kind == 1) = false := by simpa using h1
    by_cases h21 : v.kind = 21
    · simp only [e1, h21, if_true]; rfl
    · have e2 : (v.kind == 21) = false := by simpa using h21
      simp only [if_neg h21, e1, e2, Bool.false_or]
      have hm := hm h1
      by_cases h24 : v.kind = 24
      · rw [mayS_eq] at hm
        simp only [Bool.and_eq_true] at hm
        have hf := hm.2.2
        rw [h24] at hf
        simp only [famS] at hf
        rw [if_neg (by decide), if_neg (by decide), if_pos (by decide)] at hf
        rw [h24]
        cases hk : v.kids with
        | nil => rfl
        | cons x r =>
          rw [hk] at hf
          rw [List.all_eq_true] at hf
          have hal : ∀ y ∈ x :: r, x.kind = 21 → y.kind = 21 := fun y hy hx => by
            have := hf y hy
            unfold alike at this
            have hz : 0 < x.sz := by cases x; simp [Val.sz]
            obtain ⟨n, hn⟩ : ∃ n, x.sz = n + 1 := ⟨x.sz - 1, by omega⟩
            simp only [hn, alikeF] at this
            rw [if_pos (by rw [hx]; rfl)] at this
            rw [hx] at this; exact (by simpa using this : (21 : Int) = y.kind).symm
          by_cases hx : x.kind = 21
          · have : ((x :: r).all fun k => k.kind == 21) = true := by
              rw [List.all_eq_true]; intro y hy; simpa using hal y hy hx
            simp only [this, hx, and_self, if_true]; rfl
          · have : ((x :: r).all fun k => k.kind == 21) = false := by
              simp only [List.all_cons]; rw [show (x.kind == 21) = false by simpa using hx, Bool.false_and]
            simp only [this, show (x.kind == 21) = false by simpa using hx, Bool.false_eq_true, and_false, if_false]; rfl
      · have e3 : (v.kind == 24) = false := by simpa using h24
        rw [if_neg (by intro hh; exact h24 hh.1), e3]; rfl
def ScJ (l : List ByteArray) (A T : List Val) (v : Val) (m0 : Nat) (f : Fr) (es : Sto) : Prop := ∃ (i : Nat) (j : Int), j = i ∧ i + m0 = l.length ∧ f = [(0, .ro false (strL l)), (3, .rp v.cs), (7, .ro false (A.map Val.d)), (8, .ptr 0 0 0), (9, .ro false (strL l)), (10, I j)] ∧ es = [fRow T false]
def ScI (l : List ByteArray) (K : List Val) (v : Val) (m0 : Nat) (f : Fr) (es : Sto) : Prop := ∃ (i : Nat) (j : Int), j = i ∧ i + m0 = l.length ∧ f = [(0, .ro false (strL l)), (3, .rp v.cs), (5, accE 4 (K.take i)), (6, I j)] ∧ es = stoE Val.d (K.take i)
set_option maxHeartbeats 8000000 in
theorem symbols_law (l : List ByteArray) (v : Val) (hw : v.wf) (hs : 2 * sumW (fun s => s.size + 1) l + v.sz ≤ 3999900) : EV 4 [.ro false (strL l), v.d] [] = some (.ret (B true), []) := by
  have hlg := large1 v (by omega)
  obtain ⟨K, hK⟩ : ∃ K, K = l.map symV := ⟨_, rfl⟩
  have hKl : K.length = l.length := by rw [hK, List.length_map]
  have hKz : Val.szL K = sumW (fun s => s.size + 1) l := by rw [hK]; exact symV_sz l
  refine (ev_body ⟨[3], [(0, [0, 3, 5, 6]), (2, [0, 3, 7, 8, 9, 10])], [(22, [(0, 0, false), (1, 0, false), (2, 0, false), (3, 0, false), (4, 0, false), (5, 0, false), (6, 0, false), (7, 0, false), (8, 0, false), (9, 0, false), (10, 0, false), (11, 0, false), (12, 0, false), (13, 0, false), (14, 0, false), (15, 0, false), (16, 0, false), (17, 0, false), (18, 0, false), (19, 0, false), (20, 0, false), (21, 0, false), (22, 0, false), (23, 0, false)])], false, [(3000008, [5]), (9, [7])], noIt⟩ [.tmp 4] rfl Try.func4 rfl rfl rfl (by kernel_rfl) (by show 2 ≤ 156; decide)).trans ?_
  cases hm : decide (100 < (l.length : Int))
  · have hl100 : l.length ≤ 100 := by have := of_decide_eq_false hm; omega
    cases hb : decide (8192 < lgS [v])
    · rw [hb] at hlg
      simp +contextual (maxSteps := 10000000) only [↓reduceIte, go_sem, Nat.reduceEqDiff, Nat.reduceAdd, Nat.reduceSub, Nat.reduceMul, Nat.reduceLeDiff, Nat.reduceLT, Nat.reduceBEq, Nat.reduceDiv, Nat.reduceMod, Int.reduceLE, Int.reduceLT, Int.reduceEq, Int.reduceBEq, Int.reduceBNe, Int.reduceAdd, Int.reduceSub, Int.reduceNeg, Int.reduceToNat, Int.reduceMul, Int.reducePow, Nat.reducePow, reduceCtorEq, hm, hlg]
      refine lpK_inv (ScI l K v) l.length ⟨0, _, rfl, by omega, rfl, rfl⟩ ?_
      rintro m0 _ _ ⟨i, j, hj, hi, rfl, rfl⟩ ih
      rcases Nat.lt_or_ge i l.length with hlt | hge
      · obtain ⟨x, hx⟩ := get_lt hlt
        have hx2 : K[i]? = some (symV x) := by rw [hK, List.getElem?_map, hx]; rfl
        have hlt' : decide (j < l.length) = true := by simp <;> omega
        have g1 : l[j.toNat]? = some x := by rw [show j.toNat = i by omega]; exact hx
        have hsn := take_snoc hx2
        rcases Nat.eq_zero_or_pos i with rfl | hpos
        · simp only [List.take_zero, accE, stoE]
          simp +contextual (maxSteps := 10000000) only [↓reduceIte, go_sem, Nat.reduceEqDiff, Nat.reduceAdd, Nat.reduceSub, Nat.reduceMul, Nat.reduceLeDiff, Nat.reduceLT, Nat.reduceBEq, Nat.reduceDiv, Nat.reduceMod, Int.reduceLE, Int.reduceLT, Int.reduceEq, Int.reduceBEq, Int.reduceBNe, Int.reduceAdd, Int.reduceSub, Int.reduceNeg, Int.reduceToNat, Int.reduceMul, Int.reducePow, Nat.reducePow, reduceCtorEq, hlt', g1, text_c, show 0 ≤ j by omega, show j < l.length by omega, wrap_i64 (n := j + 1) (by omega) (by omega)]
          refine ih (m0 - 1) _ _ (by omega) ⟨1, j + 1, by omega, by omega, ?_, ?_⟩
          · rw [hsn]; rfl
          · rw [hsn]; rfl
        · obtain ⟨y, t, ht, hlen⟩ := take_cons (l := K) (i := i) (by omega) hpos
          simp only [ht, accE, stoE, hlen]
          have hb : (i + 1) * 56 ≤ 140737488355328 := by omega
          have hr := valOk.row_len (y :: t)
          rw [hlen] at hr
          simp +contextual (maxSteps := 10000000) only [↓reduceIte, go_sem, Nat.reduceEqDiff, Nat.reduceAdd, Nat.reduceSub, Nat.reduceMul, Nat.reduceLeDiff, Nat.reduceLT, Nat.reduceBEq, Nat.reduceDiv, Nat.reduceMod, Int.reduceLE, Int.reduceLT, Int.reduceEq, Int.reduceBEq, Int.reduceBNe, Int.reduceAdd, Int.reduceSub, Int.reduceNeg, Int.reduceToNat, Int.reduceMul, Int.reducePow, Nat.reducePow, reduceCtorEq, hlt', g1, text_c, hb, hr, show 0 ≤ j by omega, show j < l.length by omega, wrap_i64 (n := j + 1) (by omega) (by omega)]
          refine ih (m0 - 1) _ _ (by omega) ⟨i + 1, j + 1, by omega, by omega, ?_, ?_⟩
          · rw [hsn, ht]; simp only [List.cons_append, accE, List.length_cons, List.length_append, List.length_nil] at hlen ⊢; simp only [← hlen]
          · rw [hsn, ht]; show _ = [some (En.mk 0 (rowE Val.d ((y :: t) ++ [symV x])))]; rw [← rowE_snoc]; rfl
      · have hlt' : decide (j < l.length) = false := by simp <;> omega
        rw [List.take_of_length_le (by omega)]
        have hmany := many_c 24 K (by omega)
        obtain ⟨A, hA⟩ : ∃ A, A = Val.mk 24 0 ⟨#[]⟩ K :: (K ++ [v]) := ⟨_, rfl⟩
        have hr3 : (D.sc (.int .u8 24) :: .sc (.int .u64 0) :: .sc (.string ⟨#[]⟩) :: .ro false (K.map Val.d) :: (rowE Val.d K ++ [.sc (.int .u8 v.kind), .sc (.int .u64 v.num), .sc (.string v.text), .ro false (v.kids.map Val.d)])) = rowE Val.d A := by
          rw [hA, rowE_cons, rowV_snoc, Val.cells]; rfl
        have hAl : A.length = 1 + K.length + 1 := by rw [hA]; simp only [List.length_cons, List.length_append, List.length_nil]; omega
        have hAz : Val.szL A = 2 * Val.szL K + v.sz + 1 := by rw [hA]; simp only [Val.szL, szL_app, Val.sz]; show (0 + Val.szL K + 1) + _ = _; omega
        have rest : ∀ (A : List Val), A = Val.mk 24 0 ⟨#[]⟩ K :: (K ++ [v]) → True := fun _ _ => trivial
        have hput := fput_c 1 A (by omega)
        have hwA : Val.wfL A := by rw [hA]; exact ⟨⟨by decide, by rw [hK]; exact symV_wf l⟩, wfL_app (by rw [hK]; exact symV_wf l) ⟨hw, trivial⟩⟩
        have hwp := putS_wf 1 (by decide) hwA
        have hr := right_c (putS 1 A) (by have := putS_sz 1 A; omega) hwp
        by_cases hk : K = []
        · have hr2 : [D.sc (.int .u8 24), .sc (.int .u64 0), .sc (.string ⟨#[]⟩), .ro false [], .sc (.int .u8 v.kind), .sc (.int .u64 v.num), .sc (.string v.text), .ro false (v.kids.map Val.d)] = rowE Val.d A := by
            rw [← hr3, hk]; rfl
          have hA2 : A.length = 2 := by rw [hAl, hk]; rfl
          rw [hk]
          simp only [accE, stoE]
          cases hrr : rightS (putS 1 A)
          · rw [hrr] at hr
            simp +contextual (maxSteps := 10000000) only [↓reduceIte, go_sem, Nat.reduceEqDiff, Nat.reduceAdd, Nat.reduceSub, Nat.reduceMul, Nat.reduceLeDiff, Nat.reduceLT, Nat.reduceBEq, Nat.reduceDiv, Nat.reduceMod, Int.reduceLE, Int.reduceLT, Int.reduceEq, Int.reduceBEq, Int.reduceBNe, Int.reduceAdd, Int.reduceSub, Int.reduceNeg, Int.reduceToNat, Int.reduceMul, Int.reducePow, Nat.reducePow, reduceCtorEq, hlt', many_nil, hr2, hA2, hput, hr, works7]
          · rw [hrr] at hr
            have hTz : Val.szL (trimS A) ≤ 4000000 := by have := trimS_sz A; omega
            have hli := list_some 1 A (trimS A) (by omega) hwp (newS_putN hrr)
            have s0 := symbols_f (trimS A) hTz false 0
            have s1 := symbols_f (trimS A) hTz false 2
            have s2 := symbols_f (trimS A) hTz false (-1)
            rw [symS_trim, hA, hK, symS_0, ← hK, ← hA] at s0
            rw [symS_trim, symS_out (.inr (by omega))] at s1
            rw [symS_trim, symS_out (.inl (by decide))] at s2
            simp only [Bool.or_false, List.map_nil] at s0 s1 s2
            simp +contextual (maxSteps := 10000000) only [↓reduceIte, go_sem, Nat.reduceEqDiff, Nat.reduceAdd, Nat.reduceSub, Nat.reduceMul, Nat.reduceLeDiff, Nat.reduceLT, Nat.reduceBEq, Nat.reduceDiv, Nat.reduceMod, Int.reduceLE, Int.reduceLT, Int.reduceEq, Int.reduceBEq, Int.reduceBNe, Int.reduceAdd, Int.reduceSub, Int.reduceNeg, Int.reduceToNat, Int.reduceMul, Int.reducePow, Nat.reducePow, reduceCtorEq, hlt', many_nil, hr2, hA2, hput, hr, hli, s0, s1, s2, bne_self_eq_false, List.length_nil]
            refine lpK_inv (ScJ l A (trimS A) v) l.length ⟨0, 0, rfl, by omega, rfl, rfl⟩ ?_
            rintro m1 _ _ ⟨i, j, hj, hi, rfl, rfl⟩ ih
            rcases Nat.lt_or_ge i l.length with hlt | hge
            · obtain ⟨x, hx⟩ := get_lt hlt
              have hx2 : A[i + 1]? = some (symV x) := by
                rw [hA, List.getElem?_cons_succ, List.getElem?_append_left (by omega), hK, List.getElem?_map, hx]; rfl
              have hlt' : decide (j < l.length) = true := by simp <;> omega
              have g1 : l[j.toNat]? = some x := by rw [show j.toNat = i by omega]; exact hx
              have hs1 := symbols_f (trimS A) hTz false (1 + j)
              rw [symS_trim, symS_at hx2 (j := 1 + j) (by omega)] at hs1
              simp only [List.map_cons, List.map_nil, Bool.or_false] at hs1
              simp +contextual (maxSteps := 10000000) only [↓reduceIte, go_sem, Nat.reduceEqDiff, Nat.reduceAdd, Nat.reduceSub, Nat.reduceMul, Nat.reduceLeDiff, Nat.reduceLT, Nat.reduceBEq, Nat.reduceDiv, Nat.reduceMod, Int.reduceLE, Int.reduceLT, Int.reduceEq, Int.reduceBEq, Int.reduceBNe, Int.reduceAdd, Int.reduceSub, Int.reduceNeg, Int.reduceToNat, Int.reduceMul, Int.reducePow, Nat.reducePow, reduceCtorEq, hlt', g1, hs1, bne_self_eq_false, decide_true, eq_self, Bool.not_true, List.length_cons, List.length_nil, show 0 ≤ j by omega, show j < l.length by omega, wrap_i64 (n := 1 + j) (by omega) (by omega), wrap_i64 (n := j + 1) (by omega) (by omega)]
              exact ih (m1 - 1) _ _ (by omega) ⟨i + 1, j + 1, by omega, by omega, rfl, rfl⟩
            · have hlt' : decide (j < l.length) = false := by simp <;> omega
              have hTl := trimS_len A
              have hd1 := done_c (trimS A) false A.length
              rw [show decide ((A.length : Int) < (trimS A).length) = false by simp; omega] at hd1
              have hd2 := fun sp => done_c (trimS A) sp A.length
              rw [show decide ((A.length : Int) < (trimS A).length) = false by simp; omega] at hd2
              have hwr := wrap_i64 (n := (A.length : Int) - 1) (by omega) (by omega)
              have hlast : A[l.length + 1]? = some v := by
                rw [hA, List.getElem?_cons_succ, List.getElem?_append_right (by omega), hKl, Nat.sub_self]; rfl
              have hmv : v.kind ≠ 1 → mayS v = true := fun hv1 => by
                have hmp := right_may hrr
                rw [mayS_put, mayL_all, List.all_eq_true] at hmp
                exact hmp v (by rw [hA, show Val.mk 24 0 ⟨#[]⟩ K :: (K ++ [v]) = (Val.mk 24 0 ⟨#[]⟩ K :: K) ++ [v] from rfl, trim_last hv1]; simp)
              have hsl := symbols_f (trimS A) hTz false ((A.length : Int) - 1)
              have hq := symS_last hlast (j := (A.length : Int) - 1) (by omega) hmv
              rw [symS_trim, hq] at hsl
              simp only [Bool.false_or, Bool.or_false, Bool.false_eq_true, if_false] at hsl hd1 hd2
              generalize (symS A ((A.length : Int) - 1)).1 = ls at hsl
              have hd3 := hd2 (!fineS v)
              have x1 : (v.kind == 1) = true ∨ (v.kind == 1) = false := by cases v.kind == 1 <;> simp
              have x2 : (v.kind == 21) = true ∨ (v.kind == 21) = false := by cases v.kind == 21 <;> simp
              have x3 : (v.kind == 24) = true ∨ (v.kind == 24) = false := by cases v.kind == 24 <;> simp
              cases hvk : v.kids with
              | nil =>
                rcases x1 with x1 | x1 <;> rcases x2 with x2 | x2 <;> rcases x3 with x3 | x3 <;> simp only [fineS, hvk, x1, x2, x3, Bool.true_or, Bool.false_or, Bool.true_and, Bool.false_and, Bool.or_self, Bool.not_true, Bool.not_false, if_true, if_false, Bool.false_eq_true] at hsl hd3
                all_goals simp +contextual (maxSteps := 10000000) only [↓reduceIte, go_sem, Nat.reduceEqDiff, Nat.reduceAdd, Nat.reduceSub, Nat.reduceMul, Nat.reduceLeDiff, Nat.reduceLT, Nat.reduceBEq, Nat.reduceDiv, Nat.reduceMod, Int.reduceLE, Int.reduceLT, Int.reduceEq, Int.reduceBEq, Int.reduceBNe, Int.reduceAdd, Int.reduceSub, Int.reduceNeg, Int.reduceToNat, Int.reduceMul, Int.reducePow, Nat.reducePow, reduceCtorEq, hlt', hd1, hd3, hwr, hsl, hvk, x1, x2, x3, works7, List.length_nil, List.map_nil, beq_self_eq_true, Bool.and_self, bne_self_eq_false]
              | cons y r =>
                have hln : (((r.length : Int) + 1) == 0) = false := by simp; omega
                rcases x1 with x1 | x1 <;> rcases x2 with x2 | x2 <;> rcases x3 with x3 | x3 <;> cases x4 : y.kind == 21 <;> simp only [fineS, hvk, x1, x2, x3, x4, Bool.true_or, Bool.false_or, Bool.true_and, Bool.false_and, Bool.and_true, Bool.and_false, Bool.or_true, Bool.or_self, Bool.not_true, Bool.not_false, if_true, if_false, Bool.false_eq_true] at hsl hd3
                all_goals
                  simp +contextual (maxSteps := 10000000) only [↓reduceIte, go_sem, Nat.reduceEqDiff, Nat.reduceAdd, Nat.reduceSub, Nat.reduceMul, Nat.reduceLeDiff, Nat.reduceLT, Nat.reduceBEq, Nat.reduceDiv, Nat.reduceMod, Int.reduceLE, Int.reduceLT, Int.reduceEq, Int.reduceBEq, Int.reduceBNe, Int.reduceAdd, Int.reduceSub, Int.reduceNeg, Int.reduceToNat, Int.reduceMul, Int.reducePow, Nat.reducePow, reduceCtorEq, hlt', hd1, hd3, hwr, hsl, hvk, hln, x1, x2, x3, x4, works7, List.map_cons, beq_self_eq_true, Bool.and_self, bne_self_eq_false]
        · have e1 : accE 4 K = .ref 0 0 4 0 K.length := by cases K with | nil => exact absurd rfl hk | cons a b => rfl
          have e2 : stoE Val.d K = [some ⟨0, rowE Val.d K⟩] := by cases K with | nil => exact absurd rfl hk | cons a b => rfl
          have f1 : (K.map Val.d).flatMap D.cells = rowE Val.d K := rfl
          have f2 : K.length ≠ 0 := by intro h; exact hk (List.eq_nil_of_length_eq_zero h)
          have f3 : (1 + K.length) * 56 ≤ 140737488355328 := by omega
          have f4 : (1 + K.length + 1) * 56 ≤ 140737488355328 := by omega
          have f5 : K.length * 4 + 1 + 1 + 1 + 1 = (1 + K.length) * 4 := by omega
          rw [e1, e2]
          cases hrr : rightS (putS 1 A)
          · rw [hrr] at hr
            simp +contextual (maxSteps := 10000000) only [↓reduceIte, go_sem, Nat.reduceEqDiff, Nat.reduceAdd, Nat.reduceSub, Nat.reduceMul, Nat.reduceLeDiff, Nat.reduceLT, Nat.reduceBEq, Nat.reduceDiv, Nat.reduceMod, Int.reduceLE, Int.reduceLT, Int.reduceEq, Int.reduceBEq, Int.reduceBNe, Int.reduceAdd, Int.reduceSub, Int.reduceNeg, Int.reduceToNat, Int.reduceMul, Int.reducePow, Nat.reducePow, reduceCtorEq, hlt', hmany, f1, f2, f3, f4, f5, rowV_len, hr3, hAl, hput, hr, works7]
          · rw [hrr] at hr
            have hTz : Val.szL (trimS A) ≤ 4000000 := by have := trimS_sz A; omega
            have hli := list_some 1 A (trimS A) (by omega) hwp (newS_putN hrr)
            have s0 := symbols_f (trimS A) hTz false 0
            have s1 := symbols_f (trimS A) hTz false (1 + K.length + 1)
            have s2 := symbols_f (trimS A) hTz false (-1)
            rw [symS_trim, hA, hK, symS_0, ← hK, ← hA] at s0
            rw [symS_trim, symS_out (.inr (by omega))] at s1
            rw [symS_trim, symS_out (.inl (by decide))] at s2
            simp only [Bool.or_false, List.map_nil] at s0 s1 s2
            simp +contextual (maxSteps := 10000000) only [↓reduceIte, go_sem, Nat.reduceEqDiff, Nat.reduceAdd, Nat.reduceSub, Nat.reduceMul, Nat.reduceLeDiff, Nat.reduceLT, Nat.reduceBEq, Nat.reduceDiv, Nat.reduceMod, Int.reduceLE, Int.reduceLT, Int.reduceEq, Int.reduceBEq, Int.reduceBNe, Int.reduceAdd, Int.reduceSub, Int.reduceNeg, Int.reduceToNat, Int.reduceMul, Int.reducePow, Nat.reducePow, reduceCtorEq, hlt', hmany, f1, f2, f3, f4, f5, rowV_len, hr3, hAl, hput, hr, hli, s0, s1, s2, bne_self_eq_false, List.length_nil]
            refine lpK_inv (ScJ l A (trimS A) v) l.length ⟨0, 0, rfl, by omega, rfl, rfl⟩ ?_
            rintro m1 _ _ ⟨i, j, hj, hi, rfl, rfl⟩ ih
            rcases Nat.lt_or_ge i l.length with hlt | hge
            · obtain ⟨x, hx⟩ := get_lt hlt
              have hx2 : A[i + 1]? = some (symV x) := by
                rw [hA, List.getElem?_cons_succ, List.getElem?_append_left (by omega), hK, List.getElem?_map, hx]; rfl
              have hlt' : decide (j < l.length) = true := by simp <;> omega
              have g1 : l[j.toNat]? = some x := by rw [show j.toNat = i by omega]; exact hx
              have hs1 := symbols_f (trimS A) hTz false (1 + j)
              rw [symS_trim, symS_at hx2 (j := 1 + j) (by omega)] at hs1
              simp only [List.map_cons, List.map_nil, Bool.or_false] at hs1
              simp +contextual (maxSteps := 10000000) only [↓reduceIte, go_sem, Nat.reduceEqDiff, Nat.reduceAdd, Nat.reduceSub, Nat.reduceMul, Nat.reduceLeDiff, Nat.reduceLT, Nat.reduceBEq, Nat.reduceDiv, Nat.reduceMod, Int.reduceLE, Int.reduceLT, Int.reduceEq, Int.reduceBEq, Int.reduceBNe, Int.reduceAdd, Int.reduceSub, Int.reduceNeg, Int.reduceToNat, Int.reduceMul, Int.reducePow, Nat.reducePow, reduceCtorEq, hlt', g1, hs1, bne_self_eq_false, decide_true, eq_self, Bool.not_true, List.length_cons, List.length_nil, show 0 ≤ j by omega, show j < l.length by omega, wrap_i64 (n := 1 + j) (by omega) (by omega), wrap_i64 (n := j + 1) (by omega) (by omega)]
              exact ih (m1 - 1) _ _ (by omega) ⟨i + 1, j + 1, by omega, by omega, rfl, rfl⟩
            · have hlt' : decide (j < l.length) = false := by simp <;> omega
              have hTl := trimS_len A
              have hd1 := done_c (trimS A) false A.length
              rw [show decide ((A.length : Int) < (trimS A).length) = false by simp; omega] at hd1
              have hd2 := fun sp => done_c (trimS A) sp A.length
              rw [show decide ((A.length : Int) < (trimS A).length) = false by simp; omega] at hd2
              have hwr := wrap_i64 (n := (A.length : Int) - 1) (by omega) (by omega)
              have hlast : A[l.length + 1]? = some v := by
                rw [hA, List.getElem?_cons_succ, List.getElem?_append_right (by omega), hKl, Nat.sub_self]; rfl
              have hmv : v.kind ≠ 1 → mayS v = true := fun hv1 => by
                have hmp := right_may hrr
                rw [mayS_put, mayL_all, List.all_eq_true] at hmp
                exact hmp v (by rw [hA, show Val.mk 24 0 ⟨#[]⟩ K :: (K ++ [v]) = (Val.mk 24 0 ⟨#[]⟩ K :: K) ++ [v] from rfl, trim_last hv1]; simp)
              have hsl := symbols_f (trimS A) hTz false ((A.length : Int) - 1)
              have hq := symS_last hlast (j := (A.length : Int) - 1) (by omega) hmv
              rw [symS_trim, hq] at hsl
              simp only [Bool.false_or, Bool.or_false, Bool.false_eq_true, if_false] at hsl hd1 hd2
              generalize (symS A ((A.length : Int) - 1)).1 = ls at hsl
              have hd3 := hd2 (!fineS v)
              have x1 : (v.kind == 1) = true ∨ (v.kind == 1) = false := by cases v.kind == 1 <;> simp
              have x2 : (v.kind == 21) = true ∨ (v.kind == 21) = false := by cases v.kind == 21 <;> simp
              have x3 : (v.kind == 24) = true ∨ (v.kind == 24) = false := by cases v.kind == 24 <;> simp
              cases hvk : v.kids with
              | nil =>
                rcases x1 with x1 | x1 <;> rcases x2 with x2 | x2 <;> rcases x3 with x3 | x3 <;> simp only [fineS, hvk, x1, x2, x3, Bool.true_or, Bool.false_or, Bool.true_and, Bool.false_and, Bool.or_self, Bool.not_true, Bool.not_false, if_true, if_false, Bool.false_eq_true] at hsl hd3
                all_goals simp +contextual (maxSteps := 10000000) only [↓reduceIte, go_sem, Nat.reduceEqDiff, Nat.reduceAdd, Nat.reduceSub, Nat.reduceMul, Nat.reduceLeDiff, Nat.reduceLT, Nat.reduceBEq, Nat.reduceDiv, Nat.reduceMod, Int.reduceLE, Int.reduceLT, Int.reduceEq, Int.reduceBEq, Int.reduceBNe, Int.reduceAdd, Int.reduceSub, Int.reduceNeg, Int.reduceToNat, Int.reduceMul, Int.reducePow, Nat.reducePow, reduceCtorEq, hlt', hd1, hd3, hwr, hsl, hvk, x1, x2, x3, works7, List.length_nil, List.map_nil, beq_self_eq_true, Bool.and_self, bne_self_eq_false]
              | cons y r =>
                have hln : (((r.length : Int) + 1) == 0) = false := by simp; omega
                rcases x1 with x1 | x1 <;> rcases x2 with x2 | x2 <;> rcases x3 with x3 | x3 <;> cases x4 : y.kind == 21 <;> simp only [fineS, hvk, x1, x2, x3, x4, Bool.true_or, Bool.false_or, Bool.true_and, Bool.false_and, Bool.and_true, Bool.and_false, Bool.or_true, Bool.or_self, Bool.not_true, Bool.not_false, if_true, if_false, Bool.false_eq_true] at hsl hd3
                all_goals
                  simp +contextual (maxSteps := 10000000) only [↓reduceIte, go_sem, Nat.reduceEqDiff, Nat.reduceAdd, Nat.reduceSub, Nat.reduceMul, Nat.reduceLeDiff, Nat.reduceLT, Nat.reduceBEq, Nat.reduceDiv, Nat.reduceMod, Int.reduceLE, Int.reduceLT, Int.reduceEq, Int.reduceBEq, Int.reduceBNe, Int.reduceAdd, Int.reduceSub, Int.reduceNeg, Int.reduceToNat, Int.reduceMul, Int.reducePow, Nat.reducePow, reduceCtorEq, hlt', hd1, hd3, hwr, hsl, hvk, hln, x1, x2, x3, x4, works7, List.map_cons, beq_self_eq_true, Bool.and_self, bne_self_eq_false]
    · rw [hb] at hlg
      simp +contextual (maxSteps := 10000000) only [↓reduceIte, go_sem, Nat.reduceEqDiff, Nat.reduceAdd, Nat.reduceSub, Nat.reduceMul, Nat.reduceLeDiff, Nat.reduceLT, Nat.reduceBEq, Nat.reduceDiv, Nat.reduceMod, Int.reduceLE, Int.reduceLT, Int.reduceEq, Int.reduceBEq, Int.reduceBNe, Int.reduceAdd, Int.reduceSub, Int.reduceNeg, Int.reduceToNat, Int.reduceMul, Int.reducePow, Nat.reducePow, reduceCtorEq, hm, hlg, works7]
  · simp +contextual (maxSteps := 10000000) only [↓reduceIte, go_sem, Nat.reduceEqDiff, Nat.reduceAdd, Nat.reduceSub, Nat.reduceMul, Nat.reduceLeDiff, Nat.reduceLT, Nat.reduceBEq, Nat.reduceDiv, Nat.reduceMod, Int.reduceLE, Int.reduceLT, Int.reduceEq, Int.reduceBEq, Int.reduceBNe, Int.reduceAdd, Int.reduceSub, Int.reduceNeg, Int.reduceToNat, Int.reduceMul, Int.reducePow, Nat.reducePow, reduceCtorEq, hm, works7]
end Go.Bw.R1
