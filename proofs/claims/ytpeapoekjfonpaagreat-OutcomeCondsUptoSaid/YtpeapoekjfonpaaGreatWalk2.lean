/- What the functions answer. -/
import Derived.Test.YtpeapoekjfonpaaGreatWalk1
set_option linter.unusedSimpArgs false
set_option linter.unusedVariables false
namespace Go.Bw.R1
set_option maxRecDepth 5000
open Go Go.Bw Go.Proofs
theorem called_c (v : Val) : EV 87 [v.d] [] = some (.ret (B (v.kind == 6 || v.kind == 21)), []) := by
  refine (ev_body ⟨[1], [], [], false, [], noIt⟩ [.tmp 2] rfl Tryz.func87 rfl rfl rfl (by kernel_rfl) (by show 1 ≤ 11; decide)).trans ?_
  cases h : (v.kind == 6)
  · simp +contextual (maxSteps := 10000000) only [↓reduceIte, go_sem, Nat.reduceEqDiff, Nat.reduceAdd, Nat.reduceSub, Nat.reduceMul, Nat.reduceLeDiff, Nat.reduceLT, Nat.reduceBEq, Nat.reduceDiv, Nat.reduceMod, Int.reduceLE, Int.reduceLT, Int.reduceEq, Int.reduceBEq, Int.reduceBNe, Int.reduceAdd, Int.reduceSub, Int.reduceNeg, Int.reduceToNat, Int.reduceMul, Int.reducePow, Nat.reducePow, reduceCtorEq, h, Bool.false_or]
  · simp +contextual (maxSteps := 10000000) only [↓reduceIte, go_sem, Nat.reduceEqDiff, Nat.reduceAdd, Nat.reduceSub, Nat.reduceMul, Nat.reduceLeDiff, Nat.reduceLT, Nat.reduceBEq, Nat.reduceDiv, Nat.reduceMod, Int.reduceLE, Int.reduceLT, Int.reduceEq, Int.reduceBEq, Int.reduceBNe, Int.reduceAdd, Int.reduceSub, Int.reduceNeg, Int.reduceToNat, Int.reduceMul, Int.reducePow, Nat.reducePow, reduceCtorEq, h, Bool.true_or]
mutual
theorem same_comm : ∀ a b : Val, same a b = same b a
  | .mk k n t l, .mk k' n' t' l' => by
    rw [same, same, sameL_comm l l', Bool.beq_comm (a := k), Bool.beq_comm (a := n), show decide (t = t') = decide (t' = t) from decide_eq_decide.2 eq_comm]
theorem sameL_comm : ∀ a b : List Val, sameL a b = sameL b a
  | [], [] => rfl
  | [], _ :: _ => rfl
  | _ :: _, [] => rfl
  | a :: l, b :: m => by rw [sameL, sameL, same_comm a b, sameL_comm l m]
end
mutual
theorem same_refl : ∀ a : Val, same a a = true
  | .mk k n t l => by rw [same, sameL_refl l]; simp
theorem sameL_refl : ∀ a : List Val, sameL a a = true
  | [] => rfl
  | a :: l => by rw [sameL, same_refl a, sameL_refl l]; rfl
end
theorem alikeF_refl : ∀ (n : Nat) (a : Val), a.sz ≤ n → mayS a = true → alikeF n a a = true
  | 0, .mk .., h, _ => by simp [Val.sz] at h
  | n + 1, a, hn, hm => by
    by_cases hk : a.kind = 25
    · obtain ⟨x, y, hx, _, my⟩ := may_desc hm hk
      rw [Val.sz_eq, hx] at hn
      simp only [Val.szL] at hn
      simp only [alikeF, hk, bne_self_eq_false, Bool.or_self, Bool.false_eq_true, if_false, hx, same_refl, alikeF_refl n y (by omega) my, Bool.and_self]
    · have e : (a.kind != 25) = true := by simpa using hk
      simp only [alikeF, e, Bool.true_or, if_true, beq_self_eq_true]
theorem alike_refl {a : Val} (h : mayS a = true) : alike a a = true := alikeF_refl _ a (Nat.le_refl _) h
theorem mayL_drop {l : List Val} {i : Nat} {x : Val} (h : l[i]? = some x) : mayL (l.drop i) = (mayS x && mayL (l.drop (i + 1))) := by
  obtain ⟨hl, rfl⟩ := List.getElem?_eq_some_iff.1 h
  rw [List.drop_eq_getElem_cons hl, mayL]
theorem mayL_at {l : List Val} (h : mayL l = true) {i : Nat} {x : Val} (hx : l[i]? = some x) : mayS x = true := by
  rw [mayL_all, List.all_eq_true] at h
  exact h x (List.mem_of_getElem? hx)
theorem mod21 (n : Nat) : (((n : Int).tmod 2) == 1) = (n % 2 == 1) := by
  rw [Int.tmod_eq_emod_of_nonneg (by omega), Bool.eq_iff_iff]
  simp only [beq_iff_eq]
  omega
theorem keyL_at : ∀ (l : List Val) (a : Nat), 2 * a + 1 < l.length → (keyL l)[a]? = l[2 * a]?
  | x :: y :: r, 0, _ => rfl
  | x :: y :: r, a + 1, h => by
    have := keyL_at r a (by simp only [List.length_cons] at h; omega)
    rw [keyL, List.getElem?_cons_succ, this, show 2 * (a + 1) = 2 * a + 1 + 1 by omega, List.getElem?_cons_succ, List.getElem?_cons_succ]
  | [], a, h => by simp at h
  | [_], a, h => by simp at h
theorem keyL_len : ∀ l : List Val, 2 * (keyL l).length ≤ l.length ∧ l.length ≤ 2 * (keyL l).length + 1
  | [] => by simp [keyL]
  | [_] => by simp [keyL]
  | _ :: _ :: r => by have := keyL_len r; simp only [keyL, List.length_cons]; omega
theorem noSame_step {ks : List Val} {a : Nat} {x : Val} (h : ks[a]? = some x) : noSame (ks.take a) (ks.drop a) = if ((ks.take a).any fun s => same s x) = true then false else noSame (ks.take (a + 1)) (ks.drop (a + 1)) := by
  obtain ⟨hl, rfl⟩ := List.getElem?_eq_some_iff.1 h
  rw [List.drop_eq_getElem_cons hl, noSame, List.take_succ_eq_append_getElem hl]
theorem any_step {ks : List Val} {a b : Nat} {x y : Val} (hb : b < a) (h : ks[b]? = some y) : (((ks.take a).drop b).any fun s => same s x) = (same y x || ((ks.take a).drop (b + 1)).any fun s => same s x) := by
  obtain ⟨hl, rfl⟩ := List.getElem?_eq_some_iff.1 h
  have hl2 : b < (ks.take a).length := by rw [List.length_take]; omega
  rw [List.drop_eq_getElem_cons hl2, List.any_cons, List.getElem_take]
def arS : List Val → Val → Bool
  | [], _ => true
  | y :: _, x => alike y x
theorem fam24_eq (l : List Val) : famS 24 l = l.all (arS l) := by
  cases l <;> rfl
theorem all_drop {p : Val → Bool} {l : List Val} {i : Nat} {x : Val} (h : l[i]? = some x) : (l.drop i).all p = (p x && (l.drop (i + 1)).all p) := by
  obtain ⟨hl, rfl⟩ := List.getElem?_eq_some_iff.1 h
  rw [List.drop_eq_getElem_cons hl, List.all_cons]
def ntS (v : Val) : Bool := (v.num == 0) && decide (v.text = ⟨#[]⟩)
def rfS (v : Val) : Bool :=
  if v.kind = 22 ∨ v.kind = 23 ∨ v.kind = 24 ∨ v.kind = 25 then famS v.kind v.kids && ntS v else v.kids.isEmpty && plainS v.kind v.num v.text
set_option maxHeartbeats 2000000 in
theorem rmay22 (v : Val) (hs : v.sz ≤ 4000000) (hc : ∀ x ∈ v.kids, EV 72 [x.d] [] = some (.ret (B (mayS x)), [])) (hk : v.kind = 22) : EV 72 [v.d] [] = some (.ret (B (mayL v.kids && rfS v)), []) := by
  have hl := szL_len v.kids
  have hz := Val.sz_eq v
  refine (ev_body ⟨[1], [(0, [1, 3]), (3, [1, 4, 5]), (5, [1, 4, 5, 6]), (7, [1, 4, 7])], [(19, [(0, 0, false), (1, 0, false), (2, 0, false), (3, 0, false), (4, 0, false), (5, 0, false), (6, 0, false), (7, 0, false), (8, 0, false), (9, 0, false), (10, 0, false)]), (25, [(0, 0, false), (1, 0, false), (2, 0, false), (3, 0, false), (4, 0, false), (5, 0, false), (6, 0, false), (7, 0, false), (8, 0, false), (9, 0, false), (10, 0, false)])], false, [], noIt⟩ [.tmp 2] rfl Tryz.func72 rfl rfl rfl (by kernel_rfl) (by show 1 ≤ 95; decide)).trans ?_
  simp +contextual (maxSteps := 10000000) only [↓reduceIte, go_sem, Nat.reduceEqDiff, Nat.reduceAdd, Nat.reduceSub, Nat.reduceMul, Nat.reduceLeDiff, Nat.reduceLT, Nat.reduceBEq, Nat.reduceDiv, Nat.reduceMod, Int.reduceLE, Int.reduceLT, Int.reduceEq, Int.reduceBEq, Int.reduceBNe, Int.reduceAdd, Int.reduceSub, Int.reduceNeg, Int.reduceToNat, Int.reduceMul, Int.reducePow, Nat.reducePow, reduceCtorEq]
  refine lpK_inv (fun m0 f es => ∃ (i : Nat) (j : Int), j = i ∧ i + m0 = v.kids.length ∧ mayL v.kids = mayL (v.kids.drop i) ∧ f = [(1, .rp v.cs), (3, I j)] ∧ es = []) v.kids.length ⟨0, _, rfl, by omega, rfl, rfl, rfl⟩ ?_
  rintro m0 _ _ ⟨i, _, rfl, hi, hm, rfl, rfl⟩ ih
  rcases Nat.lt_or_ge i v.kids.length with hlt | hge
  · obtain ⟨x, hx⟩ := get_lt hlt
    have hlt' : decide ((i : Int) < v.kids.length) = true := by simpa using hlt
    have hcx := hc x (List.mem_of_getElem? hx)
    simp +contextual (maxSteps := 10000000) only [↓reduceIte, go_sem, Nat.reduceEqDiff, Nat.reduceAdd, Nat.reduceSub, Nat.reduceMul, Nat.reduceLeDiff, Nat.reduceLT, Nat.reduceBEq, Nat.reduceDiv, Nat.reduceMod, Int.reduceLE, Int.reduceLT, Int.reduceEq, Int.reduceBEq, Int.reduceBNe, Int.reduceAdd, Int.reduceSub, Int.reduceNeg, Int.reduceToNat, Int.reduceMul, Int.reducePow, Nat.reducePow, reduceCtorEq, hx, hcx, hlt', wrap_i64 (n := (i : Int) + 1) (by omega) (by omega)]
    refine ite_intro (fun h => ?_) (fun h => ?_)
    · rw [hm, mayL_drop hx]; simp at h; simp [h]
    · exact ih (m0 - 1) _ _ (by omega) ⟨i + 1, _, by omega, by omega, by rw [hm, mayL_drop hx]; simp at h; simp [h], rfl, rfl⟩
  · have hlt' : decide ((i : Int) < v.kids.length) = false := by simpa using hge
    clear ih
    rw [List.drop_eq_nil_of_le hge] at hm
    rw [hm, mayL, Bool.true_and]
    simp +contextual (maxSteps := 10000000) only [↓reduceIte, go_sem, Nat.reduceEqDiff, Nat.reduceAdd, Nat.reduceSub, Nat.reduceMul, Nat.reduceLeDiff, Nat.reduceLT, Nat.reduceBEq, Nat.reduceDiv, Nat.reduceMod, Int.reduceLE, Int.reduceLT, Int.reduceEq, Int.reduceBEq, Int.reduceBNe, Int.reduceAdd, Int.reduceSub, Int.reduceNeg, Int.reduceToNat, Int.reduceMul, Int.reducePow, Nat.reducePow, reduceCtorEq, hlt', hk, rfS, famS]
    rfl
set_option maxHeartbeats 2000000 in
theorem rmay23 (v : Val) (hs : v.sz ≤ 4000000) (hc : ∀ x ∈ v.kids, EV 72 [x.d] [] = some (.ret (B (mayS x)), [])) (hk : v.kind = 23) : EV 72 [v.d] [] = some (.ret (B (mayL v.kids && rfS v)), []) := by
  have hl := szL_len v.kids
  have hz := Val.sz_eq v
  refine (ev_body ⟨[1], [(0, [1, 3]), (3, [1, 4, 5]), (5, [1, 4, 5, 6]), (7, [1, 4, 7])], [(19, [(0, 0, false), (1, 0, false), (2, 0, false), (3, 0, false), (4, 0, false), (5, 0, false), (6, 0, false), (7, 0, false), (8, 0, false), (9, 0, false), (10, 0, false)]), (25, [(0, 0, false), (1, 0, false), (2, 0, false), (3, 0, false), (4, 0, false), (5, 0, false), (6, 0, false), (7, 0, false), (8, 0, false), (9, 0, false), (10, 0, false)])], false, [], noIt⟩ [.tmp 2] rfl Tryz.func72 rfl rfl rfl (by kernel_rfl) (by show 1 ≤ 95; decide)).trans ?_
  simp +contextual (maxSteps := 10000000) only [↓reduceIte, go_sem, Nat.reduceEqDiff, Nat.reduceAdd, Nat.reduceSub, Nat.reduceMul, Nat.reduceLeDiff, Nat.reduceLT, Nat.reduceBEq, Nat.reduceDiv, Nat.reduceMod, Int.reduceLE, Int.reduceLT, Int.reduceEq, Int.reduceBEq, Int.reduceBNe, Int.reduceAdd, Int.reduceSub, Int.reduceNeg, Int.reduceToNat, Int.reduceMul, Int.reducePow, Nat.reducePow, reduceCtorEq]
  refine lpK_inv (fun m0 f es => ∃ (i : Nat) (j : Int), j = i ∧ i + m0 = v.kids.length ∧ mayL v.kids = mayL (v.kids.drop i) ∧ f = [(1, .rp v.cs), (3, I j)] ∧ es = []) v.kids.length ⟨0, _, rfl, by omega, rfl, rfl, rfl⟩ ?_
  rintro m0 _ _ ⟨i, _, rfl, hi, hm, rfl, rfl⟩ ih
  rcases Nat.lt_or_ge i v.kids.length with hlt | hge
  · obtain ⟨x, hx⟩ := get_lt hlt
    have hlt' : decide ((i : Int) < v.kids.length) = true := by simpa using hlt
    have hcx := hc x (List.mem_of_getElem? hx)
    simp +contextual (maxSteps := 10000000) only [↓reduceIte, go_sem, Nat.reduceEqDiff, Nat.reduceAdd, Nat.reduceSub, Nat.reduceMul, Nat.reduceLeDiff, Nat.reduceLT, Nat.reduceBEq, Nat.reduceDiv, Nat.reduceMod, Int.reduceLE, Int.reduceLT, Int.reduceEq, Int.reduceBEq, Int.reduceBNe, Int.reduceAdd, Int.reduceSub, Int.reduceNeg, Int.reduceToNat, Int.reduceMul, Int.reducePow, Nat.reducePow, reduceCtorEq, hx, hcx, hlt', wrap_i64 (n := (i : Int) + 1) (by omega) (by omega)]
    refine ite_intro (fun h => ?_) (fun h => ?_)
    · rw [hm, mayL_drop hx]; simp at h; simp [h]
    · exact ih (m0 - 1) _ _ (by omega) ⟨i + 1, _, by omega, by omega, by rw [hm, mayL_drop hx]; simp at h; simp [h], rfl, rfl⟩
  · have hlt' : decide ((i : Int) < v.kids.length) = false := by simpa using hge
    clear ih
    rw [List.drop_eq_nil_of_le hge] at hm
    rw [hm, mayL, Bool.true_and]
    have hk0 : rfS v = (famS 23 v.kids && ntS v) := by rw [rfS, if_pos (by simp [hk]), hk]
    rw [hk0]
    simp +contextual (maxSteps := 10000000) only [↓reduceIte, go_sem, Nat.reduceEqDiff, Nat.reduceAdd, Nat.reduceSub, Nat.reduceMul, Nat.reduceLeDiff, Nat.reduceLT, Nat.reduceBEq, Nat.reduceDiv, Nat.reduceMod, Int.reduceLE, Int.reduceLT, Int.reduceEq, Int.reduceBEq, Int.reduceBNe, Int.reduceAdd, Int.reduceSub, Int.reduceNeg, Int.reduceToNat, Int.reduceMul, Int.reducePow, Nat.reducePow, reduceCtorEq, hlt', hk, mod21]
    refine ite_intro (fun h => ?_) (fun h => ?_)
    · have : (v.kids.length % 2 == 0) = false := by simp at h ⊢ <;> omega
      simp only [famS, this]; rfl
    · have h2 : v.kids.length % 2 = 0 := by simp at h <;> omega
      have hf : famS 23 v.kids = noSame [] (keyL v.kids) := by simp only [famS, h2]; rfl
      rw [hf]
      obtain ⟨q1, q2⟩ := keyL_len v.kids
      refine lpK_inv (fun m0 f es => ∃ (a : Nat) (j : Int), j = 2 * a ∧ 2 * a + m0 = v.kids.length ∧ noSame [] (keyL v.kids) = noSame ((keyL v.kids).take a) ((keyL v.kids).drop a) ∧ f = [(1, .rp v.cs), (4, I v.kids.length), (5, I j)] ∧ es = []) v.kids.length ⟨0, _, rfl, by omega, rfl, rfl, rfl⟩ ?_
      rintro m1 _ _ ⟨a, j, hj, ha, hn, rfl, rfl⟩ ih
      rcases Nat.lt_or_ge (2 * a) v.kids.length with hlt | hge
      · obtain ⟨x, hx⟩ := get_lt hlt
        have hx2 := hx
        rw [← keyL_at _ _ (by omega)] at hx2
        have hlt2 : decide (j < v.kids.length) = true := by simp <;> omega
        simp +contextual (maxSteps := 10000000) only [↓reduceIte, go_sem, Nat.reduceEqDiff, Nat.reduceAdd, Nat.reduceSub, Nat.reduceMul, Nat.reduceLeDiff, Nat.reduceLT, Nat.reduceBEq, Nat.reduceDiv, Nat.reduceMod, Int.reduceLE, Int.reduceLT, Int.reduceEq, Int.reduceBEq, Int.reduceBNe, Int.reduceAdd, Int.reduceSub, Int.reduceNeg, Int.reduceToNat, Int.reduceMul, Int.reducePow, Nat.reducePow, reduceCtorEq, hlt2]
        refine lpK_inv (fun m2 f es => ∃ (b : Nat) (k : Int), k = 2 * b ∧ b + m2 = a ∧ (((keyL v.kids).take a).any fun s => same s x) = ((((keyL v.kids).take a).drop b).any fun s => same s x) ∧ f = [(1, .rp v.cs), (4, I v.kids.length), (5, I j), (6, I k)] ∧ es = []) a ⟨0, _, rfl, by omega, rfl, rfl, rfl⟩ ?_
        rintro m2 _ _ ⟨b, k, hk2, hb, hn2, rfl, rfl⟩ ih2
        rcases Nat.lt_or_ge b a with hba | hba
        · obtain ⟨y, hy⟩ := get_lt (show 2 * b < v.kids.length by omega)
          have hy2 := hy
          rw [← keyL_at _ _ (by omega)] at hy2
          have hlt3 : decide (k < j) = true := by simp <;> omega
          have h32 := same32 _ x y (Nat.le_refl _) (by have := szL_in (List.mem_of_getElem? hx); omega)
          have g1 : v.kids[j.toNat]? = some x := by rw [show j.toNat = 2 * a by omega]; exact hx
          have g2 : v.kids[k.toNat]? = some y := by rw [show k.toNat = 2 * b by omega]; exact hy
          simp +contextual (maxSteps := 10000000) only [↓reduceIte, go_sem, Nat.reduceEqDiff, Nat.reduceAdd, Nat.reduceSub, Nat.reduceMul, Nat.reduceLeDiff, Nat.reduceLT, Nat.reduceBEq, Nat.reduceDiv, Nat.reduceMod, Int.reduceLE, Int.reduceLT, Int.reduceEq, Int.reduceBEq, Int.reduceBNe, Int.reduceAdd, Int.reduceSub, Int.reduceNeg, Int.reduceToNat, Int.reduceMul, Int.reducePow, Nat.reducePow, reduceCtorEq, hlt3, g1, g2, h32, show 0 ≤ j by omega, show j < v.kids.length by omega, show 0 ≤ k by omega, show k < v.kids.length by omega, wrap_i64 (n := k + 2) (by omega) (by omega)]
          refine ite_intro (fun h => ?_) (fun h => ?_)
          · rw [hn, noSame_step hx2, hn2, any_step hba hy2, same_comm y x, h]; rfl
          · have e : same y x = false := by rw [same_comm]; simpa using h
            exact ih2 (m2 - 1) _ _ (by omega) ⟨b + 1, _, by omega, by omega, by rw [hn2, any_step hba hy2, e, Bool.false_or], rfl, rfl⟩
        · have hlt3 : decide (k < j) = false := by simp <;> omega
          clear ih2
          simp +contextual (maxSteps := 10000000) only [↓reduceIte, go_sem, Nat.reduceEqDiff, Nat.reduceAdd, Nat.reduceSub, Nat.reduceMul, Nat.reduceLeDiff, Nat.reduceLT, Nat.reduceBEq, Nat.reduceDiv, Nat.reduceMod, Int.reduceLE, Int.reduceLT, Int.reduceEq, Int.reduceBEq, Int.reduceBNe, Int.reduceAdd, Int.reduceSub, Int.reduceNeg, Int.reduceToNat, Int.reduceMul, Int.reducePow, Nat.reducePow, reduceCtorEq, hlt3, wrap_i64 (n := j + 2) (by omega) (by omega)]
          have e : (((keyL v.kids).take a).any fun s => same s x) = false := by
            rw [hn2, List.drop_eq_nil_of_le (by rw [List.length_take]; omega)]; rfl
          exact ih (m1 - 2) _ _ (by omega) ⟨a + 1, _, by omega, by omega, by rw [hn, noSame_step hx2, e]; rfl, rfl, rfl⟩
      · have hlt2 : decide (j < v.kids.length) = false := by simp <;> omega
        simp +contextual (maxSteps := 10000000) only [↓reduceIte, go_sem, Nat.reduceEqDiff, Nat.reduceAdd, Nat.reduceSub, Nat.reduceMul, Nat.reduceLeDiff, Nat.reduceLT, Nat.reduceBEq, Nat.reduceDiv, Nat.reduceMod, Int.reduceLE, Int.reduceLT, Int.reduceEq, Int.reduceBEq, Int.reduceBNe, Int.reduceAdd, Int.reduceSub, Int.reduceNeg, Int.reduceToNat, Int.reduceMul, Int.reducePow, Nat.reducePow, reduceCtorEq, hlt2]
        rw [hn, List.drop_eq_nil_of_le (by omega)]
        simp only [noSame, Bool.true_and]
        rfl
set_option maxHeartbeats 2000000 in
theorem rmay24 (v : Val) (hs : v.sz ≤ 4000000) (hc : ∀ x ∈ v.kids, EV 72 [x.d] [] = some (.ret (B (mayS x)), [])) (hk : v.kind = 24) : EV 72 [v.d] [] = some (.ret (B (mayL v.kids && rfS v)), []) := by
  have hl := szL_len v.kids
  have hz := Val.sz_eq v
  refine (ev_body ⟨[1], [(0, [1, 3]), (3, [1, 4, 5]), (5, [1, 4, 5, 6]), (7, [1, 4, 7])], [(19, [(0, 0, false), (1, 0, false), (2, 0, false), (3, 0, false), (4, 0, false), (5, 0, false), (6, 0, false), (7, 0, false), (8, 0, false), (9, 0, false), (10, 0, false)]), (25, [(0, 0, false), (1, 0, false), (2, 0, false), (3, 0, false), (4, 0, false), (5, 0, false), (6, 0, false), (7, 0, false), (8, 0, false), (9, 0, false), (10, 0, false)])], false, [], noIt⟩ [.tmp 2] rfl Tryz.func72 rfl rfl rfl (by kernel_rfl) (by show 1 ≤ 95; decide)).trans ?_
  simp +contextual (maxSteps := 10000000) only [↓reduceIte, go_sem, Nat.reduceEqDiff, Nat.reduceAdd, Nat.reduceSub, Nat.reduceMul, Nat.reduceLeDiff, Nat.reduceLT, Nat.reduceBEq, Nat.reduceDiv, Nat.reduceMod, Int.reduceLE, Int.reduceLT, Int.reduceEq, Int.reduceBEq, Int.reduceBNe, Int.reduceAdd, Int.reduceSub, Int.reduceNeg, Int.reduceToNat, Int.reduceMul, Int.reducePow, Nat.reducePow, reduceCtorEq]
  refine lpK_inv (fun m0 f es => ∃ (i : Nat) (j : Int), j = i ∧ i + m0 = v.kids.length ∧ mayL v.kids = mayL (v.kids.drop i) ∧ f = [(1, .rp v.cs), (3, I j)] ∧ es = []) v.kids.length ⟨0, _, rfl, by omega, rfl, rfl, rfl⟩ ?_
  rintro m0 _ _ ⟨i, _, rfl, hi, hm, rfl, rfl⟩ ih
  rcases Nat.lt_or_ge i v.kids.length with hlt | hge
  · obtain ⟨x, hx⟩ := get_lt hlt
    have hlt' : decide ((i : Int) < v.kids.length) = true := by simpa using hlt
    have hcx := hc x (List.mem_of_getElem? hx)
    simp +contextual (maxSteps := 10000000) only [↓reduceIte, go_sem, Nat.reduceEqDiff, Nat.reduceAdd, Nat.reduceSub, Nat.reduceMul, Nat.reduceLeDiff, Nat.reduceLT, Nat.reduceBEq, Nat.reduceDiv, Nat.reduceMod, Int.reduceLE, Int.reduceLT, Int.reduceEq, Int.reduceBEq, Int.reduceBNe, Int.reduceAdd, Int.reduceSub, Int.reduceNeg, Int.reduceToNat, Int.reduceMul, Int.reducePow, Nat.reducePow, reduceCtorEq, hx, hcx, hlt', wrap_i64 (n := (i : Int) + 1) (by omega) (by omega)]
    refine ite_intro (fun h => ?_) (fun h => ?_)
    · rw [hm, mayL_drop hx]; simp at h; simp [h]
    · exact ih (m0 - 1) _ _ (by omega) ⟨i + 1, _, by omega, by omega, by rw [hm, mayL_drop hx]; simp at h; simp [h], rfl, rfl⟩
  · have hlt' : decide ((i : Int) < v.kids.length) = false := by simpa using hge
    clear ih
    rw [List.drop_eq_nil_of_le hge] at hm
    rw [hm, mayL, Bool.true_and]
    have hk0 : rfS v = (famS 24 v.kids && ntS v) := by rw [rfS, if_pos (by simp [hk]), hk]
    rw [hk0, fam24_eq]
    have hall : v.kids.all (arS v.kids) = (v.kids.drop 1).all (arS v.kids) := by
      cases h0 : v.kids with
      | nil => rfl
      | cons y r =>
        rw [h0] at hm
        have : mayS y = true := mayL_at hm (i := 0) rfl
        rw [List.all_cons, show arS (y :: r) y = alike y y from rfl, alike_refl this]; rfl
    rw [hall]
    simp +contextual (maxSteps := 10000000) only [↓reduceIte, go_sem, Nat.reduceEqDiff, Nat.reduceAdd, Nat.reduceSub, Nat.reduceMul, Nat.reduceLeDiff, Nat.reduceLT, Nat.reduceBEq, Nat.reduceDiv, Nat.reduceMod, Int.reduceLE, Int.reduceLT, Int.reduceEq, Int.reduceBEq, Int.reduceBNe, Int.reduceAdd, Int.reduceSub, Int.reduceNeg, Int.reduceToNat, Int.reduceMul, Int.reducePow, Nat.reducePow, reduceCtorEq, hlt', hk]
    refine lpK_inv (fun m0 f es => ∃ (i : Nat) (j : Int), j = i ∧ 1 ≤ i ∧ v.kids.length - i = m0 ∧ (v.kids.drop 1).all (arS v.kids) = (v.kids.drop i).all (arS v.kids) ∧ f = [(1, .rp v.cs), (4, I v.kids.length), (7, I j)] ∧ es = []) (v.kids.length - 1) ⟨1, _, rfl, Nat.le_refl _, rfl, rfl, rfl, rfl⟩ ?_
    rintro m1 _ _ ⟨i, j, hj, h1, hi, ha, rfl, rfl⟩ ih
    rcases Nat.lt_or_ge i v.kids.length with hlt | hge
    · obtain ⟨x, hx⟩ := get_lt hlt
      obtain ⟨y, hy⟩ := get_lt (show 0 < v.kids.length by omega)
      have hlt2 : decide (j < v.kids.length) = true := by simp <;> omega
      have hal := ralike_c _ y x (Nat.le_refl _) (by have := szL_in (List.mem_of_getElem? hy); omega) (mayL_at hm hy) (mayL_at hm hx)
      have hp : arS v.kids x = alike y x := by
        cases h0 : v.kids with
        | nil => rw [h0] at hy; cases hy
        | cons z r => rw [h0] at hy; simp only [List.getElem?_cons_zero, Option.some.injEq] at hy; subst hy; rfl
      have g1 : v.kids[j.toNat]? = some x := by rw [show j.toNat = i by omega]; exact hx
      simp +contextual (maxSteps := 10000000) only [↓reduceIte, go_sem, Nat.reduceEqDiff, Nat.reduceAdd, Nat.reduceSub, Nat.reduceMul, Nat.reduceLeDiff, Nat.reduceLT, Nat.reduceBEq, Nat.reduceDiv, Nat.reduceMod, Int.reduceLE, Int.reduceLT, Int.reduceEq, Int.reduceBEq, Int.reduceBNe, Int.reduceAdd, Int.reduceSub, Int.reduceNeg, Int.reduceToNat, Int.reduceMul, Int.reducePow, Nat.reducePow, reduceCtorEq, hlt2, g1, hy, hal, show 0 ≤ j by omega, show j < v.kids.length by omega, show (0 : Int) < v.kids.length by omega, wrap_i64 (n := j + 1) (by omega) (by omega)]
      refine ite_intro (fun h => ?_) (fun h => ?_)
      · have e : alikeF y.sz y x = false := by simpa using h
        rw [ha, all_drop hx, hp, alike, e]; rfl
      · have e : alikeF y.sz y x = true := by simpa using h
        exact ih (m1 - 1) _ _ (by omega) ⟨i + 1, _, by omega, by omega, by omega, by rw [ha, all_drop hx, hp, alike, e]; rfl, rfl, rfl⟩
    · have hlt2 : decide (j < v.kids.length) = false := by simp <;> omega
      simp +contextual (maxSteps := 10000000) only [↓reduceIte, go_sem, Nat.reduceEqDiff, Nat.reduceAdd, Nat.reduceSub, Nat.reduceMul, Nat.reduceLeDiff, Nat.reduceLT, Nat.reduceBEq, Nat.reduceDiv, Nat.reduceMod, Int.reduceLE, Int.reduceLT, Int.reduceEq, Int.reduceBEq, Int.reduceBNe, Int.reduceAdd, Int.reduceSub, Int.reduceNeg, Int.reduceToNat, Int.reduceMul, Int.reducePow, Nat.reducePow, reduceCtorEq, hlt2]
      rw [ha, List.drop_eq_nil_of_le hge]
      simp only [List.all_nil, Bool.true_and]
      rfl
set_option maxHeartbeats 2000000 in
theorem rmay25 (v : Val) (hs : v.sz ≤ 4000000) (hc : ∀ x ∈ v.kids, EV 72 [x.d] [] = some (.ret (B (mayS x)), [])) (hk : v.kind = 25) : EV 72 [v.d] [] = some (.ret (B (mayL v.kids && rfS v)), []) := by
  have hl := szL_len v.kids
  have hz := Val.sz_eq v
  refine (ev_body ⟨[1], [(0, [1, 3]), (3, [1, 4, 5]), (5, [1, 4, 5, 6]), (7, [1, 4, 7])], [(19, [(0, 0, false), (1, 0, false), (2, 0, false), (3, 0, false), (4, 0, false), (5, 0, false), (6, 0, false), (7, 0, false), (8, 0, false), (9, 0, false), (10, 0, false)]), (25, [(0, 0, false), (1, 0, false), (2, 0, false), (3, 0, false), (4, 0, false), (5, 0, false), (6, 0, false), (7, 0, false), (8, 0, false), (9, 0, false), (10, 0, false)])], false, [], noIt⟩ [.tmp 2] rfl Tryz.func72 rfl rfl rfl (by kernel_rfl) (by show 1 ≤ 95; decide)).trans ?_
  simp +contextual (maxSteps := 10000000) only [↓reduceIte, go_sem, Nat.reduceEqDiff, Nat.reduceAdd, Nat.reduceSub, Nat.reduceMul, Nat.reduceLeDiff, Nat.reduceLT, Nat.reduceBEq, Nat.reduceDiv, Nat.reduceMod, Int.reduceLE, Int.reduceLT, Int.reduceEq, Int.reduceBEq, Int.reduceBNe, Int.reduceAdd, Int.reduceSub, Int.reduceNeg, Int.reduceToNat, Int.reduceMul, Int.reducePow, Nat.reducePow, reduceCtorEq]
  refine lpK_inv (fun m0 f es => ∃ (i : Nat) (j : Int), j = i ∧ i + m0 = v.kids.length ∧ mayL v.kids = mayL (v.kids.drop i) ∧ f = [(1, .rp v.cs), (3, I j)] ∧ es = []) v.kids.length ⟨0, _, rfl, by omega, rfl, rfl, rfl⟩ ?_
  rintro m0 _ _ ⟨i, _, rfl, hi, hm, rfl, rfl⟩ ih
  rcases Nat.lt_or_ge i v.kids.length with hlt | hge
  · obtain ⟨x, hx⟩ := get_lt hlt
    have hlt' : decide ((i : Int) < v.kids.length) = true := by simpa using hlt
    have hcx := hc x (List.mem_of_getElem? hx)
    simp +contextual (maxSteps := 10000000) only [↓reduceIte, go_sem, Nat.reduceEqDiff, Nat.reduceAdd, Nat.reduceSub, Nat.reduceMul, Nat.reduceLeDiff, Nat.reduceLT, Nat.reduceBEq, Nat.reduceDiv, Nat.reduceMod, Int.reduceLE, Int.reduceLT, Int.reduceEq, Int.reduceBEq, Int.reduceBNe, Int.reduceAdd, Int.reduceSub, Int.reduceNeg, Int.reduceToNat, Int.reduceMul, Int.reducePow, Nat.reducePow, reduceCtorEq, hx, hcx, hlt', wrap_i64 (n := (i : Int) + 1) (by omega) (by omega)]
    refine ite_intro (fun h => ?_) (fun h => ?_)
    · rw [hm, mayL_drop hx]; simp at h; simp [h]
    · exact ih (m0 - 1) _ _ (by omega) ⟨i + 1, _, by omega, by omega, by rw [hm, mayL_drop hx]; simp at h; simp [h], rfl, rfl⟩
  · have hlt' : decide ((i : Int) < v.kids.length) = false := by simpa using hge
    clear ih
    rw [List.drop_eq_nil_of_le hge] at hm
    rw [hm, mayL, Bool.true_and]
    have hk0 : rfS v = (famS 25 v.kids && ntS v) := by rw [rfS, if_pos (by simp [hk]), hk]
    rw [hk0]
    match h0 : v.kids, hge with
    | [], hge =>
      have hlt' : decide ((i : Int) < 0) = false := by simp
      simp +contextual (maxSteps := 10000000) only [↓reduceIte, go_sem, Nat.reduceEqDiff, Nat.reduceAdd, Nat.reduceSub, Nat.reduceMul, Nat.reduceLeDiff, Nat.reduceLT, Nat.reduceBEq, Nat.reduceDiv, Nat.reduceMod, Int.reduceLE, Int.reduceLT, Int.reduceEq, Int.reduceBEq, Int.reduceBNe, Int.reduceAdd, Int.reduceSub, Int.reduceNeg, Int.reduceToNat, Int.reduceMul, Int.reducePow, Nat.reducePow, reduceCtorEq, hlt', hk, h0, famS, List.map_nil, List.length_nil, Bool.false_and]
    | [x], hge =>
      have hlt' : decide ((i : Int) < 1) = false := by simp at hge ⊢ <;> omega
      simp +contextual (maxSteps := 10000000) only [↓reduceIte, go_sem, Nat.reduceEqDiff, Nat.reduceAdd, Nat.reduceSub, Nat.reduceMul, Nat.reduceLeDiff, Nat.reduceLT, Nat.reduceBEq, Nat.reduceDiv, Nat.reduceMod, Int.reduceLE, Int.reduceLT, Int.reduceEq, Int.reduceBEq, Int.reduceBNe, Int.reduceAdd, Int.reduceSub, Int.reduceNeg, Int.reduceToNat, Int.reduceMul, Int.reducePow, Nat.reducePow, reduceCtorEq, hlt', hk, h0, famS, List.map_cons, List.map_nil, List.length_nil, List.length_cons, Bool.false_and]
    | [x, y], hge =>
      have hlt' : decide ((i : Int) < 2) = false := by simp at hge ⊢ <;> omega
      have hcl := called_c x
      cases hx : (x.kind == 6 || x.kind == 21)
      · rw [hx] at hcl
        simp +contextual (maxSteps := 10000000) only [↓reduceIte, go_sem, Nat.reduceEqDiff, Nat.reduceAdd, Nat.reduceSub, Nat.reduceMul, Nat.reduceLeDiff, Nat.reduceLT, Nat.reduceBEq, Nat.reduceDiv, Nat.reduceMod, Int.reduceLE, Int.reduceLT, Int.reduceEq, Int.reduceBEq, Int.reduceBNe, Int.reduceAdd, Int.reduceSub, Int.reduceNeg, Int.reduceToNat, Int.reduceMul, Int.reducePow, Nat.reducePow, reduceCtorEq, hlt', hk, h0, famS, List.map_cons, List.map_nil, List.length_nil, List.length_cons, hcl, hx, Bool.false_and]
      · rw [hx] at hcl
        simp +contextual (maxSteps := 10000000) only [↓reduceIte, go_sem, Nat.reduceEqDiff, Nat.reduceAdd, Nat.reduceSub, Nat.reduceMul, Nat.reduceLeDiff, Nat.reduceLT, Nat.reduceBEq, Nat.reduceDiv, Nat.reduceMod, Int.reduceLE, Int.reduceLT, Int.reduceEq, Int.reduceBEq, Int.reduceBNe, Int.reduceAdd, Int.reduceSub, Int.reduceNeg, Int.reduceToNat, Int.reduceMul, Int.reducePow, Nat.reducePow, reduceCtorEq, hlt', hk, h0, famS, List.map_cons, List.map_nil, List.length_nil, List.length_cons, hcl, hx, Bool.true_and]
        rfl
    | x :: y :: z :: r, hge =>
      have hlt' : decide ((i : Int) < (r.length : Int) + 1 + 1 + 1) = false := by simp at hge ⊢ <;> omega
      have e : ((r.length : Int) + 1 + 1 + 1 == 2) = false := by simp <;> omega
      have e' : ((r.length : Int) + 1 + 1 + 1 != 2) = true := by rw [bne, e]; rfl
      simp +contextual (maxSteps := 10000000) only [↓reduceIte, go_sem, Nat.reduceEqDiff, Nat.reduceAdd, Nat.reduceSub, Nat.reduceMul, Nat.reduceLeDiff, Nat.reduceLT, Nat.reduceBEq, Nat.reduceDiv, Nat.reduceMod, Int.reduceLE, Int.reduceLT, Int.reduceEq, Int.reduceBEq, Int.reduceBNe, Int.reduceAdd, Int.reduceSub, Int.reduceNeg, Int.reduceToNat, Int.reduceMul, Int.reducePow, Nat.reducePow, reduceCtorEq, hlt', hk, h0, famS, List.map_cons, List.length_cons, e, e', Bool.false_and]
set_option maxHeartbeats 2000000 in
theorem rmay_no (v : Val) (hs : v.sz ≤ 4000000) (hc : ∀ x ∈ v.kids, EV 72 [x.d] [] = some (.ret (B (mayS x)), [])) (h2 : v.kind ≠ 22) (h3 : v.kind ≠ 23) (h4 : v.kind ≠ 24) (h5 : v.kind ≠ 25) : EV 72 [v.d] [] = some (.ret (B (mayL v.kids && rfS v)), []) := by
  have hl := szL_len v.kids
  have hz := Val.sz_eq v
  refine (ev_body ⟨[1], [(0, [1, 3]), (3, [1, 4, 5]), (5, [1, 4, 5, 6]), (7, [1, 4, 7])], [(19, [(0, 0, false), (1, 0, false), (2, 0, false), (3, 0, false), (4, 0, false), (5, 0, false), (6, 0, false), (7, 0, false), (8, 0, false), (9, 0, false), (10, 0, false)]), (25, [(0, 0, false), (1, 0, false), (2, 0, false), (3, 0, false), (4, 0, false), (5, 0, false), (6, 0, false), (7, 0, false), (8, 0, false), (9, 0, false), (10, 0, false)])], false, [], noIt⟩ [.tmp 2] rfl Tryz.func72 rfl rfl rfl (by kernel_rfl) (by show 1 ≤ 95; decide)).trans ?_
  simp +contextual (maxSteps := 10000000) only [↓reduceIte, go_sem, Nat.reduceEqDiff, Nat.reduceAdd, Nat.reduceSub, Nat.reduceMul, Nat.reduceLeDiff, Nat.reduceLT, Nat.reduceBEq, Nat.reduceDiv, Nat.reduceMod, Int.reduceLE, Int.reduceLT, Int.reduceEq, Int.reduceBEq, Int.reduceBNe, Int.reduceAdd, Int.reduceSub, Int.reduceNeg, Int.reduceToNat, Int.reduceMul, Int.reducePow, Nat.reducePow, reduceCtorEq]
  refine lpK_inv (fun m0 f es => ∃ (i : Nat) (j : Int), j = i ∧ i + m0 = v.kids.length ∧ mayL v.kids = mayL (v.kids.drop i) ∧ f = [(1, .rp v.cs), (3, I j)] ∧ es = []) v.kids.length ⟨0, _, rfl, by omega, rfl, rfl, rfl⟩ ?_
  rintro m0 _ _ ⟨i, _, rfl, hi, hm, rfl, rfl⟩ ih
  rcases Nat.lt_or_ge i v.kids.length with hlt | hge
  · obtain ⟨x, hx⟩ := get_lt hlt
    have hlt' : decide ((i : Int) < v.kids.length) = true := by simpa using hlt
    have hcx := hc x (List.mem_of_getElem? hx)
    simp +contextual (maxSteps := 10000000) only [↓reduceIte, go_sem, Nat.reduceEqDiff, Nat.reduceAdd, Nat.reduceSub, Nat.reduceMul, Nat.reduceLeDiff, Nat.reduceLT, Nat.reduceBEq, Nat.reduceDiv, Nat.reduceMod, Int.reduceLE, Int.reduceLT, Int.reduceEq, Int.reduceBEq, Int.reduceBNe, Int.reduceAdd, Int.reduceSub, Int.reduceNeg, Int.reduceToNat, Int.reduceMul, Int.reducePow, Nat.reducePow, reduceCtorEq, hx, hcx, hlt', wrap_i64 (n := (i : Int) + 1) (by omega) (by omega)]
    refine ite_intro (fun h => ?_) (fun h => ?_)
    · rw [hm, mayL_drop hx]; simp at h; simp [h]
    · exact ih (m0 - 1) _ _ (by omega) ⟨i + 1, _, by omega, by omega, by rw [hm, mayL_drop hx]; simp at h; simp [h], rfl, rfl⟩
  · have hlt' : decide ((i : Int) < v.kids.length) = false := by simpa using hge
    clear ih
    rw [List.drop_eq_nil_of_le hge] at hm
    rw [hm, mayL, Bool.true_and]
    have hk0 : rfS v = (v.kids.isEmpty && plainS v.kind v.num v.text) := by rw [rfS, if_neg (by simp [h2, h3, h4, h5])]
    rw [hk0]
    simp +contextual (maxSteps := 10000000) only [↓reduceIte, go_sem, Nat.reduceEqDiff, Nat.reduceAdd, Nat.reduceSub, Nat.reduceMul, Nat.reduceLeDiff, Nat.reduceLT, Nat.reduceBEq, Nat.reduceDiv, Nat.reduceMod, Int.reduceLE, Int.reduceLT, Int.reduceEq, Int.reduceBEq, Int.reduceBNe, Int.reduceAdd, Int.reduceSub, Int.reduceNeg, Int.reduceToNat, Int.reduceMul, Int.reducePow, Nat.reducePow, reduceCtorEq, hlt', fb h2, fb h3, fb h4, fb h5, plain_c v (by omega)]
theorem rf_eq (v : Val) : (mayL v.kids && rfS v) = mayS v := by
  rw [mayS_eq, rfS]
  by_cases h : v.kind = 22 ∨ v.kind = 23 ∨ v.kind = 24 ∨ v.kind = 25
  · rw [if_pos h]
    have hn : (numS v.kind v.num && textS v.kind v.text) = ntS v := by rcases h with h | h | h | h <;> (rw [h]; rfl)
    have hr : (decide (1 ≤ v.kind) && decide (v.kind ≤ 25)) = true := by rcases h with h | h | h | h <;> (rw [h]; rfl)
    rw [hn, hr, Bool.true_and, Bool.and_comm (ntS v)]
  · rw [if_neg h]
    simp only [not_or] at h
    obtain ⟨h2, h3, h4, h5⟩ := h
    have hf : famS v.kind v.kids = v.kids.isEmpty := by simp only [famS, fb h2, fb h3, fb h4, fb h5, Bool.false_eq_true, if_false]
    have hr : decide (v.kind ≤ 21) = decide (v.kind ≤ 25) := decide_eq_decide.2 (by omega)
    rw [hf, plainS, hr]
    cases mayL v.kids <;> cases v.kids.isEmpty <;> cases (decide (1 ≤ v.kind) && decide (v.kind ≤ 25)) <;> cases numS v.kind v.num <;> cases textS v.kind v.text <;> rfl
theorem rmay_c : ∀ (n : Nat) (v : Val), v.sz ≤ n → n ≤ 4000000 → EV 72 [v.d] [] = some (.ret (B (mayS v)), [])
  | 0, .mk .., h, _ => by simp [Val.sz] at h
  | n + 1, v, hs, hn => by
    have hz := Val.sz_eq v
    have hc : ∀ x ∈ v.kids, EV 72 [x.d] [] = some (.ret (B (mayS x)), []) := fun x hx => rmay_c n x (by have := szL_in hx; omega) (by omega)
    rw [← rf_eq]
    by_cases h2 : v.kind = 22
    · exact rmay22 v (by omega) hc h2
    by_cases h3 : v.kind = 23
    · exact rmay23 v (by omega) hc h3
    by_cases h4 : v.kind = 24
    · exact rmay24 v (by omega) hc h4
    by_cases h5 : v.kind = 25
    · exact rmay25 v (by omega) hc h5
    exact rmay_no v (by omega) hc h2 h3 h4 h5
set_option maxHeartbeats 2000000 in
theorem rright_v (v : Val) (h : v.sz ≤ 4000000) : EV 51 [v.d] [] = some (.ret (B (rightS v)), []) := by
  refine (ev_body ⟨[1], [], [], false, [], noIt⟩ [.tmp 2] rfl Tryz.func51 rfl rfl rfl (by kernel_rfl) (by show 1 ≤ 15; decide)).trans ?_
  have h1 := rdepth_c _ v (Nat.le_refl _) (by omega)
  have h2 := ritems_c _ v (Nat.le_refl _) (by omega)
  have h3 := rmay_c _ v (Nat.le_refl _) h
  by_cases k2 : v.items ≤ 1024
  · have e2 : decide ((v.items : Int) ≤ 1024) = true := by simp <;> omega
    have f2 : decide (v.items ≤ 1024) = true := by simpa using k2
    by_cases k1 : v.depth ≤ 16
    · have e1 : decide ((v.depth : Int) ≤ 16) = true := by simp <;> omega
      have f1 : decide (v.depth ≤ 16) = true := by simpa using k1
      simp +contextual (maxSteps := 10000000) only [↓reduceIte, go_sem, Nat.reduceEqDiff, Nat.reduceAdd, Nat.reduceSub, Nat.reduceMul, Nat.reduceLeDiff, Nat.reduceLT, Nat.reduceBEq, Nat.reduceDiv, Nat.reduceMod, Int.reduceLE, Int.reduceLT, Int.reduceEq, Int.reduceBEq, Int.reduceBNe, Int.reduceAdd, Int.reduceSub, Int.reduceNeg, Int.reduceToNat, Int.reduceMul, Int.reducePow, Nat.reducePow, reduceCtorEq, h1, h2, h3, e1, e2, rightS, f1, f2, Bool.true_and]
    · have e1 : decide ((v.depth : Int) ≤ 16) = false := by simp <;> omega
      have f1 : decide (v.depth ≤ 16) = false := by simp <;> omega
      simp +contextual (maxSteps := 10000000) only [↓reduceIte, go_sem, Nat.reduceEqDiff, Nat.reduceAdd, Nat.reduceSub, Nat.reduceMul, Nat.reduceLeDiff, Nat.reduceLT, Nat.reduceBEq, Nat.reduceDiv, Nat.reduceMod, Int.reduceLE, Int.reduceLT, Int.reduceEq, Int.reduceBEq, Int.reduceBNe, Int.reduceAdd, Int.reduceSub, Int.reduceNeg, Int.reduceToNat, Int.reduceMul, Int.reducePow, Nat.reducePow, reduceCtorEq, h1, h2, e1, e2, rightS, f1, f2, Bool.true_and, Bool.false_and]
  · have e2 : decide ((v.items : Int) ≤ 1024) = false := by simp <;> omega
    have f2 : decide (v.items ≤ 1024) = false := by simp <;> omega
    simp +contextual (maxSteps := 10000000) only [↓reduceIte, go_sem, Nat.reduceEqDiff, Nat.reduceAdd, Nat.reduceSub, Nat.reduceMul, Nat.reduceLeDiff, Nat.reduceLT, Nat.reduceBEq, Nat.reduceDiv, Nat.reduceMod, Int.reduceLE, Int.reduceLT, Int.reduceEq, Int.reduceBEq, Int.reduceBNe, Int.reduceAdd, Int.reduceSub, Int.reduceNeg, Int.reduceToNat, Int.reduceMul, Int.reducePow, Nat.reducePow, reduceCtorEq, h2, e2, rightS, f2, Bool.false_and, Bool.and_false]
end Go.Bw.R1

namespace Go.Bw
set_option maxRecDepth 5000
open Go
theorem Rd.slice_cases {P : Program} {t e : TypeId} {ds : List D} (hu : P.underlying t = some (.slice e)) (h : Rd P t ds) : ds = [.nils] ∨ ∃ dss : List (List D), ds = [.ro false (dss.map fun ds => (whole ((aggB P e).getD false) ds).getD .undef)] ∧ ∀ ds ∈ dss, Rd P e ds := by
  cases h with
  | nils h => exact .inl rfl
  | ro h dss hl k =>
    rw [hu] at h
    simp only [Option.some.injEq, TypeDesc.slice.injEq] at h
    subst h
    exact .inr ⟨dss, rfl, k⟩
  | veil h n => unfold Bw.veil at h; rw [hu] at h; cases h
  | _ h => rw [hu] at h; simp at h
theorem Arg.cells {P : Program} {t : TypeId} {d : D} {ag : Bool} (ha : aggB P t = some ag) (h : Arg P t d) : ∃ cs, Rd P t cs ∧ d = (whole ag cs).getD .undef := by
  obtain ⟨cs, h1, _, h3⟩ := h
  rw [ha] at h3
  exact ⟨cs, h1, h3⟩
end Go.Bw
namespace Go.Bw.R1
open Go Go.Bw Go.Proofs
theorem ag25' : aggB Tryz.prog 25 = some true := by kernel_rfl
theorem wh56 : (fun ds => (whole ((aggB Tryz.prog 25).getD false) ds).getD .undef) = D.agg := by rw [ag25']; rfl
theorem vals_of {n : Nat} (ih : ∀ ds, Rd Tryz.prog 25 ds → D.blkL ds ≤ n → ∃ v : Val, v.wf ∧ WkL ds v.cs ∧ v.sz ≤ D.blkL ds) : ∀ dss : List (List D), (∀ ds ∈ dss, Rd Tryz.prog 25 ds) → D.blkL (dss.map D.agg) ≤ n →
    ∃ l : List Val, Val.wfL l ∧ dss.length = l.length ∧ Val.szL l ≤ D.blkL (dss.map D.agg) ∧ ∀ (j : Nat) (ds : List D) (x : Val), dss[j]? = some ds → l[j]? = some x → WkL ds x.cs
  | [], _, _ => ⟨[], trivial, rfl, Nat.le_refl _, fun j ds x h => by simp at h⟩
  | ds :: dss, hr, hn => by
    rw [List.map_cons, D.blkL, D.blk] at hn ⊢
    obtain ⟨v, h1, h2, h3⟩ := ih ds (hr ds (List.mem_cons_self ..)) (by omega)
    obtain ⟨l, k1, k2, k3, k4⟩ := vals_of ih dss (fun d hd => hr d (List.mem_cons_of_mem _ hd)) (by omega)
    refine ⟨v :: l, ⟨h1, k1⟩, by simp [k2], by simp only [Val.szL]; omega, fun j d x hd hx => ?_⟩
    cases j with
    | zero => simp at hd hx; subst hd hx; exact h2
    | succ j => exact k4 j d x (by simpa using hd) (by simpa using hx)
theorem slice_rd {n : Nat} (ih : ∀ ds, Rd Tryz.prog 25 ds → D.blkL ds ≤ n → ∃ v : Val, v.wf ∧ WkL ds v.cs ∧ v.sz ≤ D.blkL ds) {ds : List D} (h : Rd Tryz.prog 23 ds) (hn : D.blkL ds ≤ n + 1) : ∃ l : List Val, Val.wfL l ∧ WkL ds [.ro false (l.map Val.d)] ∧ Val.szL l + 1 ≤ D.blkL ds := by
  rcases Rd.slice_cases Tryz.underlying23 h with rfl | ⟨dss, rfl, k⟩
  · exact ⟨[], trivial, .cons (.nils _) .nil, by simp [Val.szL, D.blkL, D.blk]⟩
  · rw [wh56] at hn ⊢
    simp only [D.blkL, D.blk] at hn ⊢
    have hn' : D.blkL (dss.map D.agg) ≤ n := by clear ih k; omega
    obtain ⟨l, k1, k2, k3, k4⟩ := vals_of ih dss k hn'
    refine ⟨l, k1, .cons (Wk.ro (by simp [k2]) fun j e1 e2 he1 he2 => ?_) .nil, by clear ih k k4 hn; omega⟩
    simp only [List.getElem?_map, Option.map_eq_some_iff] at he1 he2
    obtain ⟨d1, hd1, rfl⟩ := he1
    obtain ⟨x1, hx1, rfl⟩ := he2
    have q := k4 j d1 x1 hd1 hx1
    rw [Val.cells]
    exact q
theorem val_rd : ∀ (n : Nat) (ds : List D), Rd Tryz.prog 25 ds → D.blkL ds ≤ n → ∃ v : Val, v.wf ∧ WkL ds v.cs ∧ v.sz ≤ D.blkL ds := by
  intro n
  induction n with
  | zero =>
    intro ds h hn
    have h := Rd.fields Tryz.underlying25 h
    obtain ⟨a0, b0, rfl, h0, h⟩ := h
    obtain ⟨x0, rfl, _, _⟩ := Rd.int_inv Tryz.underlying5 h0
    rw [D.blkL_append] at hn
    simp [D.blkL, D.blk] at hn
  | succ n ih =>
    intro ds h hn
    have h := Rd.fields Tryz.underlying25 h
    obtain ⟨a0, b0, rfl, h0, h⟩ := h
    obtain ⟨a1, b1, rfl, h1, h⟩ := h
    obtain ⟨a2, b2, rfl, h2, h⟩ := h
    obtain ⟨a3, b3, rfl, h3, h⟩ := h
    obtain rfl : b3 = [] := h
    obtain ⟨x0, rfl, l0, u0⟩ := Rd.int_inv Tryz.underlying5 h0
    obtain ⟨x1, rfl, l1, u1⟩ := Rd.int_inv Tryz.underlying22 h1
    obtain ⟨x2, rfl, s2⟩ := Rd.str_inv Tryz.underlying9 h2
    simp only [D.blkL_append, D.blkL, D.blk] at hn ⊢
    obtain ⟨l, k1, k2, k3⟩ := slice_rd ih h3 (by omega)
    refine ⟨.mk x0 x1 x2 l, ⟨?_, k1⟩, ?_, ?_⟩
    · simp [IntKind.min, IntKind.max, IntKind.signed, IntKind.bits] at l0 u0 l1 u1
      omega
    · simp only [List.cons_append, List.nil_append, List.append_nil, Val.cs, Val.kind_mk, Val.num_mk, Val.text_mk, Val.kids_mk]
      exact .cons (.refl _) (.cons (.refl _) (.cons (.refl _) k2))
    · simp only [Val.sz]; omega
theorem val_arg {d : D} (h : Arg Tryz.prog 25 d) : ∃ v : Val, v.wf ∧ Wk d v.d ∧ v.sz ≤ d.blk := by
  obtain ⟨ds, h1, h3⟩ := h.cells ag25'
  have e : d = .agg ds := h3
  subst e
  obtain ⟨v, k1, k2, k3⟩ := val_rd _ ds h1 (Nat.le_refl _)
  refine ⟨v, k1, ?_, ?_⟩
  · have := Wk.agg k2
    rw [Val.fold, Val.eta] at this
    exact this
  · rw [D.blk]; omega
theorem ag23' : aggB Tryz.prog 23 = some false := by kernel_rfl
theorem vals_arg {d : D} (h : Arg Tryz.prog 23 d) : ∃ l : List Val, Val.wfL l ∧ Wk d (.ro false (l.map Val.d)) ∧ Val.szL l ≤ d.blk := by
  obtain ⟨ds, h1, h3⟩ := h.cells ag23'
  obtain ⟨l, k1, k2, k3⟩ := slice_rd (fun ds h _ => val_rd _ ds h (Nat.le_refl _)) h1 (Nat.le_succ (D.blkL ds))
  match ds, k2.1, h3 with
  | [y], _, h3 =>
    have e : d = y := h3
    subst e
    refine ⟨l, k1, k2.2 0 d _ rfl rfl, ?_⟩
    simp only [D.blkL] at k3; omega
end Go.Bw.R1

namespace Go.Bw.R1
set_option maxRecDepth 5000
open Go Go.Bw Go.Proofs
/-- how large values are, by Large -/
def lgS : List Val → Nat
  | [] => 0
  | v :: l => v.items + v.text.size / 8 + lgS l
theorem lgS_app : ∀ a b : List Val, lgS (a ++ b) = lgS a + lgS b
  | [], b => by simp [lgS]
  | v :: a, b => by simp only [List.cons_append, lgS, lgS_app a b]; omega
theorem lgS_sz : ∀ l : List Val, lgS l ≤ 2 * Val.szL l
  | [] => Nat.le_refl _
  | v :: l => by have := items_sz v; have := lgS_sz l; have := Val.sz_eq v; simp only [lgS, Val.szL]; omega
theorem lgS_take (l : List Val) (i : Nat) : lgS (l.take i) ≤ 2 * Val.szL l := by
  have := lgS_sz l
  have e : lgS l = lgS (l.take i) + lgS (l.drop i) := by rw [← lgS_app, List.take_append_drop]
  omega
theorem lgS_step {l : List Val} {i : Nat} {x : Val} (h : l[i]? = some x) : lgS (l.take (i + 1)) = lgS (l.take i) + (x.items + x.text.size / 8) := by
  rw [take_snoc h, lgS_app]; simp [lgS]
theorem tdiv8 (n : Nat) : ((n : Int)).tdiv 8 = ((n / 8 : Nat) : Int) := by
  rw [Int.tdiv_eq_ediv_of_nonneg (by omega)]; omega
set_option maxHeartbeats 1000000 in
theorem large_c (l : List Val) (hs : Val.szL l ≤ 4000000) : EV 5 [.ro false (l.map Val.d)] [] = some (.ret (B (decide (8192 < lgS l))), []) := by
  have hl := szL_len l
  refine (ev_body ⟨[], [(0, [0, 3, 4])], [(5, [(0, 0, false), (1, 0, false), (2, 0, false), (3, 0, false), (4, 0, false), (5, 0, false), (6, 0, false), (7, 0, false), (8, 0, false), (9, 0, false), (10, 0, false), (11, 0, false), (12, 0, false), (13, 0, false), (14, 0, false), (15, 0, false)])], false, [], noIt⟩ [.tmp 2] rfl Tryz.func5 rfl rfl rfl (by kernel_rfl) (by show 1 ≤ 28; decide)).trans ?_
  simp +contextual (maxSteps := 10000000) only [↓reduceIte, go_sem, Nat.reduceEqDiff, Nat.reduceAdd, Nat.reduceSub, Nat.reduceMul, Nat.reduceLeDiff, Nat.reduceLT, Nat.reduceBEq, Nat.reduceDiv, Nat.reduceMod, Int.reduceLE, Int.reduceLT, Int.reduceEq, Int.reduceBEq, Int.reduceBNe, Int.reduceAdd, Int.reduceSub, Int.reduceNeg, Int.reduceToNat, Int.reduceMul, Int.reducePow, Nat.reducePow, reduceCtorEq]
  refine lpK_inv (fun m0 f es => ∃ (i : Nat) (j n : Int), j = i ∧ n = lgS (l.take i) ∧ i + m0 = l.length ∧ f = [(0, .ro false (l.map Val.d)), (3, I n), (4, I j)] ∧ es = []) l.length ⟨0, 0, 0, rfl, by simp [lgS], by omega, rfl, rfl⟩ ?_
  rintro m0 _ _ ⟨i, j, n, hj, hn, hi, rfl, rfl⟩ ih
  rcases Nat.lt_or_ge i l.length with hlt | hge
  · obtain ⟨x, hx⟩ := get_lt hlt
    have hlt' : decide (j < l.length) = true := by simp <;> omega
    have hxm := szL_in (List.mem_of_getElem? hx)
    have h1 := ritems_c _ x (Nat.le_refl _) (by omega)
    have g1 : l[j.toNat]? = some x := by rw [show j.toNat = i by omega]; exact hx
    have hstep := lgS_step hx
    have hb := lgS_take l (i + 1)
    have hz := Val.sz_eq x
    simp +contextual (maxSteps := 10000000) only [↓reduceIte, go_sem, Nat.reduceEqDiff, Nat.reduceAdd, Nat.reduceSub, Nat.reduceMul, Nat.reduceLeDiff, Nat.reduceLT, Nat.reduceBEq, Nat.reduceDiv, Nat.reduceMod, Int.reduceLE, Int.reduceLT, Int.reduceEq, Int.reduceBEq, Int.reduceBNe, Int.reduceAdd, Int.reduceSub, Int.reduceNeg, Int.reduceToNat, Int.reduceMul, Int.reducePow, Nat.reducePow, reduceCtorEq, hlt', g1, h1, tdiv8, wrap_i64 (n := ((x.text.size / 8 : Nat) : Int)) (by omega) (by omega), show 0 ≤ j by omega, show j < l.length by omega, wrap_i64 (n := j + 1) (by omega) (by omega), wrap_i64 (n := n + x.items) (by omega) (by omega), wrap_i64 (n := n + x.items + (x.text.size / 8 : Nat)) (by omega) (by omega)]
    exact ih (m0 - 1) _ _ (by omega) ⟨i + 1, _, _, by omega, by omega, by omega, rfl, rfl⟩
  · have hlt' : decide (j < l.length) = false := by simp <;> omega
    simp +contextual (maxSteps := 10000000) only [↓reduceIte, go_sem, Nat.reduceEqDiff, Nat.reduceAdd, Nat.reduceSub, Nat.reduceMul, Nat.reduceLeDiff, Nat.reduceLT, Nat.reduceBEq, Nat.reduceDiv, Nat.reduceMod, Int.reduceLE, Int.reduceLT, Int.reduceEq, Int.reduceBEq, Int.reduceBNe, Int.reduceAdd, Int.reduceSub, Int.reduceNeg, Int.reduceToNat, Int.reduceMul, Int.reducePow, Nat.reducePow, reduceCtorEq, hlt']
    have e : decide (8192 < n) = decide (8192 < lgS l) := by
      rw [List.take_of_length_le hge] at hn
      exact decide_eq_decide.2 (by omega)
    rw [e]
theorem large1 (v : Val) (hs : v.sz ≤ 4000000) : EV 5 [.ro false [v.d]] [] = some (.ret (B (decide (8192 < lgS [v]))), []) := large_c [v] (by simp only [Val.szL]; omega)
end Go.Bw.R1

namespace Go.Bw.R1
set_option maxRecDepth 5000
open Go Go.Bw Go.Proofs
theorem own : ownKnob Tryz.prog.godebug = none := by kernel_rfl
theorem Args.end_ {dl : List D} (h : Args Tryz.prog [] dl) : dl = [] := List.length_eq_zero_iff.1 h.1
theorem blk_one {d : D} {n : Nat} (h : D.blkL [d] ≤ n) : d.blk ≤ n := by simp only [D.blkL] at h; omega
theorem u64_arg {d : D} (h : Arg Tryz.prog 22 d) : ∃ n : Int, (0 ≤ n ∧ n < 18446744073709551616) ∧ Wk d (.sc (.int .u64 n)) := by
  obtain ⟨n, h, hw⟩ := Arg.one (by kernel_rfl) (fun n : Int => IntKind.u64.min ≤ n ∧ n ≤ IntKind.u64.max) (fun n => .sc (.int .u64 n)) (fun ds hd => by
    obtain ⟨n, rfl, h1, h2⟩ := Rd.int_inv Tryz.underlying22 hd
    exact ⟨n, ⟨h1, h2⟩, .refl _⟩) h
  simp [IntKind.min, IntKind.max, IntKind.signed, IntKind.bits] at h
  exact ⟨n, by omega, hw⟩
theorem str_arg {d : D} (h : Arg Tryz.prog 9 d) : ∃ s : ByteArray, Wk d (.sc (.string s)) ∧ s.size + 1 ≤ d.blk := by
  obtain ⟨s, _, hw, hb⟩ := Arg.oneW (fun s : ByteArray => s.size + 1) (by kernel_rfl) (fun _ => True) (fun s => .sc (.string s)) (fun ds hd => by
    obtain ⟨s, rfl, _⟩ := Rd.str_inv Tryz.underlying9 hd
    exact ⟨s, trivial, .refl _, by simp [D.blkL, D.blk]⟩) h
  exact ⟨s, hw, hb⟩
theorem u8_arg {d : D} (h : Arg Tryz.prog 5 d) : ∃ n : Int, (0 ≤ n ∧ n < 256) ∧ Wk d (.sc (.int .u8 n)) := by
  obtain ⟨n, h, hw⟩ := Arg.one (by kernel_rfl) (fun n : Int => IntKind.u8.min ≤ n ∧ n ≤ IntKind.u8.max) (fun n => .sc (.int .u8 n)) (fun ds hd => by
    obtain ⟨n, rfl, h1, h2⟩ := Rd.int_inv Tryz.underlying5 hd
    exact ⟨n, ⟨h1, h2⟩, .refl _⟩) h
  simp [IntKind.min, IntKind.max, IntKind.signed, IntKind.bits] at h
  exact ⟨n, by omega, hw⟩
theorem int_arg {d : D} (h : Arg Tryz.prog 3 d) : ∃ n : Int, (-9223372036854775808 ≤ n ∧ n ≤ 9223372036854775807) ∧ Wk d (.sc (.int .i64 n)) := by
  obtain ⟨n, h, hw⟩ := Arg.one (by kernel_rfl) (fun n : Int => IntKind.i64.min ≤ n ∧ n ≤ IntKind.i64.max) (fun n => .sc (.int .i64 n)) (fun ds hd => by
    obtain ⟨n, rfl, h1, h2⟩ := Rd.int_inv Tryz.underlying3 hd
    exact ⟨n, ⟨h1, h2⟩, .refl _⟩) h
  simp [IntKind.min, IntKind.max, IntKind.signed, IntKind.bits] at h
  exact ⟨n, by omega, hw⟩
end Go.Bw.R1

namespace Go.Bw.R1
set_option maxRecDepth 5000
open Go Go.Bw Go.Proofs
abbrev U8 (n : Int) : D := .sc (.int .u8 n)
abbrev U64 (n : Int) : D := .sc (.int .u64 n)
abbrev Sx (t : ByteArray) : D := .sc (.string t)
abbrev u8L (ks : List Int) : List D := ks.map fun n => D.sc (.int .u8 n)
theorem u8L_refs (l : List Int) : D.refsL (l.map fun n => D.sc (.int .u8 n)) = [] := nums_refsL .u8 l
theorem u8L_can (l : List Int) : D.canL (l.map fun n => D.sc (.int .u8 n)) = l.map fun n => D.sc (.int .u8 n) := nums_canL .u8 l
attribute [go_sem] u8L_refs u8L_can
/-- where a number stands first -/
def idxF (k : Int) : List Int → Int → Int
  | [], _ => -1
  | x :: r, i => if k = x then i else idxF k r (i + 1)
theorem idxF_mem (k : Int) : ∀ (l : List Int) (i : Int), 0 ≤ i → decide (0 ≤ idxF k l i) = decide (k ∈ l)
  | [], i, h => by simp [idxF]
  | x :: r, i, h => by
    simp only [idxF]
    split
    · rename_i e; subst e; simp [h]
    · rename_i e
      rw [idxF_mem k r (i + 1) (by omega)]
      simp [e]
set_option maxHeartbeats 1000000 in
theorem index_c (ks : List Int) (k : Int) (hl : ks.length ≤ 4000000) : EV 85 [.ro false (u8L ks), U8 k] [] = some (.ret (I (idxF k ks 0)), []) := by
  refine (ev_body ⟨[], [(0, [0, 1, 7, 8])], [], false, [], noIt⟩ [.tmp 4] rfl Tryz.func85 rfl rfl rfl (by kernel_rfl) (by show 2 ≤ 19; decide)).trans ?_
  simp +contextual (maxSteps := 10000000) only [↓reduceIte, go_sem, Nat.reduceEqDiff, Nat.reduceAdd, Nat.reduceSub, Nat.reduceMul, Nat.reduceLeDiff, Nat.reduceLT, Nat.reduceBEq, Nat.reduceDiv, Nat.reduceMod, Int.reduceLE, Int.reduceLT, Int.reduceEq, Int.reduceBEq, Int.reduceBNe, Int.reduceAdd, Int.reduceSub, Int.reduceNeg, Int.reduceToNat, Int.reduceMul, Int.reducePow, Nat.reducePow, reduceCtorEq]
  refine lpK_inv (fun m0 f es => ∃ (i : Nat) (j : Int), j = i ∧ i + m0 = ks.length ∧ idxF k ks 0 = idxF k (ks.drop i) j ∧ f = [(0, .ro false (u8L ks)), (1, U8 k), (7, I ks.length), (8, I j)] ∧ es = []) ks.length ⟨0, 0, rfl, by omega, rfl, rfl, rfl⟩ ?_
  rintro m0 _ _ ⟨i, j, hj, hi, hd, rfl, rfl⟩ ih
  rcases Nat.lt_or_ge i ks.length with hlt | hge
  · obtain ⟨x, hx⟩ := get_lt hlt
    have hlt' : decide (j < ks.length) = true := by simp <;> omega
    have g1 : ks[j.toNat]? = some x := by rw [show j.toNat = i by omega]; exact hx
    obtain ⟨p1, q1⟩ := List.getElem?_eq_some_iff.1 hx
    rw [List.drop_eq_getElem_cons p1, q1, idxF] at hd
    simp +contextual (maxSteps := 10000000) only [↓reduceIte, go_sem, Nat.reduceEqDiff, Nat.reduceAdd, Nat.reduceSub, Nat.reduceMul, Nat.reduceLeDiff, Nat.reduceLT, Nat.reduceBEq, Nat.reduceDiv, Nat.reduceMod, Int.reduceLE, Int.reduceLT, Int.reduceEq, Int.reduceBEq, Int.reduceBNe, Int.reduceAdd, Int.reduceSub, Int.reduceNeg, Int.reduceToNat, Int.reduceMul, Int.reducePow, Nat.reducePow, reduceCtorEq, hlt', g1, show 0 ≤ j by omega, show j < ks.length by omega, wrap_i64 (n := j + 1) (by omega) (by omega)]
    refine ite_intro (fun h => ?_) (fun h => ?_)
    · rw [hd, if_pos (by simpa using h)]
    · rw [if_neg (by simpa using h)] at hd
      exact ih (m0 - 1) _ _ (by omega) ⟨i + 1, _, by omega, by omega, hd, rfl, rfl⟩
  · have hlt' : decide (j < ks.length) = false := by simp <;> omega
    rw [List.drop_eq_nil_of_le hge, idxF] at hd
    simp +contextual (maxSteps := 10000000) only [↓reduceIte, go_sem, Nat.reduceEqDiff, Nat.reduceAdd, Nat.reduceSub, Nat.reduceMul, Nat.reduceLeDiff, Nat.reduceLT, Nat.reduceBEq, Nat.reduceDiv, Nat.reduceMod, Int.reduceLE, Int.reduceLT, Int.reduceEq, Int.reduceBEq, Int.reduceBNe, Int.reduceAdd, Int.reduceSub, Int.reduceNeg, Int.reduceToNat, Int.reduceMul, Int.reducePow, Nat.reducePow, reduceCtorEq, hlt', hd]
theorem contains_c (ks : List Int) (k : Int) (hl : ks.length ≤ 4000000) : EV 70 [.ro false (u8L ks), U8 k] [] = some (.ret (B (decide (k ∈ ks))), []) := by
  refine (ev_body ⟨[], [], [], false, [], noIt⟩ [.tmp 4] rfl Tryz.func70 rfl rfl rfl (by kernel_rfl) (by show 2 ≤ 9; decide)).trans ?_
  have h := index_c ks k hl
  simp +contextual (maxSteps := 10000000) only [↓reduceIte, go_sem, Nat.reduceEqDiff, Nat.reduceAdd, Nat.reduceSub, Nat.reduceMul, Nat.reduceLeDiff, Nat.reduceLT, Nat.reduceBEq, Nat.reduceDiv, Nat.reduceMod, Int.reduceLE, Int.reduceLT, Int.reduceEq, Int.reduceBEq, Int.reduceBNe, Int.reduceAdd, Int.reduceSub, Int.reduceNeg, Int.reduceToNat, Int.reduceMul, Int.reducePow, Nat.reducePow, reduceCtorEq, h]
  rw [idxF_mem k ks 0 (Int.le_refl _)]
theorem of_c (ks : List Int) : EV 47 [.ro false (u8L ks)] [] = some (.ret (.fn (.func 69) [] [.rp [.ro false (u8L ks)]]), []) := by
  refine (ev_body ⟨[1], [], [], true, [], noIt⟩ [.tmp 2] rfl Tryz.func47 rfl rfl rfl (by kernel_rfl) (by show 1 ≤ 4; decide)).trans ?_
  simp +contextual (maxSteps := 10000000) only [↓reduceIte, go_sem, Nat.reduceEqDiff, Nat.reduceAdd, Nat.reduceSub, Nat.reduceMul, Nat.reduceLeDiff, Nat.reduceLT, Nat.reduceBEq, Nat.reduceDiv, Nat.reduceMod, Int.reduceLE, Int.reduceLT, Int.reduceEq, Int.reduceBEq, Int.reduceBNe, Int.reduceAdd, Int.reduceSub, Int.reduceNeg, Int.reduceToNat, Int.reduceMul, Int.reducePow, Nat.reducePow, reduceCtorEq]
theorem of1_c (ks : List Int) (v : Val) (hl : ks.length ≤ 4000000) : EV 69 [v.d, .rp [.ro false (u8L ks)]] [] = some (.ret (B (decide (v.kind ∈ ks))), []) := by
  refine (ev_body ⟨[2], [], [], false, [], noIt⟩ [.tmp 3] rfl Tryz.func69 rfl rfl rfl (by kernel_rfl) (by show 2 ≤ 8; decide)).trans ?_
  have h := contains_c ks v.kind hl
  simp +contextual (maxSteps := 10000000) only [↓reduceIte, go_sem, Nat.reduceEqDiff, Nat.reduceAdd, Nat.reduceSub, Nat.reduceMul, Nat.reduceLeDiff, Nat.reduceLT, Nat.reduceBEq, Nat.reduceDiv, Nat.reduceMod, Int.reduceLE, Int.reduceLT, Int.reduceEq, Int.reduceBEq, Int.reduceBNe, Int.reduceAdd, Int.reduceSub, Int.reduceNeg, Int.reduceToNat, Int.reduceMul, Int.reducePow, Nat.reducePow, reduceCtorEq, h]
end Go.Bw.R1

namespace Go.Bw.R1
set_option maxRecDepth 5000
open Go Go.Bw Go.Proofs
/-- what stands at a place of fields -/
def atS (l : List Val) (i : Int) : Option Val := if i < 0 then none else match l[i.toNat]? with | some x => if x.kind = 1 then none else some x | none => none
abbrev vN : Val := .mk 1 0 ⟨#[]⟩ []
abbrev fRow (l : List Val) (sp : Bool) : Option En := some ⟨0, [.ro false (l.map Val.d), B sp]⟩
theorem atS_len {l : List Val} {i : Int} {x : Val} (h : atS l i = some x) : 0 ≤ i ∧ i < l.length ∧ l[i.toNat]? = some x ∧ x.kind ≠ 1 := by
  unfold atS at h
  split at h
  · cases h
  · split at h
    · rename_i y hy
      split at h
      · cases h
      · rename_i hk
        simp only [Option.some.injEq] at h
        subst h
        have := (List.getElem?_eq_some_iff.1 hy).1
        exact ⟨by omega, by omega, hy, hk⟩
    · cases h
set_option maxHeartbeats 1000000 in
theorem at_some (l : List Val) (sp : Bool) (i : Int) (x : Val) (h : atS l i = some x) : EV 68 [.ptr 0 0 0, I i] [fRow l sp] = some (.ret (.tup [x.d, B true]), [fRow l sp]) := by
  obtain ⟨h1, h2, h3, h4⟩ := atS_len h
  have e1 : decide (i < 0) = false := by simp; omega
  have e2 : decide ((l.length : Int) ≤ i) = false := by simp; omega
  have e3 : (x.kind == 1) = false := by simpa using h4
  refine (ev_body ⟨[], [], [], true, [], noIt⟩ [.cell 4 25, .tmp 5] rfl Tryz.func68 rfl rfl rfl (by kernel_rfl) (by show 2 ≤ 40; decide)).trans ?_
  simp +contextual (maxSteps := 10000000) only [↓reduceIte, go_sem, Nat.reduceEqDiff, Nat.reduceAdd, Nat.reduceSub, Nat.reduceMul, Nat.reduceLeDiff, Nat.reduceLT, Nat.reduceBEq, Nat.reduceDiv, Nat.reduceMod, Int.reduceLE, Int.reduceLT, Int.reduceEq, Int.reduceBEq, Int.reduceBNe, Int.reduceAdd, Int.reduceSub, Int.reduceNeg, Int.reduceToNat, Int.reduceMul, Int.reducePow, Nat.reducePow, reduceCtorEq, e1, e2, e3, h3, h1, h2]
set_option maxHeartbeats 1000000 in
theorem at_none (l : List Val) (sp : Bool) (i : Int) (h : atS l i = none) : EV 68 [.ptr 0 0 0, I i] [fRow l sp] = some (.ret (.tup [vN.d, B false]), [fRow l sp]) := by
  refine (ev_body ⟨[], [], [], true, [], noIt⟩ [.cell 4 25, .tmp 5] rfl Tryz.func68 rfl rfl rfl (by kernel_rfl) (by show 2 ≤ 40; decide)).trans ?_
  rcases Int.lt_or_le i 0 with hi | hi
  · have e1 : decide (i < 0) = true := by simpa using hi
    simp +contextual (maxSteps := 10000000) only [↓reduceIte, go_sem, Nat.reduceEqDiff, Nat.reduceAdd, Nat.reduceSub, Nat.reduceMul, Nat.reduceLeDiff, Nat.reduceLT, Nat.reduceBEq, Nat.reduceDiv, Nat.reduceMod, Int.reduceLE, Int.reduceLT, Int.reduceEq, Int.reduceBEq, Int.reduceBNe, Int.reduceAdd, Int.reduceSub, Int.reduceNeg, Int.reduceToNat, Int.reduceMul, Int.reducePow, Nat.reducePow, reduceCtorEq, e1, null_c]
  · have e1 : decide (i < 0) = false := by simp; omega
    unfold atS at h
    rw [if_neg (by omega)] at h
    split at h
    · rename_i y hy
      split at h
      · rename_i hk
        have := (List.getElem?_eq_some_iff.1 hy).1
        have e2 : decide ((l.length : Int) ≤ i) = false := by simp; omega
        have e3 : (y.kind == 1) = true := by simpa using hk
        simp +contextual (maxSteps := 10000000) only [↓reduceIte, go_sem, Nat.reduceEqDiff, Nat.reduceAdd, Nat.reduceSub, Nat.reduceMul, Nat.reduceLeDiff, Nat.reduceLT, Nat.reduceBEq, Nat.reduceDiv, Nat.reduceMod, Int.reduceLE, Int.reduceLT, Int.reduceEq, Int.reduceBEq, Int.reduceBNe, Int.reduceAdd, Int.reduceSub, Int.reduceNeg, Int.reduceToNat, Int.reduceMul, Int.reducePow, Nat.reducePow, reduceCtorEq, e1, e2, e3, hy, hi, show i < l.length by omega, null_c]
      · cases h
    · rename_i hn
      have := List.getElem?_eq_none_iff.1 hn
      have e2 : decide ((l.length : Int) ≤ i) = true := by simp; omega
      simp +contextual (maxSteps := 10000000) only [↓reduceIte, go_sem, Nat.reduceEqDiff, Nat.reduceAdd, Nat.reduceSub, Nat.reduceMul, Nat.reduceLeDiff, Nat.reduceLT, Nat.reduceBEq, Nat.reduceDiv, Nat.reduceMod, Int.reduceLE, Int.reduceLT, Int.reduceEq, Int.reduceBEq, Int.reduceBNe, Int.reduceAdd, Int.reduceSub, Int.reduceNeg, Int.reduceToNat, Int.reduceMul, Int.reducePow, Nat.reducePow, reduceCtorEq, e1, e2, null_c]
theorem at_nil (i : Int) : EV 68 [.nilp, I i] [] = some (.ret (.tup [vN.d, B false]), []) := by
  refine (ev_body ⟨[], [], [], true, [], noIt⟩ [.cell 4 25, .tmp 5] rfl Tryz.func68 rfl rfl rfl (by kernel_rfl) (by show 2 ≤ 40; decide)).trans ?_
  simp +contextual (maxSteps := 10000000) only [↓reduceIte, go_sem, Nat.reduceEqDiff, Nat.reduceAdd, Nat.reduceSub, Nat.reduceMul, Nat.reduceLeDiff, Nat.reduceLT, Nat.reduceBEq, Nat.reduceDiv, Nat.reduceMod, Int.reduceLE, Int.reduceLT, Int.reduceEq, Int.reduceBEq, Int.reduceBNe, Int.reduceAdd, Int.reduceSub, Int.reduceNeg, Int.reduceToNat, Int.reduceMul, Int.reducePow, Nat.reducePow, reduceCtorEq, null_c]
theorem spoil_c (l : List Val) (sp : Bool) : EV 60 [.ptr 0 0 0] [fRow l sp] = some (.ret (.tup []), [fRow l true]) := by
  refine (ev_body ⟨[], [], [], false, [], noIt⟩ [] rfl Tryz.func60 rfl rfl rfl (by kernel_rfl) (by show 1 ≤ 7; decide)).trans ?_
  simp +contextual (maxSteps := 10000000) only [↓reduceIte, go_sem, Nat.reduceEqDiff, Nat.reduceAdd, Nat.reduceSub, Nat.reduceMul, Nat.reduceLeDiff, Nat.reduceLT, Nat.reduceBEq, Nat.reduceDiv, Nat.reduceMod, Int.reduceLE, Int.reduceLT, Int.reduceEq, Int.reduceBEq, Int.reduceBNe, Int.reduceAdd, Int.reduceSub, Int.reduceNeg, Int.reduceToNat, Int.reduceMul, Int.reducePow, Nat.reducePow, reduceCtorEq]
theorem spoil_nil : EV 60 [.nilp] [] = some (.ret (.tup []), []) := by
  refine (ev_body ⟨[], [], [], false, [], noIt⟩ [] rfl Tryz.func60 rfl rfl rfl (by kernel_rfl) (by show 1 ≤ 7; decide)).trans ?_
  simp +contextual (maxSteps := 10000000) only [↓reduceIte, go_sem, Nat.reduceEqDiff, Nat.reduceAdd, Nat.reduceSub, Nat.reduceMul, Nat.reduceLeDiff, Nat.reduceLT, Nat.reduceBEq, Nat.reduceDiv, Nat.reduceMod, Int.reduceLE, Int.reduceLT, Int.reduceEq, Int.reduceBEq, Int.reduceBNe, Int.reduceAdd, Int.reduceSub, Int.reduceNeg, Int.reduceToNat, Int.reduceMul, Int.reducePow, Nat.reducePow, reduceCtorEq]
theorem done_c (l : List Val) (sp : Bool) (n : Int) : EV 29 [.ptr 0 0 0, I n] [fRow l sp] = some (.ret (I (if sp || decide (n < l.length) then 6 else 0)), [fRow l sp]) := by
  refine (ev_body ⟨[], [], [], false, [], noIt⟩ [.tmp 4] rfl Tryz.func29 rfl rfl rfl (by kernel_rfl) (by show 2 ≤ 22; decide)).trans ?_
  cases sp
  · simp +contextual (maxSteps := 10000000) only [↓reduceIte, go_sem, Nat.reduceEqDiff, Nat.reduceAdd, Nat.reduceSub, Nat.reduceMul, Nat.reduceLeDiff, Nat.reduceLT, Nat.reduceBEq, Nat.reduceDiv, Nat.reduceMod, Int.reduceLE, Int.reduceLT, Int.reduceEq, Int.reduceBEq, Int.reduceBNe, Int.reduceAdd, Int.reduceSub, Int.reduceNeg, Int.reduceToNat, Int.reduceMul, Int.reducePow, Nat.reducePow, reduceCtorEq]
    cases decide (n < l.length) <;> rfl
  · simp +contextual (maxSteps := 10000000) only [↓reduceIte, go_sem, Nat.reduceEqDiff, Nat.reduceAdd, Nat.reduceSub, Nat.reduceMul, Nat.reduceLeDiff, Nat.reduceLT, Nat.reduceBEq, Nat.reduceDiv, Nat.reduceMod, Int.reduceLE, Int.reduceLT, Int.reduceEq, Int.reduceBEq, Int.reduceBNe, Int.reduceAdd, Int.reduceSub, Int.reduceNeg, Int.reduceToNat, Int.reduceMul, Int.reducePow, Nat.reducePow, reduceCtorEq]
theorem done_nil (n : Int) : EV 29 [.nilp, I n] [] = some (.ret (I 2), []) := by
  refine (ev_body ⟨[], [], [], false, [], noIt⟩ [.tmp 4] rfl Tryz.func29 rfl rfl rfl (by kernel_rfl) (by show 2 ≤ 22; decide)).trans ?_
  simp +contextual (maxSteps := 10000000) only [↓reduceIte, go_sem, Nat.reduceEqDiff, Nat.reduceAdd, Nat.reduceSub, Nat.reduceMul, Nat.reduceLeDiff, Nat.reduceLT, Nat.reduceBEq, Nat.reduceDiv, Nat.reduceMod, Int.reduceLE, Int.reduceLT, Int.reduceEq, Int.reduceBEq, Int.reduceBNe, Int.reduceAdd, Int.reduceSub, Int.reduceNeg, Int.reduceToNat, Int.reduceMul, Int.reducePow, Nat.reducePow, reduceCtorEq]
def calledS (d : Val) (code : Int) (name : ByteArray) : Bool := (d.kind == 6 && d.num == code) || (d.kind == 21 && decide (d.text = name))
theorem fcalled_c (d : Val) (code : Int) (name : ByteArray) : EV 44 [d.d, U64 code, Sx name] [] = some (.ret (B (calledS d code name)), []) := by
  refine (ev_body ⟨[3], [], [], false, [], noIt⟩ [.tmp 6] rfl Tryz.func44 rfl rfl rfl (by kernel_rfl) (by show 3 ≤ 27; decide)).trans ?_
  simp +contextual (maxSteps := 10000000) only [↓reduceIte, go_sem, Nat.reduceEqDiff, Nat.reduceAdd, Nat.reduceSub, Nat.reduceMul, Nat.reduceLeDiff, Nat.reduceLT, Nat.reduceBEq, Nat.reduceDiv, Nat.reduceMod, Int.reduceLE, Int.reduceLT, Int.reduceEq, Int.reduceBEq, Int.reduceBNe, Int.reduceAdd, Int.reduceSub, Int.reduceNeg, Int.reduceToNat, Int.reduceMul, Int.reducePow, Nat.reducePow, reduceCtorEq]
  unfold calledS
  cases d.kind == 6 <;> cases d.num == code <;> cases d.kind == 21 <;> rfl
end Go.Bw.R1

namespace Go.Bw.R1
set_option maxRecDepth 5000
open Go Go.Bw Go.Proofs
theorem strs_refs (l : List ByteArray) : D.refsL (l.map fun s => D.sc (.string s)) = [] := by
  induction l with
  | nil => rfl
  | cons a l ih => simp only [List.map_cons, D.refsL, D.refs, ih, List.nil_append]
theorem strs_can (l : List ByteArray) : D.canL (l.map fun s => D.sc (.string s)) = l.map fun s => D.sc (.string s) := by
  rw [D.canL_map, List.map_map]; rfl
attribute [go_sem] strs_refs strs_can
set_option maxHeartbeats 1000000 in
theorem tell_num_none (nn rr : Int) (l : List Val) (sp must : Bool) (i : Int) (fF tF : FuncId) (fc tc : List D) (f1 : D.refsL fc = []) (f2 : fc.map D.canA = fc) (t1 : D.refsL tc = []) (t2 : tc.map D.canA = tc) (h : atS l i = none) :
    EV 74 [.ptr 0 0 0, I i, B must, U64 nn, .fn (.func fF) [] fc, .fn (.func tF) [] tc] [fRow l sp] = some (.ret (U64 nn), [fRow l (sp || must)]) := by
  refine (ev_body ⟨[], [], [], false, [], noIt⟩ [.tmp 12] rfl Tryz.func74 rfl rfl rfl (by kernel_rfl) (by show 6 ≤ 44; decide)).trans ?_
  cases must
  · simp +contextual (maxSteps := 10000000) only [↓reduceIte, go_sem, Nat.reduceEqDiff, Nat.reduceAdd, Nat.reduceSub, Nat.reduceMul, Nat.reduceLeDiff, Nat.reduceLT, Nat.reduceBEq, Nat.reduceDiv, Nat.reduceMod, Int.reduceLE, Int.reduceLT, Int.reduceEq, Int.reduceBEq, Int.reduceBNe, Int.reduceAdd, Int.reduceSub, Int.reduceNeg, Int.reduceToNat, Int.reduceMul, Int.reducePow, Nat.reducePow, reduceCtorEq, at_none l sp i h, spoil_c, Bool.or_false]
  · simp +contextual (maxSteps := 10000000) only [↓reduceIte, go_sem, Nat.reduceEqDiff, Nat.reduceAdd, Nat.reduceSub, Nat.reduceMul, Nat.reduceLeDiff, Nat.reduceLT, Nat.reduceBEq, Nat.reduceDiv, Nat.reduceMod, Int.reduceLE, Int.reduceLT, Int.reduceEq, Int.reduceBEq, Int.reduceBNe, Int.reduceAdd, Int.reduceSub, Int.reduceNeg, Int.reduceToNat, Int.reduceMul, Int.reducePow, Nat.reducePow, reduceCtorEq, at_none l sp i h, spoil_c, Bool.or_true]
set_option maxHeartbeats 1000000 in
theorem tell_num_bad (nn rr : Int) (l : List Val) (sp must : Bool) (i : Int) (fF tF : FuncId) (fc tc : List D) (f1 : D.refsL fc = []) (f2 : fc.map D.canA = fc) (t1 : D.refsL tc = []) (t2 : tc.map D.canA = tc) (x : Val) (h : atS l i = some x) (hf : EV fF (x.d :: fc) [] = some (.ret (B false), [])) :
    EV 74 [.ptr 0 0 0, I i, B must, U64 nn, .fn (.func fF) [] fc, .fn (.func tF) [] tc] [fRow l sp] = some (.ret (U64 nn), [fRow l true]) := by
  refine (ev_body ⟨[], [], [], false, [], noIt⟩ [.tmp 12] rfl Tryz.func74 rfl rfl rfl (by kernel_rfl) (by show 6 ≤ 44; decide)).trans ?_
  simp +contextual (maxSteps := 10000000) only [↓reduceIte, go_sem, Nat.reduceEqDiff, Nat.reduceAdd, Nat.reduceSub, Nat.reduceMul, Nat.reduceLeDiff, Nat.reduceLT, Nat.reduceBEq, Nat.reduceDiv, Nat.reduceMod, Int.reduceLE, Int.reduceLT, Int.reduceEq, Int.reduceBEq, Int.reduceBNe, Int.reduceAdd, Int.reduceSub, Int.reduceNeg, Int.reduceToNat, Int.reduceMul, Int.reducePow, Nat.reducePow, reduceCtorEq, at_some l sp i x h, f1, f2, t1, t2, hf, spoil_c, List.cons_append]
set_option maxHeartbeats 1000000 in
theorem tell_num_ok (nn rr : Int) (l : List Val) (sp must : Bool) (i : Int) (fF tF : FuncId) (fc tc : List D) (f1 : D.refsL fc = []) (f2 : fc.map D.canA = fc) (t1 : D.refsL tc = []) (t2 : tc.map D.canA = tc) (x : Val) (h : atS l i = some x) (hf : EV fF (x.d :: fc) [] = some (.ret (B true), [])) (ht : EV tF (x.d :: tc) [] = some (.ret (U64 rr), [])) :
    EV 74 [.ptr 0 0 0, I i, B must, U64 nn, .fn (.func fF) [] fc, .fn (.func tF) [] tc] [fRow l sp] = some (.ret (U64 rr), [fRow l sp]) := by
  refine (ev_body ⟨[], [], [], false, [], noIt⟩ [.tmp 12] rfl Tryz.func74 rfl rfl rfl (by kernel_rfl) (by show 6 ≤ 44; decide)).trans ?_
  simp +contextual (maxSteps := 10000000) only [↓reduceIte, go_sem, Nat.reduceEqDiff, Nat.reduceAdd, Nat.reduceSub, Nat.reduceMul, Nat.reduceLeDiff, Nat.reduceLT, Nat.reduceBEq, Nat.reduceDiv, Nat.reduceMod, Int.reduceLE, Int.reduceLT, Int.reduceEq, Int.reduceBEq, Int.reduceBNe, Int.reduceAdd, Int.reduceSub, Int.reduceNeg, Int.reduceToNat, Int.reduceMul, Int.reducePow, Nat.reducePow, reduceCtorEq, at_some l sp i x h, f1, f2, t1, t2, hf, ht, spoil_c, List.cons_append]
set_option maxHeartbeats 1000000 in
theorem tell_txt_none (nn rr : ByteArray) (l : List Val) (sp must : Bool) (i : Int) (fF tF : FuncId) (fc tc : List D) (f1 : D.refsL fc = []) (f2 : fc.map D.canA = fc) (t1 : D.refsL tc = []) (t2 : tc.map D.canA = tc) (h : atS l i = none) :
    EV 46 [.ptr 0 0 0, I i, B must, Sx nn, .fn (.func fF) [] fc, .fn (.func tF) [] tc] [fRow l sp] = some (.ret (Sx nn), [fRow l (sp || must)]) := by
  refine (ev_body ⟨[], [], [], false, [], noIt⟩ [.tmp 12] rfl Tryz.func46 rfl rfl rfl (by kernel_rfl) (by show 6 ≤ 44; decide)).trans ?_
  cases must
  · simp +contextual (maxSteps := 10000000) only [↓reduceIte, go_sem, Nat.reduceEqDiff, Nat.reduceAdd, Nat.reduceSub, Nat.reduceMul, Nat.reduceLeDiff, Nat.reduceLT, Nat.reduceBEq, Nat.reduceDiv, Nat.reduceMod, Int.reduceLE, Int.reduceLT, Int.reduceEq, Int.reduceBEq, Int.reduceBNe, Int.reduceAdd, Int.reduceSub, Int.reduceNeg, Int.reduceToNat, Int.reduceMul, Int.reducePow, Nat.reducePow, reduceCtorEq, at_none l sp i h, spoil_c, Bool.or_false]
  · simp +contextual (maxSteps := 10000000) only [↓reduceIte, go_sem, Nat.reduceEqDiff, Nat.reduceAdd, Nat.reduceSub, Nat.reduceMul, Nat.reduceLeDiff, Nat.reduceLT, Nat.reduceBEq, Nat.reduceDiv, Nat.reduceMod, Int.reduceLE, Int.reduceLT, Int.reduceEq, Int.reduceBEq, Int.reduceBNe, Int.reduceAdd, Int.reduceSub, Int.reduceNeg, Int.reduceToNat, Int.reduceMul, Int.reducePow, Nat.reducePow, reduceCtorEq, at_none l sp i h, spoil_c, Bool.or_true]
set_option maxHeartbeats 1000000 in
theorem tell_txt_bad (nn rr : ByteArray) (l : List Val) (sp must : Bool) (i : Int) (fF tF : FuncId) (fc tc : List D) (f1 : D.refsL fc = []) (f2 : fc.map D.canA = fc) (t1 : D.refsL tc = []) (t2 : tc.map D.canA = tc) (x : Val) (h : atS l i = some x) (hf : EV fF (x.d :: fc) [] = some (.ret (B false), [])) :
    EV 46 [.ptr 0 0 0, I i, B must, Sx nn, .fn (.func fF) [] fc, .fn (.func tF) [] tc] [fRow l sp] = some (.ret (Sx nn), [fRow l true]) := by
  refine (ev_body ⟨[], [], [], false, [], noIt⟩ [.tmp 12] rfl Tryz.func46 rfl rfl rfl (by kernel_rfl) (by show 6 ≤ 44; decide)).trans ?_
  simp +contextual (maxSteps := 10000000) only [↓reduceIte, go_sem, Nat.reduceEqDiff, Nat.reduceAdd, Nat.reduceSub, Nat.reduceMul, Nat.reduceLeDiff, Nat.reduceLT, Nat.reduceBEq, Nat.reduceDiv, Nat.reduceMod, Int.reduceLE, Int.reduceLT, Int.reduceEq, Int.reduceBEq, Int.reduceBNe, Int.reduceAdd, Int.reduceSub, Int.reduceNeg, Int.reduceToNat, Int.reduceMul, Int.reducePow, Nat.reducePow, reduceCtorEq, at_some l sp i x h, f1, f2, t1, t2, hf, spoil_c, List.cons_append]
set_option maxHeartbeats 1000000 in
theorem tell_txt_ok (nn rr : ByteArray) (l : List Val) (sp must : Bool) (i : Int) (fF tF : FuncId) (fc tc : List D) (f1 : D.refsL fc = []) (f2 : fc.map D.canA = fc) (t1 : D.refsL tc = []) (t2 : tc.map D.canA = tc) (x : Val) (h : atS l i = some x) (hf : EV fF (x.d :: fc) [] = some (.ret (B true), [])) (ht : EV tF (x.d :: tc) [] = some (.ret (Sx rr), [])) :
    EV 46 [.ptr 0 0 0, I i, B must, Sx nn, .fn (.func fF) [] fc, .fn (.func tF) [] tc] [fRow l sp] = some (.ret (Sx rr), [fRow l sp]) := by
  refine (ev_body ⟨[], [], [], false, [], noIt⟩ [.tmp 12] rfl Tryz.func46 rfl rfl rfl (by kernel_rfl) (by show 6 ≤ 44; decide)).trans ?_
  simp +contextual (maxSteps := 10000000) only [↓reduceIte, go_sem, Nat.reduceEqDiff, Nat.reduceAdd, Nat.reduceSub, Nat.reduceMul, Nat.reduceLeDiff, Nat.reduceLT, Nat.reduceBEq, Nat.reduceDiv, Nat.reduceMod, Int.reduceLE, Int.reduceLT, Int.reduceEq, Int.reduceBEq, Int.reduceBNe, Int.reduceAdd, Int.reduceSub, Int.reduceNeg, Int.reduceToNat, Int.reduceMul, Int.reducePow, Nat.reducePow, reduceCtorEq, at_some l sp i x h, f1, f2, t1, t2, hf, ht, spoil_c, List.cons_append]
set_option maxHeartbeats 1000000 in
theorem tell_val_none (nn rr : Val) (l : List Val) (sp must : Bool) (i : Int) (fF tF : FuncId) (fc tc : List D) (f1 : D.refsL fc = []) (f2 : fc.map D.canA = fc) (t1 : D.refsL tc = []) (t2 : tc.map D.canA = tc) (h : atS l i = none) :
    EV 50 [.ptr 0 0 0, I i, B must, nn.d, .fn (.func fF) [] fc, .fn (.func tF) [] tc] [fRow l sp] = some (.ret (nn.d), [fRow l (sp || must)]) := by
  refine (ev_body ⟨[9], [], [], true, [], noIt⟩ [.cell 12 25] rfl Tryz.func50 rfl rfl rfl (by kernel_rfl) (by show 6 ≤ 44; decide)).trans ?_
  cases must
  · simp +contextual (maxSteps := 10000000) only [↓reduceIte, go_sem, Nat.reduceEqDiff, Nat.reduceAdd, Nat.reduceSub, Nat.reduceMul, Nat.reduceLeDiff, Nat.reduceLT, Nat.reduceBEq, Nat.reduceDiv, Nat.reduceMod, Int.reduceLE, Int.reduceLT, Int.reduceEq, Int.reduceBEq, Int.reduceBNe, Int.reduceAdd, Int.reduceSub, Int.reduceNeg, Int.reduceToNat, Int.reduceMul, Int.reducePow, Nat.reducePow, reduceCtorEq, at_none l sp i h, spoil_c, Bool.or_false]
  · simp +contextual (maxSteps := 10000000) only [↓reduceIte, go_sem, Nat.reduceEqDiff, Nat.reduceAdd, Nat.reduceSub, Nat.reduceMul, Nat.reduceLeDiff, Nat.reduceLT, Nat.reduceBEq, Nat.reduceDiv, Nat.reduceMod, Int.reduceLE, Int.reduceLT, Int.reduceEq, Int.reduceBEq, Int.reduceBNe, Int.reduceAdd, Int.reduceSub, Int.reduceNeg, Int.reduceToNat, Int.reduceMul, Int.reducePow, Nat.reducePow, reduceCtorEq, at_none l sp i h, spoil_c, Bool.or_true]
set_option maxHeartbeats 1000000 in
theorem tell_val_bad (nn rr : Val) (l : List Val) (sp must : Bool) (i : Int) (fF tF : FuncId) (fc tc : List D) (f1 : D.refsL fc = []) (f2 : fc.map D.canA = fc) (t1 : D.refsL tc = []) (t2 : tc.map D.canA = tc) (x : Val) (h : atS l i = some x) (hf : EV fF (x.d :: fc) [] = some (.ret (B false), [])) :
    EV 50 [.ptr 0 0 0, I i, B must, nn.d, .fn (.func fF) [] fc, .fn (.func tF) [] tc] [fRow l sp] = some (.ret (nn.d), [fRow l true]) := by
  refine (ev_body ⟨[9], [], [], true, [], noIt⟩ [.cell 12 25] rfl Tryz.func50 rfl rfl rfl (by kernel_rfl) (by show 6 ≤ 44; decide)).trans ?_
  simp +contextual (maxSteps := 10000000) only [↓reduceIte, go_sem, Nat.reduceEqDiff, Nat.reduceAdd, Nat.reduceSub, Nat.reduceMul, Nat.reduceLeDiff, Nat.reduceLT, Nat.reduceBEq, Nat.reduceDiv, Nat.reduceMod, Int.reduceLE, Int.reduceLT, Int.reduceEq, Int.reduceBEq, Int.reduceBNe, Int.reduceAdd, Int.reduceSub, Int.reduceNeg, Int.reduceToNat, Int.reduceMul, Int.reducePow, Nat.reducePow, reduceCtorEq, at_some l sp i x h, f1, f2, t1, t2, hf, spoil_c, List.cons_append]
set_option maxHeartbeats 1000000 in
theorem tell_val_ok (nn rr : Val) (l : List Val) (sp must : Bool) (i : Int) (fF tF : FuncId) (fc tc : List D) (f1 : D.refsL fc = []) (f2 : fc.map D.canA = fc) (t1 : D.refsL tc = []) (t2 : tc.map D.canA = tc) (x : Val) (h : atS l i = some x) (hf : EV fF (x.d :: fc) [] = some (.ret (B true), [])) (ht : EV tF (x.d :: tc) [] = some (.ret (rr.d), [])) :
    EV 50 [.ptr 0 0 0, I i, B must, nn.d, .fn (.func fF) [] fc, .fn (.func tF) [] tc] [fRow l sp] = some (.ret (rr.d), [fRow l sp]) := by
  refine (ev_body ⟨[9], [], [], true, [], noIt⟩ [.cell 12 25] rfl Tryz.func50 rfl rfl rfl (by kernel_rfl) (by show 6 ≤ 44; decide)).trans ?_
  simp +contextual (maxSteps := 10000000) only [↓reduceIte, go_sem, Nat.reduceEqDiff, Nat.reduceAdd, Nat.reduceSub, Nat.reduceMul, Nat.reduceLeDiff, Nat.reduceLT, Nat.reduceBEq, Nat.reduceDiv, Nat.reduceMod, Int.reduceLE, Int.reduceLT, Int.reduceEq, Int.reduceBEq, Int.reduceBNe, Int.reduceAdd, Int.reduceSub, Int.reduceNeg, Int.reduceToNat, Int.reduceMul, Int.reducePow, Nat.reducePow, reduceCtorEq, at_some l sp i x h, f1, f2, t1, t2, hf, ht, spoil_c, List.cons_append]
end Go.Bw.R1

namespace Go.Bw.R1
set_option maxRecDepth 5000
open Go Go.Bw Go.Proofs
/-- the number of a kind at a place, and whether that spoils -/
def numS' (l : List Val) (i kind : Int) (must : Bool) (none : Int) : Int × Bool := match atS l i with
  | .none => (none, must)
  | some x => if x.kind = kind then (x.num, false) else (none, true)
def txtS (l : List Val) (i kind : Int) (must : Bool) : ByteArray × Bool := match atS l i with
  | .none => (⟨#[]⟩, must)
  | some x => if x.kind = kind then (x.text, false) else (⟨#[]⟩, true)
def valS (l : List Val) (i : Int) (ks : List Int) : Val × Bool := match atS l i with
  | .none => (vN, false)
  | some x => if ks = [] ∨ x.kind ∈ ks then (x, false) else (vN, true)
def symS (l : List Val) (i : Int) : List ByteArray × Bool := match atS l i with
  | .none => ([], false)
  | some x => if x.kind = 21 then ([x.text], false) else if x.kind = 24 ∧ (x.kids.all fun k => k.kind == 21) = true then (x.kids.map Val.text, false) else ([], true)
theorem num1_c (v : Val) : EV 75 [v.d] [] = some (.ret (U64 v.num), []) := by
  refine (ev_body ⟨[1], [], [], false, [], noIt⟩ [.tmp 2] rfl Tryz.func75 rfl rfl rfl (by kernel_rfl) (by show 1 ≤ 5; decide)).trans ?_
  simp +contextual (maxSteps := 10000000) only [↓reduceIte, go_sem, Nat.reduceEqDiff, Nat.reduceAdd, Nat.reduceSub, Nat.reduceMul, Nat.reduceLeDiff, Nat.reduceLT, Nat.reduceBEq, Nat.reduceDiv, Nat.reduceMod, Int.reduceLE, Int.reduceLT, Int.reduceEq, Int.reduceBEq, Int.reduceBNe, Int.reduceAdd, Int.reduceSub, Int.reduceNeg, Int.reduceToNat, Int.reduceMul, Int.reducePow, Nat.reducePow, reduceCtorEq]
theorem txt1_c (v : Val) : EV 48 [v.d] [] = some (.ret (Sx v.text), []) := by
  refine (ev_body ⟨[1], [], [], false, [], noIt⟩ [.tmp 2] rfl Tryz.func48 rfl rfl rfl (by kernel_rfl) (by show 1 ≤ 5; decide)).trans ?_
  simp +contextual (maxSteps := 10000000) only [↓reduceIte, go_sem, Nat.reduceEqDiff, Nat.reduceAdd, Nat.reduceSub, Nat.reduceMul, Nat.reduceLeDiff, Nat.reduceLT, Nat.reduceBEq, Nat.reduceDiv, Nat.reduceMod, Int.reduceLE, Int.reduceLT, Int.reduceEq, Int.reduceBEq, Int.reduceBNe, Int.reduceAdd, Int.reduceSub, Int.reduceNeg, Int.reduceToNat, Int.reduceMul, Int.reducePow, Nat.reducePow, reduceCtorEq]
theorem val1_c (v : Val) : EV 49 [v.d] [] = some (.ret (B true), []) := by
  refine (ev_body ⟨[1], [], [], false, [], noIt⟩ [.tmp 2] rfl Tryz.func49 rfl rfl rfl (by kernel_rfl) (by show 1 ≤ 3; decide)).trans ?_
  simp +contextual (maxSteps := 10000000) only [↓reduceIte, go_sem, Nat.reduceEqDiff, Nat.reduceAdd, Nat.reduceSub, Nat.reduceMul, Nat.reduceLeDiff, Nat.reduceLT, Nat.reduceBEq, Nat.reduceDiv, Nat.reduceMod, Int.reduceLE, Int.reduceLT, Int.reduceEq, Int.reduceBEq, Int.reduceBNe, Int.reduceAdd, Int.reduceSub, Int.reduceNeg, Int.reduceToNat, Int.reduceMul, Int.reducePow, Nat.reducePow, reduceCtorEq]
theorem of_one (k : Int) : EV 47 [.ro false [U8 k]] [] = some (.ret (.fn (.func 69) [] [.rp [.ro false [U8 k]]]), []) := of_c [k]
theorem of1_one (k : Int) (v : Val) {b : Bool} (h : decide (v.kind = k) = b) : EV 69 [v.d, .rp [.ro false [U8 k]]] [] = some (.ret (B b), []) := by
  have := of1_c [k] v (by simp)
  simp only [List.mem_singleton, h] at this
  exact this
theorem of_nil : EV 47 [.ro false []] [] = some (.ret (.fn (.func 69) [] [.rp [.ro false []]]), []) := of_c []
theorem number_f (l : List Val) (sp : Bool) (i kind : Int) (must : Bool) (none : Int) : EV 55 [.ptr 0 0 0, I i, U8 kind, B must, U64 none] [fRow l sp] = some (.ret (U64 (numS' l i kind must none).1), [fRow l (sp || (numS' l i kind must none).2)]) := by
  refine (ev_body ⟨[], [], [], false, [], noIt⟩ [.tmp 10] rfl Tryz.func55 rfl rfl rfl (by kernel_rfl) (by show 5 ≤ 19; decide)).trans ?_
  unfold numS'
  cases h : atS l i with
  | none =>
    have ht := tell_num_none none none l sp must i 69 75 [.rp [.ro false [U8 kind]]] [] rfl rfl rfl rfl h
    simp +contextual (maxSteps := 10000000) only [↓reduceIte, go_sem, Nat.reduceEqDiff, Nat.reduceAdd, Nat.reduceSub, Nat.reduceMul, Nat.reduceLeDiff, Nat.reduceLT, Nat.reduceBEq, Nat.reduceDiv, Nat.reduceMod, Int.reduceLE, Int.reduceLT, Int.reduceEq, Int.reduceBEq, Int.reduceBNe, Int.reduceAdd, Int.reduceSub, Int.reduceNeg, Int.reduceToNat, Int.reduceMul, Int.reducePow, Nat.reducePow, reduceCtorEq, of_one, ht]
  | some x =>
    by_cases hk : x.kind = kind
    · have ht := tell_num_ok none x.num l sp must i 69 75 [.rp [.ro false [U8 kind]]] [] rfl rfl rfl rfl x h (of1_one kind x (by simpa using hk)) (num1_c x)
      simp +contextual (maxSteps := 10000000) only [↓reduceIte, go_sem, Nat.reduceEqDiff, Nat.reduceAdd, Nat.reduceSub, Nat.reduceMul, Nat.reduceLeDiff, Nat.reduceLT, Nat.reduceBEq, Nat.reduceDiv, Nat.reduceMod, Int.reduceLE, Int.reduceLT, Int.reduceEq, Int.reduceBEq, Int.reduceBNe, Int.reduceAdd, Int.reduceSub, Int.reduceNeg, Int.reduceToNat, Int.reduceMul, Int.reducePow, Nat.reducePow, reduceCtorEq, of_one, ht, hk, Bool.or_false]
    · have ht := tell_num_bad none none l sp must i 69 75 [.rp [.ro false [U8 kind]]] [] rfl rfl rfl rfl x h (of1_one kind x (by simpa using hk))
      simp +contextual (maxSteps := 10000000) only [↓reduceIte, go_sem, Nat.reduceEqDiff, Nat.reduceAdd, Nat.reduceSub, Nat.reduceMul, Nat.reduceLeDiff, Nat.reduceLT, Nat.reduceBEq, Nat.reduceDiv, Nat.reduceMod, Int.reduceLE, Int.reduceLT, Int.reduceEq, Int.reduceBEq, Int.reduceBNe, Int.reduceAdd, Int.reduceSub, Int.reduceNeg, Int.reduceToNat, Int.reduceMul, Int.reducePow, Nat.reducePow, reduceCtorEq, of_one, ht, hk, Bool.or_true]
theorem text_f (l : List Val) (sp : Bool) (i kind : Int) (must : Bool) : EV 27 [.ptr 0 0 0, I i, U8 kind, B must] [fRow l sp] = some (.ret (Sx (txtS l i kind must).1), [fRow l (sp || (txtS l i kind must).2)]) := by
  refine (ev_body ⟨[], [], [], false, [], noIt⟩ [.tmp 8] rfl Tryz.func27 rfl rfl rfl (by kernel_rfl) (by show 4 ≤ 16; decide)).trans ?_
  unfold txtS
  cases h : atS l i with
  | none =>
    have ht := tell_txt_none ⟨#[]⟩ ⟨#[]⟩ l sp must i 69 48 [.rp [.ro false [U8 kind]]] [] rfl rfl rfl rfl h
    simp +contextual (maxSteps := 10000000) only [↓reduceIte, go_sem, Nat.reduceEqDiff, Nat.reduceAdd, Nat.reduceSub, Nat.reduceMul, Nat.reduceLeDiff, Nat.reduceLT, Nat.reduceBEq, Nat.reduceDiv, Nat.reduceMod, Int.reduceLE, Int.reduceLT, Int.reduceEq, Int.reduceBEq, Int.reduceBNe, Int.reduceAdd, Int.reduceSub, Int.reduceNeg, Int.reduceToNat, Int.reduceMul, Int.reducePow, Nat.reducePow, reduceCtorEq, of_one, ht]
  | some x =>
    by_cases hk : x.kind = kind
    · have ht := tell_txt_ok ⟨#[]⟩ x.text l sp must i 69 48 [.rp [.ro false [U8 kind]]] [] rfl rfl rfl rfl x h (of1_one kind x (by simpa using hk)) (txt1_c x)
      simp +contextual (maxSteps := 10000000) only [↓reduceIte, go_sem, Nat.reduceEqDiff, Nat.reduceAdd, Nat.reduceSub, Nat.reduceMul, Nat.reduceLeDiff, Nat.reduceLT, Nat.reduceBEq, Nat.reduceDiv, Nat.reduceMod, Int.reduceLE, Int.reduceLT, Int.reduceEq, Int.reduceBEq, Int.reduceBNe, Int.reduceAdd, Int.reduceSub, Int.reduceNeg, Int.reduceToNat, Int.reduceMul, Int.reducePow, Nat.reducePow, reduceCtorEq, of_one, ht, hk, Bool.or_false]
    · have ht := tell_txt_bad ⟨#[]⟩ ⟨#[]⟩ l sp must i 69 48 [.rp [.ro false [U8 kind]]] [] rfl rfl rfl rfl x h (of1_one kind x (by simpa using hk))
      simp +contextual (maxSteps := 10000000) only [↓reduceIte, go_sem, Nat.reduceEqDiff, Nat.reduceAdd, Nat.reduceSub, Nat.reduceMul, Nat.reduceLeDiff, Nat.reduceLT, Nat.reduceBEq, Nat.reduceDiv, Nat.reduceMod, Int.reduceLE, Int.reduceLT, Int.reduceEq, Int.reduceBEq, Int.reduceBNe, Int.reduceAdd, Int.reduceSub, Int.reduceNeg, Int.reduceToNat, Int.reduceMul, Int.reducePow, Nat.reducePow, reduceCtorEq, of_one, ht, hk, Bool.or_true]
theorem value_f (l : List Val) (hl : Val.szL l ≤ 4000000) (sp : Bool) (i : Int) (ks : List Int) (hks : ks.length ≤ 4000000) : EV 28 [.ptr 0 0 0, I i, .ro false (u8L ks)] [fRow l sp] = some (.ret (valS l i ks).1.d, [fRow l (sp || (valS l i ks).2)]) := by
  refine (ev_body ⟨[], [], [], true, [], noIt⟩ [.cell 6 25] rfl Tryz.func28 rfl rfl rfl (by kernel_rfl) (by show 3 ≤ 18; decide)).trans ?_
  unfold valS
  cases hk : ks with
  | nil =>
    cases h : atS l i with
    | none =>
      have ht := tell_val_none vN vN l sp false i 49 45 [] [] rfl rfl rfl rfl h
      simp +contextual (maxSteps := 10000000) only [↓reduceIte, go_sem, Nat.reduceEqDiff, Nat.reduceAdd, Nat.reduceSub, Nat.reduceMul, Nat.reduceLeDiff, Nat.reduceLT, Nat.reduceBEq, Nat.reduceDiv, Nat.reduceMod, Int.reduceLE, Int.reduceLT, Int.reduceEq, Int.reduceBEq, Int.reduceBNe, Int.reduceAdd, Int.reduceSub, Int.reduceNeg, Int.reduceToNat, Int.reduceMul, Int.reducePow, Nat.reducePow, reduceCtorEq, of_nil, ht, null_c]
    | some x =>
      have hx := szL_mem (atS_len h).2.2.1
      have ht := tell_val_ok vN x l sp false i 49 45 [] [] rfl rfl rfl rfl x h (val1_c x) (copy_c _ x (Nat.le_refl _) (by omega))
      simp +contextual (maxSteps := 10000000) only [↓reduceIte, go_sem, Nat.reduceEqDiff, Nat.reduceAdd, Nat.reduceSub, Nat.reduceMul, Nat.reduceLeDiff, Nat.reduceLT, Nat.reduceBEq, Nat.reduceDiv, Nat.reduceMod, Int.reduceLE, Int.reduceLT, Int.reduceEq, Int.reduceBEq, Int.reduceBNe, Int.reduceAdd, Int.reduceSub, Int.reduceNeg, Int.reduceToNat, Int.reduceMul, Int.reducePow, Nat.reducePow, reduceCtorEq, of_nil, ht, null_c, true_or, if_true, Bool.or_false]
  | cons k r =>
    rw [← hk]
    have hne : ks ≠ [] := by rw [hk]; simp
    have hl0 : ((ks.length : Int) == 0) = false := by rw [hk]; simp; omega
    cases h : atS l i with
    | none =>
      have ht := tell_val_none vN vN l sp false i 69 45 [.rp [.ro false (u8L ks)]] [] (by simp only [D.refsL, D.refs, u8L_refs, List.append_nil]) (by simp only [List.map_cons, List.map_nil, D.canA, D.can, D.canL, u8L_can]) rfl rfl h
      simp +contextual (maxSteps := 10000000) only [↓reduceIte, go_sem, Nat.reduceEqDiff, Nat.reduceAdd, Nat.reduceSub, Nat.reduceMul, Nat.reduceLeDiff, Nat.reduceLT, Nat.reduceBEq, Nat.reduceDiv, Nat.reduceMod, Int.reduceLE, Int.reduceLT, Int.reduceEq, Int.reduceBEq, Int.reduceBNe, Int.reduceAdd, Int.reduceSub, Int.reduceNeg, Int.reduceToNat, Int.reduceMul, Int.reducePow, Nat.reducePow, reduceCtorEq, of_c ks, hl0, ht, null_c]
    | some x =>
      have hx := szL_mem (atS_len h).2.2.1
      by_cases hm : x.kind ∈ ks
      · have ho := of1_c ks x hks
        rw [decide_eq_true hm] at ho
        have ht := tell_val_ok vN x l sp false i 69 45 [.rp [.ro false (u8L ks)]] [] (by simp only [D.refsL, D.refs, u8L_refs, List.append_nil]) (by simp only [List.map_cons, List.map_nil, D.canA, D.can, D.canL, u8L_can]) rfl rfl x h ho (copy_c _ x (Nat.le_refl _) (by omega))
        simp +contextual (maxSteps := 10000000) only [↓reduceIte, go_sem, Nat.reduceEqDiff, Nat.reduceAdd, Nat.reduceSub, Nat.reduceMul, Nat.reduceLeDiff, Nat.reduceLT, Nat.reduceBEq, Nat.reduceDiv, Nat.reduceMod, Int.reduceLE, Int.reduceLT, Int.reduceEq, Int.reduceBEq, Int.reduceBNe, Int.reduceAdd, Int.reduceSub, Int.reduceNeg, Int.reduceToNat, Int.reduceMul, Int.reducePow, Nat.reducePow, reduceCtorEq, of_c ks, hl0, ht, null_c, hm, or_true, if_true, Bool.or_false]
      · have ho := of1_c ks x hks
        rw [decide_eq_false hm] at ho
        have ht := tell_val_bad vN vN l sp false i 69 45 [.rp [.ro false (u8L ks)]] [] (by simp only [D.refsL, D.refs, u8L_refs, List.append_nil]) (by simp only [List.map_cons, List.map_nil, D.canA, D.can, D.canL, u8L_can]) rfl rfl x h ho
        simp +contextual (maxSteps := 10000000) only [↓reduceIte, go_sem, Nat.reduceEqDiff, Nat.reduceAdd, Nat.reduceSub, Nat.reduceMul, Nat.reduceLeDiff, Nat.reduceLT, Nat.reduceBEq, Nat.reduceDiv, Nat.reduceMod, Int.reduceLE, Int.reduceLT, Int.reduceEq, Int.reduceBEq, Int.reduceBNe, Int.reduceAdd, Int.reduceSub, Int.reduceNeg, Int.reduceToNat, Int.reduceMul, Int.reducePow, Nat.reducePow, reduceCtorEq, of_c ks, hl0, ht, null_c, hm, hne, or_self, if_false, Bool.or_true]
end Go.Bw.R1

namespace Go.Bw.R1
set_option maxRecDepth 5000
open Go Go.Bw Go.Proofs
set_option maxHeartbeats 1000000 in
theorem gen_idx (F : FuncId) (fc : List D) (f1 : D.refsL fc = []) (f2 : fc.map D.canA = fc) (f3 : D.canL fc = fc) (p : Val → Bool) (l : List Val) (hl : l.length ≤ 4000000) (hp : ∀ x ∈ l, EV F (x.d :: fc) [] = some (.ret (B (p x)), [])) : EV 89 [.ro false (l.map Val.d), .fn (.func F) [] fc] [] = some (.ret (I (idxS p l 0)), []) := by
  refine (ev_body ⟨[], [(0, [0, 1, 7, 8])], [], false, [], noIt⟩ [.tmp 4] rfl Tryz.func89 rfl rfl rfl (by kernel_rfl) (by show 2 ≤ 19; decide)).trans ?_
  simp +contextual (maxSteps := 10000000) only [↓reduceIte, go_sem, Nat.reduceEqDiff, Nat.reduceAdd, Nat.reduceSub, Nat.reduceMul, Nat.reduceLeDiff, Nat.reduceLT, Nat.reduceBEq, Nat.reduceDiv, Nat.reduceMod, Int.reduceLE, Int.reduceLT, Int.reduceEq, Int.reduceBEq, Int.reduceBNe, Int.reduceAdd, Int.reduceSub, Int.reduceNeg, Int.reduceToNat, Int.reduceMul, Int.reducePow, Nat.reducePow, reduceCtorEq, f1, f2]
  refine lpK_inv (fun m0 f es => ∃ (i : Nat), i + m0 = l.length ∧ idxS p l 0 = idxS p (l.drop i) i ∧ f = [(0, .ro false (l.map Val.d)), (1, .fn (.func F) [] fc), (7, I l.length), (8, I i)] ∧ es = []) l.length ⟨0, Nat.zero_add _, rfl, rfl, rfl⟩ ?_
  rintro m0 _ _ ⟨i, hi, hsm, rfl, rfl⟩ ih
  rcases Nat.lt_or_ge i l.length with hlt | hge
  · obtain ⟨x, hx⟩ := get_lt hlt
    have hlt' : decide ((i : Int) < l.length) = true := by simpa using hlt
    have hlt2 : (i : Int) < l.length := by omega
    have hpx := hp x (List.mem_of_getElem? hx)
    simp +contextual (maxSteps := 10000000) only [↓reduceIte, go_sem, Nat.reduceEqDiff, Nat.reduceAdd, Nat.reduceSub, Nat.reduceMul, Nat.reduceLeDiff, Nat.reduceLT, Nat.reduceBEq, Nat.reduceDiv, Nat.reduceMod, Int.reduceLE, Int.reduceLT, Int.reduceEq, Int.reduceBEq, Int.reduceBNe, Int.reduceAdd, Int.reduceSub, Int.reduceNeg, Int.reduceToNat, Int.reduceMul, Int.reducePow, Nat.reducePow, reduceCtorEq, f1, f2, List.cons_append, hx, hpx, hlt', hlt2, wrap_i64 (n := (i : Int) + 1) (by omega) (by omega)]
    rw [hsm, idxS_drop hx]
    refine ite_intro (fun h => ?_) (fun h => ?_)
    · rw [if_pos h]
    · rw [if_neg h]
      have hsm' : idxS p l 0 = idxS p (l.drop (i + 1)) (i + 1) := by rw [hsm, idxS_drop hx, if_neg h]
      rw [← hsm']
      exact ih (m0 - 1) _ _ (by omega) ⟨i + 1, by omega, hsm', by simp only [Int.natCast_add, Int.cast_ofNat_Int], rfl⟩
  · have hlt' : decide ((i : Int) < l.length) = false := by simpa using hge
    simp +contextual (maxSteps := 10000000) only [↓reduceIte, go_sem, Nat.reduceEqDiff, Nat.reduceAdd, Nat.reduceSub, Nat.reduceMul, Nat.reduceLeDiff, Nat.reduceLT, Nat.reduceBEq, Nat.reduceDiv, Nat.reduceMod, Int.reduceLE, Int.reduceLT, Int.reduceEq, Int.reduceBEq, Int.reduceBNe, Int.reduceAdd, Int.reduceSub, Int.reduceNeg, Int.reduceToNat, Int.reduceMul, Int.reducePow, Nat.reducePow, reduceCtorEq, hlt']
    rw [hsm, List.drop_eq_nil_of_le hge]; rfl
theorem gen_has (F : FuncId) (fc : List D) (f1 : D.refsL fc = []) (f2 : fc.map D.canA = fc) (f3 : D.canL fc = fc) (p : Val → Bool) (l : List Val) (hl : l.length ≤ 4000000) (hp : ∀ x ∈ l, EV F (x.d :: fc) [] = some (.ret (B (p x)), [])) : EV 80 [.ro false (l.map Val.d), .fn (.func F) [] fc] [] = some (.ret (B (l.any p)), []) := by
  refine (ev_body ⟨[], [], [], false, [], noIt⟩ [.tmp 4] rfl Tryz.func80 rfl rfl rfl (by kernel_rfl) (by show 2 ≤ 9; decide)).trans ?_
  simp +contextual (maxSteps := 10000000) only [↓reduceIte, go_sem, Nat.reduceEqDiff, Nat.reduceAdd, Nat.reduceSub, Nat.reduceMul, Nat.reduceLeDiff, Nat.reduceLT, Nat.reduceBEq, Nat.reduceDiv, Nat.reduceMod, Int.reduceLE, Int.reduceLT, Int.reduceEq, Int.reduceBEq, Int.reduceBNe, Int.reduceAdd, Int.reduceSub, Int.reduceNeg, Int.reduceToNat, Int.reduceMul, Int.reducePow, Nat.reducePow, reduceCtorEq, f1, f2, f3, gen_idx F fc f1 f2 f3 p l hl hp, idxS_ge]
end Go.Bw.R1

namespace Go.Bw.R1
set_option maxRecDepth 5000
open Go Go.Bw Go.Proofs
abbrev strL (l : List ByteArray) : List D := l.map fun s => D.sc (.string s)
/-- the fields of a value that is called so -/
def newS (v : Val) (code : Int) (name : ByteArray) : Option (List Val) :=
  if rightS v = true ∧ v.kind = 25 then match v.kids with
    | [d, x] => if x.kind = 22 ∧ calledS d code name = true then some x.kids else none
    | _ => none
  else none
theorem right_may {v : Val} (h : rightS v = true) : mayS v = true := by
  simp only [rightS, Bool.and_eq_true] at h; exact h.2
theorem newS_some {v : Val} {code : Int} {name : ByteArray} {l : List Val} (h : newS v code name = some l) : rightS v = true ∧ v.kind = 25 ∧ ∃ d x, v.kids = [d, x] ∧ x.kind = 22 ∧ calledS d code name = true ∧ l = x.kids ∧ mayL l = true := by
  unfold newS at h
  split at h
  · rename_i hh
    obtain ⟨h1, h2⟩ := hh
    obtain ⟨d, x, hk, hd, hx⟩ := may_desc (right_may h1) h2
    rw [hk] at h
    simp only at h
    split at h
    · rename_i hc
      simp only [Option.some.injEq] at h
      subst h
      rw [mayS_eq] at hx
      simp only [Bool.and_eq_true] at hx
      exact ⟨h1, h2, d, x, hk, hc.1, hc.2, rfl, hx.1.2⟩
    · cases h
  · cases h
theorem fd_val (v : Val) : fdD Tryz.prog 25 3 v.d = some (.ro false (v.kids.map Val.d)) := by
  cases v; simp only [Val.d, Val.dL_map, fdD, fd25_3]; rfl
set_option maxHeartbeats 1000000 in
theorem new_some (v : Val) (hs : v.sz ≤ 4000000) (hw : v.wf) (code : Int) (name : ByteArray) (l : List Val) (h : newS v code name = some l) : EV 26 [v.d, U64 code, Sx name] [] = some (.ret (.tup [.ptr 0 0 0, I 0]), [fRow l false]) := by
  obtain ⟨h1, h2, d, x, hk, hx, hc, rfl, _⟩ := newS_some h
  obtain ⟨k, n, t, kids⟩ := v
  obtain ⟨k2, n2, t2, l2⟩ := x
  simp only [Val.kind_mk, Val.kids_mk] at h2 hk hx
  subst h2 hk hx
  have hr := right_c _ hs hw
  rw [h1] at hr
  have hz := Val.sz_eq (Val.mk 25 n t [d, Val.mk 22 n2 t2 l2])
  simp only [Val.kids_mk, Val.szL] at hz
  have hcp := copy_c _ (Val.mk 22 n2 t2 l2) (Nat.le_refl _) (by omega)
  have hcl := fcalled_c d code name
  rw [hc] at hcl
  have fv := fd_val (Val.mk 22 n2 t2 l2)
  simp only [Val.kids_mk] at fv
  refine (ev_body ⟨[3], [], [], false, [], noIt⟩ [.tmp 6, .tmp 7] rfl Tryz.func26 rfl rfl rfl (by kernel_rfl) (by show 3 ≤ 42; decide)).trans ?_
  simp +contextual (maxSteps := 10000000) only [↓reduceIte, go_sem, Nat.reduceEqDiff, Nat.reduceAdd, Nat.reduceSub, Nat.reduceMul, Nat.reduceLeDiff, Nat.reduceLT, Nat.reduceBEq, Nat.reduceDiv, Nat.reduceMod, Int.reduceLE, Int.reduceLT, Int.reduceEq, Int.reduceBEq, Int.reduceBNe, Int.reduceAdd, Int.reduceSub, Int.reduceNeg, Int.reduceToNat, Int.reduceMul, Int.reducePow, Nat.reducePow, reduceCtorEq, hr, hcl, hcp, fv, List.map_cons, List.map_nil, List.length_cons, List.length_nil, bne_self_eq_false]
set_option maxHeartbeats 1000000 in
theorem new_none (v : Val) (hs : v.sz ≤ 4000000) (hw : v.wf) (code : Int) (name : ByteArray) (h : newS v code name = none) : EV 26 [v.d, U64 code, Sx name] [] = some (.ret (.tup [.nilp, I 6]), []) := by
  have hr := right_c v hs hw
  refine (ev_body ⟨[3], [], [], false, [], noIt⟩ [.tmp 6, .tmp 7] rfl Tryz.func26 rfl rfl rfl (by kernel_rfl) (by show 3 ≤ 42; decide)).trans ?_
  cases h1 : rightS v
  · rw [h1] at hr
    simp +contextual (maxSteps := 10000000) only [↓reduceIte, go_sem, Nat.reduceEqDiff, Nat.reduceAdd, Nat.reduceSub, Nat.reduceMul, Nat.reduceLeDiff, Nat.reduceLT, Nat.reduceBEq, Nat.reduceDiv, Nat.reduceMod, Int.reduceLE, Int.reduceLT, Int.reduceEq, Int.reduceBEq, Int.reduceBNe, Int.reduceAdd, Int.reduceSub, Int.reduceNeg, Int.reduceToNat, Int.reduceMul, Int.reducePow, Nat.reducePow, reduceCtorEq, hr]
  · rw [h1] at hr
    by_cases h2 : v.kind = 25
    · obtain ⟨d, x, hk, _, _⟩ := may_desc (right_may h1) h2
      unfold newS at h
      rw [if_pos ⟨h1, h2⟩, hk] at h
      simp only at h
      obtain ⟨k, n, t, kids⟩ := v
      simp only [Val.kind_mk, Val.kids_mk] at h2 hk
      subst h2 hk
      have hcl := fcalled_c d code name
      by_cases hx : x.kind = 22
      · cases hc : calledS d code name
        · rw [hc] at hcl
          simp +contextual (maxSteps := 10000000) only [↓reduceIte, go_sem, Nat.reduceEqDiff, Nat.reduceAdd, Nat.reduceSub, Nat.reduceMul, Nat.reduceLeDiff, Nat.reduceLT, Nat.reduceBEq, Nat.reduceDiv, Nat.reduceMod, Int.reduceLE, Int.reduceLT, Int.reduceEq, Int.reduceBEq, Int.reduceBNe, Int.reduceAdd, Int.reduceSub, Int.reduceNeg, Int.reduceToNat, Int.reduceMul, Int.reducePow, Nat.reducePow, reduceCtorEq, hr, hx, hcl, List.map_cons, List.map_nil, List.length_cons, List.length_nil, bne_self_eq_false]
        · rw [if_pos ⟨hx, hc⟩] at h; cases h
      · have e : (x.kind != 22) = true := by simpa using hx
        simp +contextual (maxSteps := 10000000) only [↓reduceIte, go_sem, Nat.reduceEqDiff, Nat.reduceAdd, Nat.reduceSub, Nat.reduceMul, Nat.reduceLeDiff, Nat.reduceLT, Nat.reduceBEq, Nat.reduceDiv, Nat.reduceMod, Int.reduceLE, Int.reduceLT, Int.reduceEq, Int.reduceBEq, Int.reduceBNe, Int.reduceAdd, Int.reduceSub, Int.reduceNeg, Int.reduceToNat, Int.reduceMul, Int.reducePow, Nat.reducePow, reduceCtorEq, hr, e, List.map_cons, List.map_nil, List.length_cons, List.length_nil, bne_self_eq_false]
    · have e : (v.kind != 25) = true := by simpa using h2
      simp +contextual (maxSteps := 10000000) only [↓reduceIte, go_sem, Nat.reduceEqDiff, Nat.reduceAdd, Nat.reduceSub, Nat.reduceMul, Nat.reduceLeDiff, Nat.reduceLT, Nat.reduceBEq, Nat.reduceDiv, Nat.reduceMod, Int.reduceLE, Int.reduceLT, Int.reduceEq, Int.reduceBEq, Int.reduceBNe, Int.reduceAdd, Int.reduceSub, Int.reduceNeg, Int.reduceToNat, Int.reduceMul, Int.reducePow, Nat.reducePow, reduceCtorEq, hr, e]
/-- without what is null at the end -/
def trimS (l : List Val) : List Val := (l.reverse.dropWhile fun v => v.kind == 1).reverse
def putS (code : Int) (l : List Val) : Val := .mk 25 0 ⟨#[]⟩ [.mk 6 code ⟨#[]⟩ [], .mk 22 0 ⟨#[]⟩ (trimS l)]
theorem trimS_take : ∀ (l : List Val) (n : Nat) (h : n ≤ l.length), (∀ i x, n ≤ i → l[i]? = some x → x.kind = 1) → trimS l = trimS (l.take n) := by
  intro l n h hx
  have e : l = l.take n ++ l.drop n := (List.take_append_drop n l).symm
  have hd : ∀ x ∈ (l.drop n).reverse, (x.kind == 1) = true := fun x hm => by
    obtain ⟨i, hi⟩ := List.getElem?_of_mem (List.mem_reverse.1 hm)
    rw [List.getElem?_drop] at hi
    simpa using hx _ _ (by omega) hi
  unfold trimS
  conv => lhs; rw [e]
  rw [List.reverse_append, List.dropWhile_append_of_pos hd]
theorem trimS_end {l : List Val} {n : Nat} {x : Val} (h : l[n]? = some x) (hk : x.kind ≠ 1) : trimS (l.take (n + 1)) = l.take (n + 1) := by
  rw [take_snoc h]
  unfold trimS
  rw [List.reverse_append]
  simp only [List.reverse_cons, List.reverse_nil, List.nil_append, List.cons_append]
  rw [List.dropWhile_cons, if_neg (by simpa using hk)]
  simp
theorem trimS_sz (l : List Val) : Val.szL (trimS l) ≤ Val.szL l := by
  obtain ⟨n, hn⟩ : ∃ n, trimS l = l.take n := by
    unfold trimS
    obtain ⟨t, ht⟩ := List.dropWhile_suffix (fun v : Val => v.kind == 1) (l := l.reverse)
    have : l = ((l.reverse.dropWhile fun v => v.kind == 1).reverse) ++ t.reverse := by
      rw [← List.reverse_append, ht, List.reverse_reverse]
    generalize (l.reverse.dropWhile fun v => v.kind == 1).reverse = a at this
    subst this
    exact ⟨a.length, by rw [List.take_left]⟩
  rw [hn]; exact szL_take l n
end Go.Bw.R1

namespace Go.Bw.R1
set_option maxRecDepth 5000
open Go Go.Bw Go.Proofs
abbrev zV : Option En := some ⟨0, [.sc (.int .u8 0), .sc (.int .u64 0), .sc (.string ⟨#[]⟩), .nils]⟩
theorem putS_sz (code : Int) (l : List Val) : (putS code l).sz ≤ Val.szL l + 3 := by
  have := trimS_sz l
  have e : (putS code l).sz = 0 + ((0 + 0 + 1) + ((0 + Val.szL (trimS l) + 1) + 0)) + 1 := by simp only [putS, Val.sz, Val.szL]; rfl
  omega
set_option maxHeartbeats 1000000 in
theorem fput_end (l : List Val) (n : Nat) (hn : n ≤ l.length) (h1 : ∀ i x, n ≤ i → l[i]? = some x → x.kind = 1) (h2 : ∀ x, 0 < n → l[n - 1]? = some x → x.kind ≠ 1) : l.take n = trimS l := by
  rw [trimS_take l n hn h1]
  cases n with
  | zero => rfl
  | succ n =>
    obtain ⟨x, hx⟩ := get_lt (l := l) (i := n) (by omega)
    exact (trimS_end hx (h2 x (by omega) (by simpa using hx))).symm
theorem rnumber_c (k n : Int) : EV 41 [.sc (.int .u8 k), .sc (.int .u64 n)] [] = some (.ret (Val.mk k n ⟨#[]⟩ []).d, []) := by
  refine (ev_body ⟨[], [], [], true, [], noIt⟩ [.cell 4 25] rfl Tryz.func41 rfl rfl rfl (by kernel_rfl) (by show 2 ≤ 8; decide)).trans ?_
  simp +contextual (maxSteps := 10000000) only [↓reduceIte, go_sem, Nat.reduceEqDiff, Nat.reduceAdd, Nat.reduceSub, Nat.reduceMul, Nat.reduceLeDiff, Nat.reduceLT, Nat.reduceBEq, Nat.reduceDiv, Nat.reduceMod, Int.reduceLE, Int.reduceLT, Int.reduceEq, Int.reduceBEq, Int.reduceBNe, Int.reduceAdd, Int.reduceSub, Int.reduceNeg, Int.reduceToNat, Int.reduceMul, Int.reducePow, Nat.reducePow, reduceCtorEq]
theorem rnull_c : EV 23 [] [] = some (.ret (Val.mk 1 0 ⟨#[]⟩ []).d, []) := by
  refine (ev_body ⟨[], [], [], true, [], noIt⟩ [.cell 0 25] rfl Tryz.func23 rfl rfl rfl (by kernel_rfl) (by show 0 ≤ 2; decide)).trans ?_
  simp +contextual (maxSteps := 10000000) only [↓reduceIte, go_sem, Nat.reduceEqDiff, Nat.reduceAdd, Nat.reduceSub, Nat.reduceMul, Nat.reduceLeDiff, Nat.reduceLT, Nat.reduceBEq, Nat.reduceDiv, Nat.reduceMod, Int.reduceLE, Int.reduceLT, Int.reduceEq, Int.reduceBEq, Int.reduceBNe, Int.reduceAdd, Int.reduceSub, Int.reduceNeg, Int.reduceToNat, Int.reduceMul, Int.reducePow, Nat.reducePow, reduceCtorEq]
set_option maxHeartbeats 2000000 in
theorem fput_c (code : Int) (l : List Val) (hl : Val.szL l ≤ 3999990) : EV 20 [U64 code, .ro false (l.map Val.d)] [] = some (.ret (putS code l).d, []) := by
  have hlen := szL_len l
  refine (ev_body ⟨[], [(0, [0, 1, 4, 5])], [(4, [(0, 0, false), (1, 0, false), (2, 0, false), (3, 0, false), (4, 0, false), (5, 0, false), (6, 0, false), (7, 0, true)])], true, [], noIt⟩ [.cell 4 25] rfl Tryz.func20 rfl rfl rfl (by kernel_rfl) (by show 2 ≤ 28; decide)).trans ?_
  simp +contextual (maxSteps := 10000000) only [↓reduceIte, go_sem, Nat.reduceEqDiff, Nat.reduceAdd, Nat.reduceSub, Nat.reduceMul, Nat.reduceLeDiff, Nat.reduceLT, Nat.reduceBEq, Nat.reduceDiv, Nat.reduceMod, Int.reduceLE, Int.reduceLT, Int.reduceEq, Int.reduceBEq, Int.reduceBNe, Int.reduceAdd, Int.reduceSub, Int.reduceNeg, Int.reduceToNat, Int.reduceMul, Int.reducePow, Nat.reducePow, reduceCtorEq]
  refine lpK_inv (fun m0 f es => ∃ (n : Nat) (j : Int), j = n ∧ m0 = n ∧ n ≤ l.length ∧ (∀ i x, n ≤ i → l[i]? = some x → x.kind = 1) ∧ f = [(0, U64 code), (1, .ro false (l.map Val.d)), (4, .ptr 0 0 0), (5, I j)] ∧ es = [zV]) l.length ⟨l.length, _, rfl, rfl, Nat.le_refl _, fun i x h1 h2 => by have := (List.getElem?_eq_some_iff.1 h2).1; omega, rfl, rfl⟩ ?_
  rintro m0 _ _ ⟨n, j, hj, hm, hn, hz, rfl, rfl⟩ ih
  have fin : (∀ x, 0 < n → l[n - 1]? = some x → x.kind ≠ 1) → (l.map Val.d).take j.toNat = (trimS l).map Val.d ∧ EV 39 [U8 22, .ro false ((trimS l).map Val.d)] [] = some (.ret (Val.mk 22 0 ⟨#[]⟩ (trimS l)).d, []) ∧ EV 38 [(Val.mk 6 code ⟨#[]⟩ []).d, (Val.mk 22 0 ⟨#[]⟩ (trimS l)).d] [] = some (.ret (putS code l).d, []) := fun h2 => by
    have e := fput_end l n hn hz h2
    have hs := trimS_sz l
    refine ⟨?_, many_c 22 (trimS l) (by omega), desc_c _ _ (by simp only [Val.sz, Val.szL]; show 0 + 0 + 1 + (0 + Val.szL (trimS l) + 1) ≤ 4000000; omega)⟩
    rw [← List.map_take, show j.toNat = n by omega, e]
  have hall : ((l.map Val.d).all fun e => e.cells.length == 4) = true := by
    rw [List.all_eq_true]; intro e he; obtain ⟨v, _, rfl⟩ := List.mem_map.1 he; rw [Val.cells]; rfl
  have hjn : j.toNat ≤ l.length := by omega
  have hjl : decide (j ≤ (l.length : Int)) = true := by simp; omega
  have hj0 : 0 ≤ j := by omega
  have hjl' : j ≤ l.length := by omega
  rcases Nat.eq_zero_or_pos n with h0 | hpos
  · obtain ⟨f0, f1, f2⟩ := fin (fun x h => by omega)
    have e0 : decide (0 < j) = false := by simp; omega
    simp +contextual (maxSteps := 10000000) only [↓reduceIte, go_sem, Nat.reduceEqDiff, Nat.reduceAdd, Nat.reduceSub, Nat.reduceMul, Nat.reduceLeDiff, Nat.reduceLT, Nat.reduceBEq, Nat.reduceDiv, Nat.reduceMod, Int.reduceLE, Int.reduceLT, Int.reduceEq, Int.reduceBEq, Int.reduceBNe, Int.reduceAdd, Int.reduceSub, Int.reduceNeg, Int.reduceToNat, Int.reduceMul, Int.reducePow, Nat.reducePow, reduceCtorEq, e0, number_c, f0, f1, f2, hj0, hjl', hjn, hall, Bool.false_and, and_self]
  · obtain ⟨x, hx⟩ := get_lt (l := l) (i := n - 1) (by omega)
    have e0 : decide (0 < j) = true := by simp; omega
    have hw := wrap_i64 (n := j - 1) (by omega) (by omega)
    have g1 : l[(j - 1).toNat]? = some x := by rw [show (j - 1).toNat = n - 1 by omega]; exact hx
    have b1 : 0 ≤ j - 1 := by omega
    have b2 : j - 1 < l.length := by omega
    by_cases hk : x.kind = 1
    · have ek : (x.kind == 1) = true := by simpa using hk
      simp +contextual (maxSteps := 10000000) only [↓reduceIte, go_sem, Nat.reduceEqDiff, Nat.reduceAdd, Nat.reduceSub, Nat.reduceMul, Nat.reduceLeDiff, Nat.reduceLT, Nat.reduceBEq, Nat.reduceDiv, Nat.reduceMod, Int.reduceLE, Int.reduceLT, Int.reduceEq, Int.reduceBEq, Int.reduceBNe, Int.reduceAdd, Int.reduceSub, Int.reduceNeg, Int.reduceToNat, Int.reduceMul, Int.reducePow, Nat.reducePow, reduceCtorEq, e0, hw, g1, b1, b2, ek]
      refine ih (n - 1) _ _ (by omega) ⟨n - 1, _, by omega, rfl, by omega, fun i y hi hy => ?_, rfl, rfl⟩
      by_cases hin : i = n - 1
      · subst hin; rw [hx] at hy; simp only [Option.some.injEq] at hy; subst hy; exact hk
      · exact hz i y (by omega) hy
    · have ek : (x.kind == 1) = false := by simpa using hk
      obtain ⟨f0, f1, f2⟩ := fin (fun y _ hy => by rw [hx] at hy; simp only [Option.some.injEq] at hy; subst hy; exact hk)
      simp +contextual (maxSteps := 10000000) only [↓reduceIte, go_sem, Nat.reduceEqDiff, Nat.reduceAdd, Nat.reduceSub, Nat.reduceMul, Nat.reduceLeDiff, Nat.reduceLT, Nat.reduceBEq, Nat.reduceDiv, Nat.reduceMod, Int.reduceLE, Int.reduceLT, Int.reduceEq, Int.reduceBEq, Int.reduceBNe, Int.reduceAdd, Int.reduceSub, Int.reduceNeg, Int.reduceToNat, Int.reduceMul, Int.reducePow, Nat.reducePow, reduceCtorEq, e0, hw, g1, b1, b2, ek, number_c, f0, f1, f2, hj0, hjl', hjn, hall, Bool.false_and, and_self]
set_option maxHeartbeats 2000000 in
theorem rput_c (code : Int) (l : List Val) (hl : Val.szL l ≤ 3999990) : EV 24 [U64 code, .ro false (l.map Val.d)] [] = some (.ret (putS code l).d, []) := by
  have hlen := szL_len l
  refine (ev_body ⟨[], [(0, [0, 1, 4, 5])], [(4, [(0, 0, false), (1, 0, false), (2, 0, false), (3, 0, false), (4, 0, false), (5, 0, false), (6, 0, false), (7, 0, true)])], true, [], noIt⟩ [.cell 4 25] rfl Tryz.func24 rfl rfl rfl (by kernel_rfl) (by show 2 ≤ 28; decide)).trans ?_
  simp +contextual (maxSteps := 10000000) only [↓reduceIte, go_sem, Nat.reduceEqDiff, Nat.reduceAdd, Nat.reduceSub, Nat.reduceMul, Nat.reduceLeDiff, Nat.reduceLT, Nat.reduceBEq, Nat.reduceDiv, Nat.reduceMod, Int.reduceLE, Int.reduceLT, Int.reduceEq, Int.reduceBEq, Int.reduceBNe, Int.reduceAdd, Int.reduceSub, Int.reduceNeg, Int.reduceToNat, Int.reduceMul, Int.reducePow, Nat.reducePow, reduceCtorEq]
  refine lpK_inv (fun m0 f es => ∃ (n : Nat) (j : Int), j = n ∧ m0 = n ∧ n ≤ l.length ∧ (∀ i x, n ≤ i → l[i]? = some x → x.kind = 1) ∧ f = [(0, U64 code), (1, .ro false (l.map Val.d)), (4, .ptr 0 0 0), (5, I j)] ∧ es = [zV]) l.length ⟨l.length, _, rfl, rfl, Nat.le_refl _, fun i x h1 h2 => by have := (List.getElem?_eq_some_iff.1 h2).1; omega, rfl, rfl⟩ ?_
  rintro m0 _ _ ⟨n, j, hj, hm, hn, hz, rfl, rfl⟩ ih
  have fin : (∀ x, 0 < n → l[n - 1]? = some x → x.kind ≠ 1) → (l.map Val.d).take j.toNat = (trimS l).map Val.d ∧ EV 42 [U8 22, .ro false ((trimS l).map Val.d)] [] = some (.ret (Val.mk 22 0 ⟨#[]⟩ (trimS l)).d, []) ∧ EV 40 [(Val.mk 6 code ⟨#[]⟩ []).d, (Val.mk 22 0 ⟨#[]⟩ (trimS l)).d] [] = some (.ret (putS code l).d, []) := fun h2 => by
    have e := fput_end l n hn hz h2
    have hs := trimS_sz l
    refine ⟨?_, rmany_c 22 (trimS l) (by omega), rdesc_c _ _ (by simp only [Val.sz, Val.szL]; show 0 + 0 + 1 + (0 + Val.szL (trimS l) + 1) ≤ 4000000; omega)⟩
    rw [← List.map_take, show j.toNat = n by omega, e]
  have hall : ((l.map Val.d).all fun e => e.cells.length == 4) = true := by
    rw [List.all_eq_true]; intro e he; obtain ⟨v, _, rfl⟩ := List.mem_map.1 he; rw [Val.cells]; rfl
  have hjn : j.toNat ≤ l.length := by omega
  have hjl : decide (j ≤ (l.length : Int)) = true := by simp; omega
  have hj0 : 0 ≤ j := by omega
  have hjl' : j ≤ l.length := by omega
  rcases Nat.eq_zero_or_pos n with h0 | hpos
  · obtain ⟨f0, f1, f2⟩ := fin (fun x h => by omega)
    have e0 : decide (0 < j) = false := by simp; omega
    simp +contextual (maxSteps := 10000000) only [↓reduceIte, go_sem, Nat.reduceEqDiff, Nat.reduceAdd, Nat.reduceSub, Nat.reduceMul, Nat.reduceLeDiff, Nat.reduceLT, Nat.reduceBEq, Nat.reduceDiv, Nat.reduceMod, Int.reduceLE, Int.reduceLT, Int.reduceEq, Int.reduceBEq, Int.reduceBNe, Int.reduceAdd, Int.reduceSub, Int.reduceNeg, Int.reduceToNat, Int.reduceMul, Int.reducePow, Nat.reducePow, reduceCtorEq, e0, rnumber_c, f0, f1, f2, hj0, hjl', hjn, hall, Bool.false_and, and_self]
  · obtain ⟨x, hx⟩ := get_lt (l := l) (i := n - 1) (by omega)
    have e0 : decide (0 < j) = true := by simp; omega
    have hw := wrap_i64 (n := j - 1) (by omega) (by omega)
    have g1 : l[(j - 1).toNat]? = some x := by rw [show (j - 1).toNat = n - 1 by omega]; exact hx
    have b1 : 0 ≤ j - 1 := by omega
    have b2 : j - 1 < l.length := by omega
    by_cases hk : x.kind = 1
    · have ek : (x.kind == 1) = true := by simpa using hk
      simp +contextual (maxSteps := 10000000) only [↓reduceIte, go_sem, Nat.reduceEqDiff, Nat.reduceAdd, Nat.reduceSub, Nat.reduceMul, Nat.reduceLeDiff, Nat.reduceLT, Nat.reduceBEq, Nat.reduceDiv, Nat.reduceMod, Int.reduceLE, Int.reduceLT, Int.reduceEq, Int.reduceBEq, Int.reduceBNe, Int.reduceAdd, Int.reduceSub, Int.reduceNeg, Int.reduceToNat, Int.reduceMul, Int.reducePow, Nat.reducePow, reduceCtorEq, e0, hw, g1, b1, b2, ek]
      refine ih (n - 1) _ _ (by omega) ⟨n - 1, _, by omega, rfl, by omega, fun i y hi hy => ?_, rfl, rfl⟩
      by_cases hin : i = n - 1
      · subst hin; rw [hx] at hy; simp only [Option.some.injEq] at hy; subst hy; exact hk
      · exact hz i y (by omega) hy
    · have ek : (x.kind == 1) = false := by simpa using hk
      obtain ⟨f0, f1, f2⟩ := fin (fun y _ hy => by rw [hx] at hy; simp only [Option.some.injEq] at hy; subst hy; exact hk)
      simp +contextual (maxSteps := 10000000) only [↓reduceIte, go_sem, Nat.reduceEqDiff, Nat.reduceAdd, Nat.reduceSub, Nat.reduceMul, Nat.reduceLeDiff, Nat.reduceLT, Nat.reduceBEq, Nat.reduceDiv, Nat.reduceMod, Int.reduceLE, Int.reduceLT, Int.reduceEq, Int.reduceBEq, Int.reduceBNe, Int.reduceAdd, Int.reduceSub, Int.reduceNeg, Int.reduceToNat, Int.reduceMul, Int.reducePow, Nat.reducePow, reduceCtorEq, e0, hw, g1, b1, b2, ek, rnumber_c, f0, f1, f2, hj0, hjl', hjn, hall, Bool.false_and, and_self]
end Go.Bw.R1

namespace Go.Bw.R1
set_option maxRecDepth 5000
open Go Go.Bw Go.Proofs
abbrev vZ : Val := .mk 0 0 ⟨#[]⟩ []
set_option maxHeartbeats 1000000 in
theorem rhas_c (l : List Val) (sp : Bool) (i : Int) : EV 73 [.ptr 0 0 0, I i] [fRow l sp] = some (.ret (B (atS l i).isSome), [fRow l sp]) := by
  refine (ev_body ⟨[], [], [], false, [], noIt⟩ [.tmp 4] rfl Tryz.func73 rfl rfl rfl (by kernel_rfl) (by show 2 ≤ 27; decide)).trans ?_
  unfold atS
  rcases Int.lt_or_le i 0 with hi | hi
  · have e1 : decide (0 ≤ i) = false := by simp; omega
    simp +contextual (maxSteps := 10000000) only [↓reduceIte, go_sem, Nat.reduceEqDiff, Nat.reduceAdd, Nat.reduceSub, Nat.reduceMul, Nat.reduceLeDiff, Nat.reduceLT, Nat.reduceBEq, Nat.reduceDiv, Nat.reduceMod, Int.reduceLE, Int.reduceLT, Int.reduceEq, Int.reduceBEq, Int.reduceBNe, Int.reduceAdd, Int.reduceSub, Int.reduceNeg, Int.reduceToNat, Int.reduceMul, Int.reducePow, Nat.reducePow, reduceCtorEq, e1, hi, Option.isSome]
  · have e1 : decide (0 ≤ i) = true := by simp; omega
    have e2 : ¬ i < 0 := by omega
    rcases Int.lt_or_le i l.length with h2 | h2
    · obtain ⟨x, hx⟩ := get_lt (l := l) (i := i.toNat) (by omega)
      have e3 : decide (i < l.length) = true := by simpa using h2
      by_cases hk : x.kind = 1
      · have e4 : (x.kind != 1) = false := by simpa using hk
        simp +contextual (maxSteps := 10000000) only [↓reduceIte, go_sem, Nat.reduceEqDiff, Nat.reduceAdd, Nat.reduceSub, Nat.reduceMul, Nat.reduceLeDiff, Nat.reduceLT, Nat.reduceBEq, Nat.reduceDiv, Nat.reduceMod, Int.reduceLE, Int.reduceLT, Int.reduceEq, Int.reduceBEq, Int.reduceBNe, Int.reduceAdd, Int.reduceSub, Int.reduceNeg, Int.reduceToNat, Int.reduceMul, Int.reducePow, Nat.reducePow, reduceCtorEq, e1, e2, e3, hx, hi, h2, e4, hk, Option.isSome]
      · have e4 : (x.kind != 1) = true := by simpa using hk
        simp +contextual (maxSteps := 10000000) only [↓reduceIte, go_sem, Nat.reduceEqDiff, Nat.reduceAdd, Nat.reduceSub, Nat.reduceMul, Nat.reduceLeDiff, Nat.reduceLT, Nat.reduceBEq, Nat.reduceDiv, Nat.reduceMod, Int.reduceLE, Int.reduceLT, Int.reduceEq, Int.reduceBEq, Int.reduceBNe, Int.reduceAdd, Int.reduceSub, Int.reduceNeg, Int.reduceToNat, Int.reduceMul, Int.reducePow, Nat.reducePow, reduceCtorEq, e1, e2, e3, hx, hi, h2, e4, hk, Option.isSome]
    · have e3 : decide (i < l.length) = false := by simp; omega
      have hn : l[i.toNat]? = none := List.getElem?_eq_none (by omega)
      simp +contextual (maxSteps := 10000000) only [↓reduceIte, go_sem, Nat.reduceEqDiff, Nat.reduceAdd, Nat.reduceSub, Nat.reduceMul, Nat.reduceLeDiff, Nat.reduceLT, Nat.reduceBEq, Nat.reduceDiv, Nat.reduceMod, Int.reduceLE, Int.reduceLT, Int.reduceEq, Int.reduceBEq, Int.reduceBNe, Int.reduceAdd, Int.reduceSub, Int.reduceNeg, Int.reduceToNat, Int.reduceMul, Int.reducePow, Nat.reducePow, reduceCtorEq, e1, e2, e3, hn, Option.isSome]
set_option maxHeartbeats 1000000 in
theorem rtake_none (l : List Val) (sp must : Bool) (i : Int) (h : atS l i = none) : EV 52 [.ptr 0 0 0, I i, B must] [fRow l sp] = some (.ret (.tup [vZ.d, B false]), [fRow l (sp || must)]) := by
  have hh := rhas_c l sp i
  rw [h] at hh
  simp only [Option.isSome] at hh
  refine (ev_body ⟨[], [], [], true, [], noIt⟩ [.cell 6 25, .tmp 7] rfl Tryz.func52 rfl rfl rfl (by kernel_rfl) (by show 3 ≤ 30; decide)).trans ?_
  cases sp
  · simp +contextual (maxSteps := 10000000) only [↓reduceIte, go_sem, Nat.reduceEqDiff, Nat.reduceAdd, Nat.reduceSub, Nat.reduceMul, Nat.reduceLeDiff, Nat.reduceLT, Nat.reduceBEq, Nat.reduceDiv, Nat.reduceMod, Int.reduceLE, Int.reduceLT, Int.reduceEq, Int.reduceBEq, Int.reduceBNe, Int.reduceAdd, Int.reduceSub, Int.reduceNeg, Int.reduceToNat, Int.reduceMul, Int.reducePow, Nat.reducePow, reduceCtorEq, hh, Bool.false_or]
  · simp +contextual (maxSteps := 10000000) only [↓reduceIte, go_sem, Nat.reduceEqDiff, Nat.reduceAdd, Nat.reduceSub, Nat.reduceMul, Nat.reduceLeDiff, Nat.reduceLT, Nat.reduceBEq, Nat.reduceDiv, Nat.reduceMod, Int.reduceLE, Int.reduceLT, Int.reduceEq, Int.reduceBEq, Int.reduceBNe, Int.reduceAdd, Int.reduceSub, Int.reduceNeg, Int.reduceToNat, Int.reduceMul, Int.reducePow, Nat.reducePow, reduceCtorEq, hh, Bool.true_or]
set_option maxHeartbeats 1000000 in
theorem rtake_some (l : List Val) (sp must : Bool) (i : Int) (x : Val) (h : atS l i = some x) : EV 52 [.ptr 0 0 0, I i, B must] [fRow l sp] = some (.ret (.tup [x.d, B true]), [fRow l sp]) := by
  obtain ⟨h1, h2, h3, h4⟩ := atS_len h
  have hh := rhas_c l sp i
  rw [h] at hh
  simp only [Option.isSome] at hh
  refine (ev_body ⟨[], [], [], true, [], noIt⟩ [.cell 6 25, .tmp 7] rfl Tryz.func52 rfl rfl rfl (by kernel_rfl) (by show 3 ≤ 30; decide)).trans ?_
  simp +contextual (maxSteps := 10000000) only [↓reduceIte, go_sem, Nat.reduceEqDiff, Nat.reduceAdd, Nat.reduceSub, Nat.reduceMul, Nat.reduceLeDiff, Nat.reduceLT, Nat.reduceBEq, Nat.reduceDiv, Nat.reduceMod, Int.reduceLE, Int.reduceLT, Int.reduceEq, Int.reduceBEq, Int.reduceBNe, Int.reduceAdd, Int.reduceSub, Int.reduceNeg, Int.reduceToNat, Int.reduceMul, Int.reducePow, Nat.reducePow, reduceCtorEq, hh, h1, h2, h3]
set_option maxHeartbeats 1000000 in
theorem rnumber_f (l : List Val) (sp : Bool) (i kind : Int) (must : Bool) (none : Int) : EV 36 [.ptr 0 0 0, I i, U8 kind, B must, U64 none] [fRow l sp] = some (.ret (U64 (numS' l i kind must none).1), [fRow l (sp || (numS' l i kind must none).2)]) := by
  refine (ev_body ⟨[], [], [], false, [], noIt⟩ [.tmp 10] rfl Tryz.func36 rfl rfl rfl (by kernel_rfl) (by show 5 ≤ 33; decide)).trans ?_
  unfold numS'
  cases h : atS l i with
  | none => simp +contextual (maxSteps := 10000000) only [↓reduceIte, go_sem, Nat.reduceEqDiff, Nat.reduceAdd, Nat.reduceSub, Nat.reduceMul, Nat.reduceLeDiff, Nat.reduceLT, Nat.reduceBEq, Nat.reduceDiv, Nat.reduceMod, Int.reduceLE, Int.reduceLT, Int.reduceEq, Int.reduceBEq, Int.reduceBNe, Int.reduceAdd, Int.reduceSub, Int.reduceNeg, Int.reduceToNat, Int.reduceMul, Int.reducePow, Nat.reducePow, reduceCtorEq, rtake_none l sp must i h]
  | some x =>
    by_cases hk : x.kind = kind
    · have e : (kind != kind) = false := by simp
      simp +contextual (maxSteps := 10000000) only [↓reduceIte, go_sem, Nat.reduceEqDiff, Nat.reduceAdd, Nat.reduceSub, Nat.reduceMul, Nat.reduceLeDiff, Nat.reduceLT, Nat.reduceBEq, Nat.reduceDiv, Nat.reduceMod, Int.reduceLE, Int.reduceLT, Int.reduceEq, Int.reduceBEq, Int.reduceBNe, Int.reduceAdd, Int.reduceSub, Int.reduceNeg, Int.reduceToNat, Int.reduceMul, Int.reducePow, Nat.reducePow, reduceCtorEq, rtake_some l sp must i x h, hk, e, Bool.or_false]
    · have e : (x.kind != kind) = true := by simpa using hk
      simp +contextual (maxSteps := 10000000) only [↓reduceIte, go_sem, Nat.reduceEqDiff, Nat.reduceAdd, Nat.reduceSub, Nat.reduceMul, Nat.reduceLeDiff, Nat.reduceLT, Nat.reduceBEq, Nat.reduceDiv, Nat.reduceMod, Int.reduceLE, Int.reduceLT, Int.reduceEq, Int.reduceBEq, Int.reduceBNe, Int.reduceAdd, Int.reduceSub, Int.reduceNeg, Int.reduceToNat, Int.reduceMul, Int.reducePow, Nat.reducePow, reduceCtorEq, rtake_some l sp must i x h, hk, e, Bool.or_true]
set_option maxHeartbeats 1000000 in
theorem rtext_f (l : List Val) (sp : Bool) (i kind : Int) (must : Bool) : EV 31 [.ptr 0 0 0, I i, U8 kind, B must] [fRow l sp] = some (.ret (Sx (txtS l i kind must).1), [fRow l (sp || (txtS l i kind must).2)]) := by
  refine (ev_body ⟨[], [], [], false, [], noIt⟩ [.tmp 8] rfl Tryz.func31 rfl rfl rfl (by kernel_rfl) (by show 4 ≤ 29; decide)).trans ?_
  unfold txtS
  cases h : atS l i with
  | none => simp +contextual (maxSteps := 10000000) only [↓reduceIte, go_sem, Nat.reduceEqDiff, Nat.reduceAdd, Nat.reduceSub, Nat.reduceMul, Nat.reduceLeDiff, Nat.reduceLT, Nat.reduceBEq, Nat.reduceDiv, Nat.reduceMod, Int.reduceLE, Int.reduceLT, Int.reduceEq, Int.reduceBEq, Int.reduceBNe, Int.reduceAdd, Int.reduceSub, Int.reduceNeg, Int.reduceToNat, Int.reduceMul, Int.reducePow, Nat.reducePow, reduceCtorEq, rtake_none l sp must i h]
  | some x =>
    by_cases hk : x.kind = kind
    · have e : (kind != kind) = false := by simp
      simp +contextual (maxSteps := 10000000) only [↓reduceIte, go_sem, Nat.reduceEqDiff, Nat.reduceAdd, Nat.reduceSub, Nat.reduceMul, Nat.reduceLeDiff, Nat.reduceLT, Nat.reduceBEq, Nat.reduceDiv, Nat.reduceMod, Int.reduceLE, Int.reduceLT, Int.reduceEq, Int.reduceBEq, Int.reduceBNe, Int.reduceAdd, Int.reduceSub, Int.reduceNeg, Int.reduceToNat, Int.reduceMul, Int.reducePow, Nat.reducePow, reduceCtorEq, rtake_some l sp must i x h, hk, e, Bool.or_false]
    · have e : (x.kind != kind) = true := by simpa using hk
      simp +contextual (maxSteps := 10000000) only [↓reduceIte, go_sem, Nat.reduceEqDiff, Nat.reduceAdd, Nat.reduceSub, Nat.reduceMul, Nat.reduceLeDiff, Nat.reduceLT, Nat.reduceBEq, Nat.reduceDiv, Nat.reduceMod, Int.reduceLE, Int.reduceLT, Int.reduceEq, Int.reduceBEq, Int.reduceBNe, Int.reduceAdd, Int.reduceSub, Int.reduceNeg, Int.reduceToNat, Int.reduceMul, Int.reducePow, Nat.reducePow, reduceCtorEq, rtake_some l sp must i x h, hk, e, Bool.or_true]
set_option maxHeartbeats 2000000 in
theorem rvalue_f (l : List Val) (hl : Val.szL l ≤ 4000000) (sp : Bool) (i : Int) (ks : List Int) (hks : ks.length ≤ 4000000) : EV 32 [.ptr 0 0 0, I i, .ro false (u8L ks)] [fRow l sp] = some (.ret (valS l i ks).1.d, [fRow l (sp || (valS l i ks).2)]) := by
  refine (ev_body ⟨[], [(0, [0, 2, 6, 7, 9, 10])], [(8, [(0, 0, false), (1, 0, false), (2, 0, false), (3, 0, false), (4, 0, false), (5, 0, false), (6, 0, false), (7, 0, false), (8, 0, false), (9, 0, false), (10, 0, false)])], true, [], noIt⟩ [.cell 6 25] rfl Tryz.func32 rfl rfl rfl (by kernel_rfl) (by show 3 ≤ 47; decide)).trans ?_
  unfold valS
  cases h : atS l i with
  | none => simp +contextual (maxSteps := 10000000) only [↓reduceIte, go_sem, Nat.reduceEqDiff, Nat.reduceAdd, Nat.reduceSub, Nat.reduceMul, Nat.reduceLeDiff, Nat.reduceLT, Nat.reduceBEq, Nat.reduceDiv, Nat.reduceMod, Int.reduceLE, Int.reduceLT, Int.reduceEq, Int.reduceBEq, Int.reduceBNe, Int.reduceAdd, Int.reduceSub, Int.reduceNeg, Int.reduceToNat, Int.reduceMul, Int.reducePow, Nat.reducePow, reduceCtorEq, rtake_none l sp false i h, rnull_c]
  | some x =>
    have hx := szL_mem (atS_len h).2.2.1
    have hcp := rcopy_c _ x (Nat.le_refl _) (by omega)
    have hz : ((ks.length : Int) == 0) = decide (ks = []) := by
      cases ks with
      | nil => rfl
      | cons a r => simp; omega
    simp +contextual (maxSteps := 10000000) only [↓reduceIte, go_sem, Nat.reduceEqDiff, Nat.reduceAdd, Nat.reduceSub, Nat.reduceMul, Nat.reduceLeDiff, Nat.reduceLT, Nat.reduceBEq, Nat.reduceDiv, Nat.reduceMod, Int.reduceLE, Int.reduceLT, Int.reduceEq, Int.reduceBEq, Int.reduceBNe, Int.reduceAdd, Int.reduceSub, Int.reduceNeg, Int.reduceToNat, Int.reduceMul, Int.reducePow, Nat.reducePow, reduceCtorEq, rtake_some l sp false i x h]
    refine lpK_inv (fun m0 f es => ∃ (i : Nat) (j : Int) (b : Bool), j = i ∧ i + m0 = ks.length ∧ b = (decide (ks = []) || decide (x.kind ∈ ks.take i)) ∧ f = [(0, .ptr 0 0 0), (2, .ro false (u8L ks)), (6, .ptr 1 0 0), (7, .ptr 2 0 0), (9, B b), (10, I j)] ∧ es = [fRow l sp, zV, some ⟨0, x.cs⟩]) ks.length ⟨0, _, _, rfl, by omega, (by simp [hz]), rfl, rfl⟩ ?_
    rintro m0 _ _ ⟨i, j, b, hj, hi, hb, rfl, rfl⟩ ih
    rcases Nat.lt_or_ge i ks.length with hlt | hge
    · obtain ⟨y, hy⟩ := get_lt hlt
      have hlt' : decide (j < ks.length) = true := by simp <;> omega
      have g1 : ks[j.toNat]? = some y := by rw [show j.toNat = i by omega]; exact hy
      have hs := take_snoc hy
      cases b
      · simp +contextual (maxSteps := 10000000) only [↓reduceIte, go_sem, Nat.reduceEqDiff, Nat.reduceAdd, Nat.reduceSub, Nat.reduceMul, Nat.reduceLeDiff, Nat.reduceLT, Nat.reduceBEq, Nat.reduceDiv, Nat.reduceMod, Int.reduceLE, Int.reduceLT, Int.reduceEq, Int.reduceBEq, Int.reduceBNe, Int.reduceAdd, Int.reduceSub, Int.reduceNeg, Int.reduceToNat, Int.reduceMul, Int.reducePow, Nat.reducePow, reduceCtorEq, hlt', g1, show 0 ≤ j by omega, show j < ks.length by omega, wrap_i64 (n := j + 1) (by omega) (by omega)]
        refine ih (m0 - 1) _ _ (by omega) ⟨i + 1, _, _, by omega, by omega, ?_, rfl, rfl⟩
        have e : (decide (ks = []) || decide (x.kind ∈ ks.take i)) = false := hb.symm
        rw [hs]
        simp only [List.mem_append, List.mem_singleton, Bool.decide_or, ← Bool.or_assoc, e, Bool.false_or]
        rw [Bool.beq_eq_decide_eq, decide_eq_decide]
        exact eq_comm
      · simp +contextual (maxSteps := 10000000) only [↓reduceIte, go_sem, Nat.reduceEqDiff, Nat.reduceAdd, Nat.reduceSub, Nat.reduceMul, Nat.reduceLeDiff, Nat.reduceLT, Nat.reduceBEq, Nat.reduceDiv, Nat.reduceMod, Int.reduceLE, Int.reduceLT, Int.reduceEq, Int.reduceBEq, Int.reduceBNe, Int.reduceAdd, Int.reduceSub, Int.reduceNeg, Int.reduceToNat, Int.reduceMul, Int.reducePow, Nat.reducePow, reduceCtorEq, hlt', g1, show 0 ≤ j by omega, show j < ks.length by omega, wrap_i64 (n := j + 1) (by omega) (by omega)]
        refine ih (m0 - 1) _ _ (by omega) ⟨i + 1, _, _, by omega, by omega, ?_, rfl, rfl⟩
        have e : (decide (ks = []) || decide (x.kind ∈ ks.take i)) = true := hb.symm
        rw [hs]
        simp only [List.mem_append, Bool.decide_or, ← Bool.or_assoc, e, Bool.true_or]
    · have hlt' : decide (j < ks.length) = false := by simp <;> omega
      rw [List.take_of_length_le hge] at hb
      have hbb : (ks = [] ∨ x.kind ∈ ks) = (b = true) := by rw [hb]; simp
      cases b
      · simp +contextual (maxSteps := 10000000) only [↓reduceIte, go_sem, Nat.reduceEqDiff, Nat.reduceAdd, Nat.reduceSub, Nat.reduceMul, Nat.reduceLeDiff, Nat.reduceLT, Nat.reduceBEq, Nat.reduceDiv, Nat.reduceMod, Int.reduceLE, Int.reduceLT, Int.reduceEq, Int.reduceBEq, Int.reduceBNe, Int.reduceAdd, Int.reduceSub, Int.reduceNeg, Int.reduceToNat, Int.reduceMul, Int.reducePow, Nat.reducePow, reduceCtorEq, hlt', rnull_c, hbb, Bool.false_eq_true, if_false, Bool.or_true]
      · simp +contextual (maxSteps := 10000000) only [↓reduceIte, go_sem, Nat.reduceEqDiff, Nat.reduceAdd, Nat.reduceSub, Nat.reduceMul, Nat.reduceLeDiff, Nat.reduceLT, Nat.reduceBEq, Nat.reduceDiv, Nat.reduceMod, Int.reduceLE, Int.reduceLT, Int.reduceEq, Int.reduceBEq, Int.reduceBNe, Int.reduceAdd, Int.reduceSub, Int.reduceNeg, Int.reduceToNat, Int.reduceMul, Int.reducePow, Nat.reducePow, reduceCtorEq, hlt', hcp, hbb, if_true, Bool.or_false]
theorem rdone_c (l : List Val) (sp : Bool) (n : Int) : EV 33 [.ptr 0 0 0, I n] [fRow l sp] = some (.ret (I (if sp || decide (n < l.length) then 6 else 0)), [fRow l sp]) := by
  refine (ev_body ⟨[], [], [], false, [], noIt⟩ [.tmp 4] rfl Tryz.func33 rfl rfl rfl (by kernel_rfl) (by show 2 ≤ 18; decide)).trans ?_
  cases sp
  · simp +contextual (maxSteps := 10000000) only [↓reduceIte, go_sem, Nat.reduceEqDiff, Nat.reduceAdd, Nat.reduceSub, Nat.reduceMul, Nat.reduceLeDiff, Nat.reduceLT, Nat.reduceBEq, Nat.reduceDiv, Nat.reduceMod, Int.reduceLE, Int.reduceLT, Int.reduceEq, Int.reduceBEq, Int.reduceBNe, Int.reduceAdd, Int.reduceSub, Int.reduceNeg, Int.reduceToNat, Int.reduceMul, Int.reducePow, Nat.reducePow, reduceCtorEq]
    cases decide (n < l.length) <;> rfl
  · simp +contextual (maxSteps := 10000000) only [↓reduceIte, go_sem, Nat.reduceEqDiff, Nat.reduceAdd, Nat.reduceSub, Nat.reduceMul, Nat.reduceLeDiff, Nat.reduceLT, Nat.reduceBEq, Nat.reduceDiv, Nat.reduceMod, Int.reduceLE, Int.reduceLT, Int.reduceEq, Int.reduceBEq, Int.reduceBNe, Int.reduceAdd, Int.reduceSub, Int.reduceNeg, Int.reduceToNat, Int.reduceMul, Int.reducePow, Nat.reducePow, reduceCtorEq]
set_option maxHeartbeats 1000000 in
theorem rnew_some (v : Val) (hs : v.sz ≤ 4000000) (code : Int) (name : ByteArray) (l : List Val) (h : newS v code name = some l) : EV 30 [v.d, U64 code, Sx name] [] = some (.ret (.tup [.ptr 0 0 0, I 0]), [fRow l false]) := by
  obtain ⟨h1, h2, d, x, hk, hx, hc, rfl, _⟩ := newS_some h
  obtain ⟨k, n, t, kids⟩ := v
  obtain ⟨k2, n2, t2, l2⟩ := x
  simp only [Val.kind_mk, Val.kids_mk] at h2 hk hx
  subst h2 hk hx
  have hr := rright_v _ hs
  rw [h1] at hr
  have hz := Val.sz_eq (Val.mk 25 n t [d, Val.mk 22 n2 t2 l2])
  have hz2 := Val.sz_eq (Val.mk 22 n2 t2 l2)
  simp only [Val.kids_mk, Val.szL] at hz hz2
  have hcp := copyAll_c l2 (by omega)
  refine (ev_body ⟨[3], [], [], false, [], noIt⟩ [.tmp 6, .tmp 7] rfl Tryz.func30 rfl rfl rfl (by kernel_rfl) (by show 3 ≤ 59; decide)).trans ?_
  unfold calledS at hc
  cases e1 : d.kind == 6 <;> cases e2 : d.num == code <;> cases e3 : d.kind == 21 <;> cases e4 : decide (d.text = name) <;> simp only [e1, e2, e3, e4, Bool.false_and, Bool.and_false, Bool.true_and, Bool.or_self, Bool.false_or, Bool.or_false, Bool.or_true, Bool.true_or, Bool.false_eq_true, reduceCtorEq] at hc
  all_goals simp +contextual (maxSteps := 10000000) only [↓reduceIte, go_sem, Nat.reduceEqDiff, Nat.reduceAdd, Nat.reduceSub, Nat.reduceMul, Nat.reduceLeDiff, Nat.reduceLT, Nat.reduceBEq, Nat.reduceDiv, Nat.reduceMod, Int.reduceLE, Int.reduceLT, Int.reduceEq, Int.reduceBEq, Int.reduceBNe, Int.reduceAdd, Int.reduceSub, Int.reduceNeg, Int.reduceToNat, Int.reduceMul, Int.reducePow, Nat.reducePow, reduceCtorEq, hr, hcp, e1, e2, e3, e4, List.map_cons, List.map_nil, List.length_cons, List.length_nil, bne_self_eq_false]
set_option maxHeartbeats 1000000 in
theorem rnew_none (v : Val) (hs : v.sz ≤ 4000000) (code : Int) (name : ByteArray) (h : newS v code name = none) : EV 30 [v.d, U64 code, Sx name] [] = some (.ret (.tup [.nilp, I 6]), []) := by
  have hr := rright_v v hs
  refine (ev_body ⟨[3], [], [], false, [], noIt⟩ [.tmp 6, .tmp 7] rfl Tryz.func30 rfl rfl rfl (by kernel_rfl) (by show 3 ≤ 59; decide)).trans ?_
  cases h1 : rightS v
  · rw [h1] at hr
    simp +contextual (maxSteps := 10000000) only [↓reduceIte, go_sem, Nat.reduceEqDiff, Nat.reduceAdd, Nat.reduceSub, Nat.reduceMul, Nat.reduceLeDiff, Nat.reduceLT, Nat.reduceBEq, Nat.reduceDiv, Nat.reduceMod, Int.reduceLE, Int.reduceLT, Int.reduceEq, Int.reduceBEq, Int.reduceBNe, Int.reduceAdd, Int.reduceSub, Int.reduceNeg, Int.reduceToNat, Int.reduceMul, Int.reducePow, Nat.reducePow, reduceCtorEq, hr]
  · rw [h1] at hr
    by_cases h2 : v.kind = 25
    · obtain ⟨d, x, hk, _, _⟩ := may_desc (right_may h1) h2
      unfold newS at h
      rw [if_pos ⟨h1, h2⟩, hk] at h
      simp only at h
      obtain ⟨k, n, t, kids⟩ := v
      simp only [Val.kind_mk, Val.kids_mk] at h2 hk
      subst h2 hk
      by_cases hx : x.kind = 22
      · have hc : calledS d code name = false := by
          cases hc : calledS d code name
          · rfl
          · rw [if_pos ⟨hx, hc⟩] at h; cases h
        unfold calledS at hc
        cases e1 : d.kind == 6 <;> cases e2 : d.num == code <;> cases e3 : d.kind == 21 <;> cases e4 : decide (d.text = name) <;> simp only [e1, e2, e3, e4, Bool.false_and, Bool.and_false, Bool.true_and, Bool.or_self, Bool.false_or, Bool.or_false, Bool.or_true, Bool.true_or, Bool.false_eq_true, reduceCtorEq] at hc
        all_goals simp +contextual (maxSteps := 10000000) only [↓reduceIte, go_sem, Nat.reduceEqDiff, Nat.reduceAdd, Nat.reduceSub, Nat.reduceMul, Nat.reduceLeDiff, Nat.reduceLT, Nat.reduceBEq, Nat.reduceDiv, Nat.reduceMod, Int.reduceLE, Int.reduceLT, Int.reduceEq, Int.reduceBEq, Int.reduceBNe, Int.reduceAdd, Int.reduceSub, Int.reduceNeg, Int.reduceToNat, Int.reduceMul, Int.reducePow, Nat.reducePow, reduceCtorEq, hr, hx, e1, e2, e3, e4, List.map_cons, List.map_nil, List.length_cons, List.length_nil, bne_self_eq_false]
      · have e : (x.kind != 22) = true := by simpa using hx
        simp +contextual (maxSteps := 10000000) only [↓reduceIte, go_sem, Nat.reduceEqDiff, Nat.reduceAdd, Nat.reduceSub, Nat.reduceMul, Nat.reduceLeDiff, Nat.reduceLT, Nat.reduceBEq, Nat.reduceDiv, Nat.reduceMod, Int.reduceLE, Int.reduceLT, Int.reduceEq, Int.reduceBEq, Int.reduceBNe, Int.reduceAdd, Int.reduceSub, Int.reduceNeg, Int.reduceToNat, Int.reduceMul, Int.reducePow, Nat.reducePow, reduceCtorEq, hr, e, List.map_cons, List.map_nil, List.length_cons, List.length_nil, bne_self_eq_false]
    · have e : (v.kind != 25) = true := by simpa using h2
      simp +contextual (maxSteps := 10000000) only [↓reduceIte, go_sem, Nat.reduceEqDiff, Nat.reduceAdd, Nat.reduceSub, Nat.reduceMul, Nat.reduceLeDiff, Nat.reduceLT, Nat.reduceBEq, Nat.reduceDiv, Nat.reduceMod, Int.reduceLE, Int.reduceLT, Int.reduceEq, Int.reduceBEq, Int.reduceBNe, Int.reduceAdd, Int.reduceSub, Int.reduceNeg, Int.reduceToNat, Int.reduceMul, Int.reducePow, Nat.reducePow, reduceCtorEq, hr, e]
end Go.Bw.R1

namespace Go.Bw.R1
set_option maxRecDepth 5000
open Go Go.Bw Go.Proofs
theorem trimS_pre (l : List Val) : ∃ n, n ≤ l.length ∧ trimS l = l.take n ∧ ∀ i x, n ≤ i → l[i]? = some x → x.kind = 1 := by
  suffices h : ∀ k, k ≤ l.length → (∀ i x, k ≤ i → l[i]? = some x → x.kind = 1) → ∃ n, n ≤ l.length ∧ trimS l = l.take n ∧ ∀ i x, n ≤ i → l[i]? = some x → x.kind = 1 from
    h l.length (Nat.le_refl _) fun i x h1 h2 => by have := (List.getElem?_eq_some_iff.1 h2).1; omega
  intro k
  induction k with
  | zero => intro hk h; exact ⟨0, hk, (fput_end l 0 hk h fun x h => by omega).symm, h⟩
  | succ k ih =>
    intro hk h
    obtain ⟨x, hx⟩ := get_lt (l := l) (i := k) (by omega)
    by_cases h1 : x.kind = 1
    · exact ih (by omega) fun i y hi hy => by
        by_cases e : i = k
        · subst e; rw [hx] at hy; simp only [Option.some.injEq] at hy; subst hy; exact h1
        · exact h i y (by omega) hy
    · exact ⟨k + 1, hk, (fput_end l (k + 1) hk h fun y _ hy => by
        simp only [Nat.add_sub_cancel] at hy; rw [hx] at hy; simp only [Option.some.injEq] at hy; subst hy; exact h1).symm, h⟩
theorem trimS_len (l : List Val) : (trimS l).length ≤ l.length := by
  obtain ⟨n, h1, h2, _⟩ := trimS_pre l
  rw [h2, List.length_take]; omega
theorem wfL_take {l : List Val} (h : Val.wfL l) (n : Nat) : Val.wfL (l.take n) := by
  induction l generalizing n with
  | nil => simpa using h
  | cons a l ih =>
    cases n with
    | zero => exact trivial
    | succ n => exact ⟨h.1, ih h.2 n⟩
theorem putS_wf (code : Int) (h0 : 0 ≤ code ∧ code < 18446744073709551616) {l : List Val} (h : Val.wfL l) : (putS code l).wf := by
  obtain ⟨n, _, h2, _⟩ := trimS_pre l
  refine ⟨by decide, ⟨⟨by decide, by decide, h0.1, h0.2⟩, trivial⟩, ⟨by decide, ?_⟩, trivial⟩
  rw [h2]; exact wfL_take h n
theorem atS_trim (l : List Val) (i : Int) : atS (trimS l) i = atS l i := by
  obtain ⟨n, h1, h2, h3⟩ := trimS_pre l
  unfold atS
  rw [h2]
  split
  · rfl
  · rw [List.getElem?_take]
    by_cases hin : i.toNat < n
    · rw [if_pos hin]
    · rw [if_neg hin]
      cases hx : l[i.toNat]? with
      | none => rfl
      | some x => simp only; rw [if_pos (h3 i.toNat x (by omega) hx)]
theorem mayS_put (code : Int) (l : List Val) : mayS (putS code l) = mayL (trimS l) := by
  simp only [putS, mayS, mayL]
  show (true && ((true && true && (true && true && true)) && ((true && mayL (trimS l) && (true && true && true)) && true)) && (true && true && true)) = mayL (trimS l)
  simp
theorem trim_last {l : List Val} {x : Val} (h : x.kind ≠ 1) : trimS (l ++ [x]) = l ++ [x] := by
  unfold trimS
  rw [List.reverse_append]
  simp only [List.reverse_cons, List.reverse_nil, List.nil_append, List.cons_append]
  rw [List.dropWhile_cons, if_neg (by simpa using h)]
  simp
theorem newS_putN {code : Int} {l : List Val} {name : ByteArray} (h : rightS (putS code l) = true) : newS (putS code l) code name = some (trimS l) := by
  unfold newS
  rw [if_pos ⟨h, rfl⟩]
  have e : calledS (Val.mk 6 code ⟨#[]⟩ []) code name = true := by simp [calledS, Val.kind_mk, Val.num_mk]
  simp only [putS, Val.kids_mk, Val.kind_mk, e, and_self, if_true]
theorem newS_putX {code c2 : Int} {l : List Val} {name : ByteArray} (h : c2 ≠ code) : newS (putS c2 l) code name = none := by
  unfold newS
  split
  · have e : calledS (Val.mk 6 c2 ⟨#[]⟩ []) code name = false := by simp [calledS, Val.kind_mk, Val.num_mk, h]
    simp only [putS, Val.kids_mk, Val.kind_mk, e, Bool.false_eq_true, and_false, if_false]
  · rfl
end Go.Bw.R1

namespace Go.Bw.R1
set_option maxRecDepth 5000
open Go Go.Bw Go.Proofs
theorem lpK_go1 {P : Program} {GL : Nat → D} {C : Orc} {A : Ann} {m0 k : Nat} {K : List Kt} {l : Fr} {es : Sto} {ks : List Nat} {c : Code} : lpK P GL C A m0 k K ks c l es = run P GL C A m0 k (.lp ks c k :: K) c l es := by
  have key : lpK P GL C A m0 k K ks c l es = run P GL C A m0 k (.lp ks c k :: K) c l es := by
    unfold lpK
    rw [evL_eq]
    rfl
  exact key
theorem fput_nil (code : Int) : EV 20 [U64 code, .ro false []] [] = some (.ret (putS code []).d, []) := fput_c code [] (by decide)
set_option maxHeartbeats 1000000 in
theorem rput_nil (code : Int) : EV 24 [U64 code, .nils] [] = some (.ret (putS code []).d, []) := by
  have hm : EV 42 [U8 22, .nils] [] = some (.ret (Val.mk 22 0 ⟨#[]⟩ []).d, []) := by
    have hc : EV 34 [.nils] [] = some (.ret (.ro false []), []) := by
      refine (ev_body ⟨[], [(0, [0, 3, 4])], [], true, [], noIt⟩ [.tmp 2] rfl Tryz.func34 rfl rfl rfl (by kernel_rfl) (by show 1 ≤ 20; decide)).trans ?_
      simp +contextual (maxSteps := 10000000) only [↓reduceIte, go_sem, Nat.reduceEqDiff, Nat.reduceAdd, Nat.reduceSub, Nat.reduceMul, Nat.reduceLeDiff, Nat.reduceLT, Nat.reduceBEq, Nat.reduceDiv, Nat.reduceMod, Int.reduceLE, Int.reduceLT, Int.reduceEq, Int.reduceBEq, Int.reduceBNe, Int.reduceAdd, Int.reduceSub, Int.reduceNeg, Int.reduceToNat, Int.reduceMul, Int.reducePow, Nat.reducePow, reduceCtorEq]
      rw [lpK_go1]
      simp +contextual (maxSteps := 10000000) only [↓reduceIte, go_sem, Nat.reduceEqDiff, Nat.reduceAdd, Nat.reduceSub, Nat.reduceMul, Nat.reduceLeDiff, Nat.reduceLT, Nat.reduceBEq, Nat.reduceDiv, Nat.reduceMod, Int.reduceLE, Int.reduceLT, Int.reduceEq, Int.reduceBEq, Int.reduceBNe, Int.reduceAdd, Int.reduceSub, Int.reduceNeg, Int.reduceToNat, Int.reduceMul, Int.reducePow, Nat.reducePow, reduceCtorEq]
    refine (ev_body ⟨[], [], [], true, [], noIt⟩ [.cell 4 25] rfl Tryz.func42 rfl rfl rfl (by kernel_rfl) (by show 2 ≤ 9; decide)).trans ?_
    simp +contextual (maxSteps := 10000000) only [↓reduceIte, go_sem, Nat.reduceEqDiff, Nat.reduceAdd, Nat.reduceSub, Nat.reduceMul, Nat.reduceLeDiff, Nat.reduceLT, Nat.reduceBEq, Nat.reduceDiv, Nat.reduceMod, Int.reduceLE, Int.reduceLT, Int.reduceEq, Int.reduceBEq, Int.reduceBNe, Int.reduceAdd, Int.reduceSub, Int.reduceNeg, Int.reduceToNat, Int.reduceMul, Int.reducePow, Nat.reducePow, reduceCtorEq, hc]
  have hd := rdesc_c (.mk 6 code ⟨#[]⟩ []) (.mk 22 0 ⟨#[]⟩ []) (by simp only [Val.sz, Val.szL]; decide)
  refine (ev_body ⟨[], [(0, [0, 1, 4, 5])], [(4, [(0, 0, false), (1, 0, false), (2, 0, false), (3, 0, false), (4, 0, false), (5, 0, false), (6, 0, false), (7, 0, true)])], true, [], noIt⟩ [.cell 4 25] rfl Tryz.func24 rfl rfl rfl (by kernel_rfl) (by show 2 ≤ 28; decide)).trans ?_
  simp +contextual (maxSteps := 10000000) only [↓reduceIte, go_sem, Nat.reduceEqDiff, Nat.reduceAdd, Nat.reduceSub, Nat.reduceMul, Nat.reduceLeDiff, Nat.reduceLT, Nat.reduceBEq, Nat.reduceDiv, Nat.reduceMod, Int.reduceLE, Int.reduceLT, Int.reduceEq, Int.reduceBEq, Int.reduceBNe, Int.reduceAdd, Int.reduceSub, Int.reduceNeg, Int.reduceToNat, Int.reduceMul, Int.reducePow, Nat.reducePow, reduceCtorEq]
  rw [lpK_go1]
  simp +contextual (maxSteps := 10000000) only [↓reduceIte, go_sem, Nat.reduceEqDiff, Nat.reduceAdd, Nat.reduceSub, Nat.reduceMul, Nat.reduceLeDiff, Nat.reduceLT, Nat.reduceBEq, Nat.reduceDiv, Nat.reduceMod, Int.reduceLE, Int.reduceLT, Int.reduceEq, Int.reduceBEq, Int.reduceBNe, Int.reduceAdd, Int.reduceSub, Int.reduceNeg, Int.reduceToNat, Int.reduceMul, Int.reducePow, Nat.reducePow, reduceCtorEq, rnumber_c, hm, hd]
  rfl
/-- the value of a condition -/
def condV (s : ByteArray) : Val := if s.size = 0 then vN else putS 29 [.mk 21 0 s []]
abbrev wrongV : D := .tup [vZ.d, I 1]
theorem size0 (s : ByteArray) : decide (s = ⟨#[]⟩) = decide (s.size = 0) := by
  rw [decide_eq_decide]
  constructor
  · rintro rfl; rfl
  · intro h; exact ByteArray.ext (Array.eq_empty_of_size_eq_zero h)
theorem rtextv_c (k : Int) (s : ByteArray) : EV 25 [.sc (.int .u8 k), .sc (.string s)] [] = some (.ret (Val.mk k 0 s []).d, []) := by
  refine (ev_body ⟨[], [], [], true, [], noIt⟩ [.cell 4 25] rfl Tryz.func25 rfl rfl rfl (by kernel_rfl) (by show 2 ≤ 8; decide)).trans ?_
  simp +contextual (maxSteps := 10000000) only [↓reduceIte, go_sem, Nat.reduceEqDiff, Nat.reduceAdd, Nat.reduceSub, Nat.reduceMul, Nat.reduceLeDiff, Nat.reduceLT, Nat.reduceBEq, Nat.reduceDiv, Nat.reduceMod, Int.reduceLE, Int.reduceLT, Int.reduceEq, Int.reduceBEq, Int.reduceBNe, Int.reduceAdd, Int.reduceSub, Int.reduceNeg, Int.reduceToNat, Int.reduceMul, Int.reducePow, Nat.reducePow, reduceCtorEq]
theorem pcond_c (s : ByteArray) (hs : s.size ≤ 3000000) : EV 7 [Sx s] [] = some (.ret (if asc (bl s) = true then .tup [(condV s).d, I 0] else wrongV), []) := by
  have ha := uascii_c s (by omega)
  have hp := fput_c 29 [.mk 21 0 s []] (by simp only [Val.szL, Val.sz]; omega)
  simp only [List.map_cons, List.map_nil] at hp
  refine (ev_body ⟨[], [], [], true, [], noIt⟩ [.cell 2 25, .tmp 3] rfl Tryz.func7 rfl rfl rfl (by kernel_rfl) (by show 1 ≤ 18; decide)).trans ?_
  cases h : asc (bl s)
  · rw [h] at ha
    simp +contextual (maxSteps := 10000000) only [↓reduceIte, go_sem, Nat.reduceEqDiff, Nat.reduceAdd, Nat.reduceSub, Nat.reduceMul, Nat.reduceLeDiff, Nat.reduceLT, Nat.reduceBEq, Nat.reduceDiv, Nat.reduceMod, Int.reduceLE, Int.reduceLT, Int.reduceEq, Int.reduceBEq, Int.reduceBNe, Int.reduceAdd, Int.reduceSub, Int.reduceNeg, Int.reduceToNat, Int.reduceMul, Int.reducePow, Nat.reducePow, reduceCtorEq, ha]
  · rw [h] at ha
    by_cases h0 : s.size = 0
    · have hc : condV s = vN := if_pos h0
      have e : decide (s = ⟨#[]⟩) = true := by rw [size0]; simpa using h0
      simp +contextual (maxSteps := 10000000) only [↓reduceIte, go_sem, Nat.reduceEqDiff, Nat.reduceAdd, Nat.reduceSub, Nat.reduceMul, Nat.reduceLeDiff, Nat.reduceLT, Nat.reduceBEq, Nat.reduceDiv, Nat.reduceMod, Int.reduceLE, Int.reduceLT, Int.reduceEq, Int.reduceBEq, Int.reduceBNe, Int.reduceAdd, Int.reduceSub, Int.reduceNeg, Int.reduceToNat, Int.reduceMul, Int.reducePow, Nat.reducePow, reduceCtorEq, ha, e, null_c, hc]
    · have hc : condV s = putS 29 [.mk 21 0 s []] := if_neg h0
      have e : decide (s = ⟨#[]⟩) = false := by rw [size0]; simpa using h0
      simp +contextual (maxSteps := 10000000) only [↓reduceIte, go_sem, Nat.reduceEqDiff, Nat.reduceAdd, Nat.reduceSub, Nat.reduceMul, Nat.reduceLeDiff, Nat.reduceLT, Nat.reduceBEq, Nat.reduceDiv, Nat.reduceMod, Int.reduceLE, Int.reduceLT, Int.reduceEq, Int.reduceBEq, Int.reduceBNe, Int.reduceAdd, Int.reduceSub, Int.reduceNeg, Int.reduceToNat, Int.reduceMul, Int.reducePow, Nat.reducePow, reduceCtorEq, ha, e, text_c, hp, hc]
theorem rpcond_c (s : ByteArray) (hs : s.size ≤ 3000000) : EV 8 [Sx s] [] = some (.ret (if asc (bl s) = true then .tup [(condV s).d, I 0] else wrongV), []) := by
  have ha := rascii_c s (by omega)
  have hp := rput_c 29 [.mk 21 0 s []] (by simp only [Val.szL, Val.sz]; omega)
  simp only [List.map_cons, List.map_nil] at hp
  refine (ev_body ⟨[], [], [], true, [], noIt⟩ [.cell 2 25, .tmp 3] rfl Tryz.func8 rfl rfl rfl (by kernel_rfl) (by show 1 ≤ 16; decide)).trans ?_
  cases h : asc (bl s)
  · rw [h] at ha
    simp +contextual (maxSteps := 10000000) only [↓reduceIte, go_sem, Nat.reduceEqDiff, Nat.reduceAdd, Nat.reduceSub, Nat.reduceMul, Nat.reduceLeDiff, Nat.reduceLT, Nat.reduceBEq, Nat.reduceDiv, Nat.reduceMod, Int.reduceLE, Int.reduceLT, Int.reduceEq, Int.reduceBEq, Int.reduceBNe, Int.reduceAdd, Int.reduceSub, Int.reduceNeg, Int.reduceToNat, Int.reduceMul, Int.reducePow, Nat.reducePow, reduceCtorEq, ha]
  · rw [h] at ha
    by_cases h0 : s.size = 0
    · have hc : condV s = vN := if_pos h0
      have e : decide (s = ⟨#[]⟩) = true := by rw [size0]; simpa using h0
      simp +contextual (maxSteps := 10000000) only [↓reduceIte, go_sem, Nat.reduceEqDiff, Nat.reduceAdd, Nat.reduceSub, Nat.reduceMul, Nat.reduceLeDiff, Nat.reduceLT, Nat.reduceBEq, Nat.reduceDiv, Nat.reduceMod, Int.reduceLE, Int.reduceLT, Int.reduceEq, Int.reduceBEq, Int.reduceBNe, Int.reduceAdd, Int.reduceSub, Int.reduceNeg, Int.reduceToNat, Int.reduceMul, Int.reducePow, Nat.reducePow, reduceCtorEq, ha, e, rnull_c, hc]
    · have hc : condV s = putS 29 [.mk 21 0 s []] := if_neg h0
      have e : decide (s = ⟨#[]⟩) = false := by rw [size0]; simpa using h0
      simp +contextual (maxSteps := 10000000) only [↓reduceIte, go_sem, Nat.reduceEqDiff, Nat.reduceAdd, Nat.reduceSub, Nat.reduceMul, Nat.reduceLeDiff, Nat.reduceLT, Nat.reduceBEq, Nat.reduceDiv, Nat.reduceMod, Int.reduceLE, Int.reduceLT, Int.reduceEq, Int.reduceBEq, Int.reduceBNe, Int.reduceAdd, Int.reduceSub, Int.reduceNeg, Int.reduceToNat, Int.reduceMul, Int.reducePow, Nat.reducePow, reduceCtorEq, ha, e, rtextv_c, hp, hc]
/-- which outcomes may be -/
def mayO (o : Outc) : Bool := asc (bl o.cond) && (decide (o.cond.size = 0) || o.kind == 3) &&
  (if o.kind = 1 then decide (o.a ≤ 4294967295) else if o.kind = 5 then decide (o.a ≤ 1) && decide (o.b ≤ 1) else if o.kind = 0 ∨ o.kind = 2 ∨ o.kind = 3 ∨ o.kind = 4 then o.a == 0 && o.b == 0 else false)
end Go.Bw.R1

namespace Go.Bw.R1
set_option maxRecDepth 5000
open Go Go.Bw Go.Proofs
set_option maxHeartbeats 1000000 in
theorem omay_0 (a b : Int) (c : ByteArray) (hs : c.size ≤ 3000000)  : EV 37 [(Outc.mk 0 a b c).d] [] = some (.ret (B (mayO ⟨0, a, b, c⟩)), []) := by
  have hz := size0 c
  have el : decide (a < 4294967296) = decide (a ≤ 4294967295) := decide_eq_decide.2 (by omega)
  have ha := uascii_c c (by omega)
  refine (ev_body ⟨[1], [], [], false, [], noIt⟩ [.tmp 2] rfl Tryz.func37 rfl rfl rfl (by kernel_rfl) (by show 1 ≤ 48; decide)).trans ?_
  cases hy : asc (bl c) <;> cases hq : decide (c.size = 0) <;> rw [hy] at ha <;> rw [hq] at hz
  all_goals (try simp only [Bool.false_eq_true, if_true, if_false] at ha)
  all_goals simp +contextual (maxSteps := 10000000) only [↓reduceIte, go_sem, Nat.reduceEqDiff, Nat.reduceAdd, Nat.reduceSub, Nat.reduceMul, Nat.reduceLeDiff, Nat.reduceLT, Nat.reduceBEq, Nat.reduceDiv, Nat.reduceMod, Int.reduceLE, Int.reduceLT, Int.reduceEq, Int.reduceBEq, Int.reduceBNe, Int.reduceAdd, Int.reduceSub, Int.reduceNeg, Int.reduceToNat, Int.reduceMul, Int.reducePow, Nat.reducePow, reduceCtorEq, ha, hz, hy, hq, el, mayO, Int.reduceEq, or_self, true_or, or_true, or_false, false_or, if_true, if_false, Bool.false_and, Bool.true_and, Bool.and_true, Bool.and_false, Bool.or_true, Bool.or_false, Bool.false_or, Bool.true_or, Bool.not_true, Bool.not_false]
  all_goals rfl
set_option maxHeartbeats 1000000 in
theorem omay_1 (a b : Int) (c : ByteArray) (hs : c.size ≤ 3000000)  : EV 37 [(Outc.mk 1 a b c).d] [] = some (.ret (B (mayO ⟨1, a, b, c⟩)), []) := by
  have hz := size0 c
  have el : decide (a < 4294967296) = decide (a ≤ 4294967295) := decide_eq_decide.2 (by omega)
  have ha := uascii_c c (by omega)
  refine (ev_body ⟨[1], [], [], false, [], noIt⟩ [.tmp 2] rfl Tryz.func37 rfl rfl rfl (by kernel_rfl) (by show 1 ≤ 48; decide)).trans ?_
  cases hy : asc (bl c) <;> cases hq : decide (c.size = 0) <;> rw [hy] at ha <;> rw [hq] at hz
  all_goals (try simp only [Bool.false_eq_true, if_true, if_false] at ha)
  all_goals simp +contextual (maxSteps := 10000000) only [↓reduceIte, go_sem, Nat.reduceEqDiff, Nat.reduceAdd, Nat.reduceSub, Nat.reduceMul, Nat.reduceLeDiff, Nat.reduceLT, Nat.reduceBEq, Nat.reduceDiv, Nat.reduceMod, Int.reduceLE, Int.reduceLT, Int.reduceEq, Int.reduceBEq, Int.reduceBNe, Int.reduceAdd, Int.reduceSub, Int.reduceNeg, Int.reduceToNat, Int.reduceMul, Int.reducePow, Nat.reducePow, reduceCtorEq, ha, hz, hy, hq, el, mayO, Int.reduceEq, or_self, true_or, or_true, or_false, false_or, if_true, if_false, Bool.false_and, Bool.true_and, Bool.and_true, Bool.and_false, Bool.or_true, Bool.or_false, Bool.false_or, Bool.true_or, Bool.not_true, Bool.not_false]
  all_goals rfl
set_option maxHeartbeats 1000000 in
theorem omay_2 (a b : Int) (c : ByteArray) (hs : c.size ≤ 3000000)  : EV 37 [(Outc.mk 2 a b c).d] [] = some (.ret (B (mayO ⟨2, a, b, c⟩)), []) := by
  have hz := size0 c
  have el : decide (a < 4294967296) = decide (a ≤ 4294967295) := decide_eq_decide.2 (by omega)
  have ha := uascii_c c (by omega)
  refine (ev_body ⟨[1], [], [], false, [], noIt⟩ [.tmp 2] rfl Tryz.func37 rfl rfl rfl (by kernel_rfl) (by show 1 ≤ 48; decide)).trans ?_
  cases hy : asc (bl c) <;> cases hq : decide (c.size = 0) <;> rw [hy] at ha <;> rw [hq] at hz
  all_goals (try simp only [Bool.false_eq_true, if_true, if_false] at ha)
  all_goals simp +contextual (maxSteps := 10000000) only [↓reduceIte, go_sem, Nat.reduceEqDiff, Nat.reduceAdd, Nat.reduceSub, Nat.reduceMul, Nat.reduceLeDiff, Nat.reduceLT, Nat.reduceBEq, Nat.reduceDiv, Nat.reduceMod, Int.reduceLE, Int.reduceLT, Int.reduceEq, Int.reduceBEq, Int.reduceBNe, Int.reduceAdd, Int.reduceSub, Int.reduceNeg, Int.reduceToNat, Int.reduceMul, Int.reducePow, Nat.reducePow, reduceCtorEq, ha, hz, hy, hq, el, mayO, Int.reduceEq, or_self, true_or, or_true, or_false, false_or, if_true, if_false, Bool.false_and, Bool.true_and, Bool.and_true, Bool.and_false, Bool.or_true, Bool.or_false, Bool.false_or, Bool.true_or, Bool.not_true, Bool.not_false]
  all_goals rfl
set_option maxHeartbeats 1000000 in
theorem omay_3 (a b : Int) (c : ByteArray) (hs : c.size ≤ 3000000)  : EV 37 [(Outc.mk 3 a b c).d] [] = some (.ret (B (mayO ⟨3, a, b, c⟩)), []) := by
  have hz := size0 c
  have el : decide (a < 4294967296) = decide (a ≤ 4294967295) := decide_eq_decide.2 (by omega)
  have ha := uascii_c c (by omega)
  refine (ev_body ⟨[1], [], [], false, [], noIt⟩ [.tmp 2] rfl Tryz.func37 rfl rfl rfl (by kernel_rfl) (by show 1 ≤ 48; decide)).trans ?_
  cases hy : asc (bl c) <;> cases hq : decide (c.size = 0) <;> rw [hy] at ha <;> rw [hq] at hz
  all_goals (try simp only [Bool.false_eq_true, if_true, if_false] at ha)
  all_goals simp +contextual (maxSteps := 10000000) only [↓reduceIte, go_sem, Nat.reduceEqDiff, Nat.reduceAdd, Nat.reduceSub, Nat.reduceMul, Nat.reduceLeDiff, Nat.reduceLT, Nat.reduceBEq, Nat.reduceDiv, Nat.reduceMod, Int.reduceLE, Int.reduceLT, Int.reduceEq, Int.reduceBEq, Int.reduceBNe, Int.reduceAdd, Int.reduceSub, Int.reduceNeg, Int.reduceToNat, Int.reduceMul, Int.reducePow, Nat.reducePow, reduceCtorEq, ha, hz, hy, hq, el, mayO, Int.reduceEq, or_self, true_or, or_true, or_false, false_or, if_true, if_false, Bool.false_and, Bool.true_and, Bool.and_true, Bool.and_false, Bool.or_true, Bool.or_false, Bool.false_or, Bool.true_or, Bool.not_true, Bool.not_false]
  all_goals rfl
set_option maxHeartbeats 1000000 in
theorem omay_4 (a b : Int) (c : ByteArray) (hs : c.size ≤ 3000000)  : EV 37 [(Outc.mk 4 a b c).d] [] = some (.ret (B (mayO ⟨4, a, b, c⟩)), []) := by
  have hz := size0 c
  have el : decide (a < 4294967296) = decide (a ≤ 4294967295) := decide_eq_decide.2 (by omega)
  have ha := uascii_c c (by omega)
  refine (ev_body ⟨[1], [], [], false, [], noIt⟩ [.tmp 2] rfl Tryz.func37 rfl rfl rfl (by kernel_rfl) (by show 1 ≤ 48; decide)).trans ?_
  cases hy : asc (bl c) <;> cases hq : decide (c.size = 0) <;> rw [hy] at ha <;> rw [hq] at hz
  all_goals (try simp only [Bool.false_eq_true, if_true, if_false] at ha)
  all_goals simp +contextual (maxSteps := 10000000) only [↓reduceIte, go_sem, Nat.reduceEqDiff, Nat.reduceAdd, Nat.reduceSub, Nat.reduceMul, Nat.reduceLeDiff, Nat.reduceLT, Nat.reduceBEq, Nat.reduceDiv, Nat.reduceMod, Int.reduceLE, Int.reduceLT, Int.reduceEq, Int.reduceBEq, Int.reduceBNe, Int.reduceAdd, Int.reduceSub, Int.reduceNeg, Int.reduceToNat, Int.reduceMul, Int.reducePow, Nat.reducePow, reduceCtorEq, ha, hz, hy, hq, el, mayO, Int.reduceEq, or_self, true_or, or_true, or_false, false_or, if_true, if_false, Bool.false_and, Bool.true_and, Bool.and_true, Bool.and_false, Bool.or_true, Bool.or_false, Bool.false_or, Bool.true_or, Bool.not_true, Bool.not_false]
  all_goals rfl
set_option maxHeartbeats 1000000 in
theorem omay_5 (a b : Int) (c : ByteArray) (hs : c.size ≤ 3000000)  : EV 37 [(Outc.mk 5 a b c).d] [] = some (.ret (B (mayO ⟨5, a, b, c⟩)), []) := by
  have hz := size0 c
  have el : decide (a < 4294967296) = decide (a ≤ 4294967295) := decide_eq_decide.2 (by omega)
  have ha := uascii_c c (by omega)
  refine (ev_body ⟨[1], [], [], false, [], noIt⟩ [.tmp 2] rfl Tryz.func37 rfl rfl rfl (by kernel_rfl) (by show 1 ≤ 48; decide)).trans ?_
  cases hy : asc (bl c) <;> cases hq : decide (c.size = 0) <;> rw [hy] at ha <;> rw [hq] at hz
  all_goals (try simp only [Bool.false_eq_true, if_true, if_false] at ha)
  all_goals simp +contextual (maxSteps := 10000000) only [↓reduceIte, go_sem, Nat.reduceEqDiff, Nat.reduceAdd, Nat.reduceSub, Nat.reduceMul, Nat.reduceLeDiff, Nat.reduceLT, Nat.reduceBEq, Nat.reduceDiv, Nat.reduceMod, Int.reduceLE, Int.reduceLT, Int.reduceEq, Int.reduceBEq, Int.reduceBNe, Int.reduceAdd, Int.reduceSub, Int.reduceNeg, Int.reduceToNat, Int.reduceMul, Int.reducePow, Nat.reducePow, reduceCtorEq, ha, hz, hy, hq, el, mayO, Int.reduceEq, or_self, true_or, or_true, or_false, false_or, if_true, if_false, Bool.false_and, Bool.true_and, Bool.and_true, Bool.and_false, Bool.or_true, Bool.or_false, Bool.false_or, Bool.true_or, Bool.not_true, Bool.not_false]
  all_goals rfl
set_option maxHeartbeats 1000000 in
theorem omay_k (k : Int) (a b : Int) (c : ByteArray) (hs : c.size ≤ 3000000) (h0 : k ≠ 0) (h1 : k ≠ 1) (h2 : k ≠ 2) (h3 : k ≠ 3) (h4 : k ≠ 4) (h5 : k ≠ 5) : EV 37 [(Outc.mk k a b c).d] [] = some (.ret (B (mayO ⟨k, a, b, c⟩)), []) := by
  have hz := size0 c
  have el : decide (a < 4294967296) = decide (a ≤ 4294967295) := decide_eq_decide.2 (by omega)
  have ha := uascii_c c (by omega)
  refine (ev_body ⟨[1], [], [], false, [], noIt⟩ [.tmp 2] rfl Tryz.func37 rfl rfl rfl (by kernel_rfl) (by show 1 ≤ 48; decide)).trans ?_
  cases hy : asc (bl c) <;> cases hq : decide (c.size = 0) <;> rw [hy] at ha <;> rw [hq] at hz
  all_goals (try simp only [Bool.false_eq_true, if_true, if_false] at ha)
  all_goals simp +contextual (maxSteps := 10000000) only [↓reduceIte, go_sem, Nat.reduceEqDiff, Nat.reduceAdd, Nat.reduceSub, Nat.reduceMul, Nat.reduceLeDiff, Nat.reduceLT, Nat.reduceBEq, Nat.reduceDiv, Nat.reduceMod, Int.reduceLE, Int.reduceLT, Int.reduceEq, Int.reduceBEq, Int.reduceBNe, Int.reduceAdd, Int.reduceSub, Int.reduceNeg, Int.reduceToNat, Int.reduceMul, Int.reducePow, Nat.reducePow, reduceCtorEq, ha, hz, hy, hq, el, mayO, Int.reduceEq, or_self, true_or, or_true, or_false, false_or, if_true, if_false, Bool.false_and, Bool.true_and, Bool.and_true, Bool.and_false, Bool.or_true, Bool.or_false, Bool.false_or, Bool.true_or, Bool.not_true, Bool.not_false, (by simpa using h3 : (k != 3) = true), (beq_eq_false_iff_ne.2 h0 : (k == 0) = false), (beq_eq_false_iff_ne.2 h1 : (k == 1) = false), (beq_eq_false_iff_ne.2 h2 : (k == 2) = false), (beq_eq_false_iff_ne.2 h3 : (k == 3) = false), (beq_eq_false_iff_ne.2 h4 : (k == 4) = false), (beq_eq_false_iff_ne.2 h5 : (k == 5) = false), if_neg h1, if_neg h5, h0, h2, h3, h4]
  all_goals rfl
theorem omay_c (o : Outc) (hs : o.cond.size ≤ 3000000) : EV 37 [o.d] [] = some (.ret (B (mayO o)), []) := by
  obtain ⟨k, a, b, c⟩ := o
  by_cases h0 : k = 0
  · subst h0; exact omay_0 a b c hs
  by_cases h1 : k = 1
  · subst h1; exact omay_1 a b c hs
  by_cases h2 : k = 2
  · subst h2; exact omay_2 a b c hs
  by_cases h3 : k = 3
  · subst h3; exact omay_3 a b c hs
  by_cases h4 : k = 4
  · subst h4; exact omay_4 a b c hs
  by_cases h5 : k = 5
  · subst h5; exact omay_5 a b c hs
  exact omay_k k a b c hs h0 h1 h2 h3 h4 h5
def nm1 : ByteArray := ⟨#[97, 109, 113, 112, 58, 114, 101, 99, 101, 105, 118, 101, 100, 58, 108, 105, 115, 116]⟩
@[reducible] def form1 : D := .agg [U8 1, U64 35, Sx nm1, I 2, .fn (.func 53) [] [], .fn (.func 54) [] []]
def nm2 : ByteArray := ⟨#[97, 109, 113, 112, 58, 97, 99, 99, 101, 112, 116, 101, 100, 58, 108, 105, 115, 116]⟩
@[reducible] def form2 : D := .agg [U8 2, U64 36, Sx nm2, I 0, .fn (.func 56) [] [], .fn (.func 57) [] []]
def nm3 : ByteArray := ⟨#[97, 109, 113, 112, 58, 114, 101, 106, 101, 99, 116, 101, 100, 58, 108, 105, 115, 116]⟩
@[reducible] def form3 : D := .agg [U8 3, U64 37, Sx nm3, I 1, .fn (.func 58) [] [], .fn (.func 59) [] []]
def nm4 : ByteArray := ⟨#[97, 109, 113, 112, 58, 114, 101, 108, 101, 97, 115, 101, 100, 58, 108, 105, 115, 116]⟩
@[reducible] def form4 : D := .agg [U8 4, U64 38, Sx nm4, I 0, .fn (.func 56) [] [], .fn (.func 57) [] []]
def nm5 : ByteArray := ⟨#[97, 109, 113, 112, 58, 109, 111, 100, 105, 102, 105, 101, 100, 58, 108, 105, 115, 116]⟩
@[reducible] def form5 : D := .agg [U8 5, U64 39, Sx nm5, I 3, .fn (.func 61) [] [], .fn (.func 63) [] []]
theorem forms_c : EV 35 [] [] = some (.ret (.ro false [form1, form2, form3, form4, form5]), []) := by
  refine (ev_body ⟨[], [], [], true, [], noIt⟩ [.tmp 0] rfl Tryz.func35 rfl rfl rfl (by kernel_rfl) (by show 0 ≤ 7; decide)).trans ?_
  simp +contextual (maxSteps := 10000000) only [↓reduceIte, go_sem, Nat.reduceEqDiff, Nat.reduceAdd, Nat.reduceSub, Nat.reduceMul, Nat.reduceLeDiff, Nat.reduceLT, Nat.reduceBEq, Nat.reduceDiv, Nat.reduceMod, Int.reduceLE, Int.reduceLT, Int.reduceEq, Int.reduceBEq, Int.reduceBNe, Int.reduceAdd, Int.reduceSub, Int.reduceNeg, Int.reduceToNat, Int.reduceMul, Int.reducePow, Nat.reducePow, reduceCtorEq]
  rfl
def flagV (n : Int) : Val := if n = 0 then vN else .mk 2 1 ⟨#[]⟩ []
theorem truth_c (n : Int) : EV 62 [U64 n] [] = some (.ret (flagV n).d, []) := by
  refine (ev_body ⟨[], [], [], true, [], noIt⟩ [.cell 2 25] rfl Tryz.func62 rfl rfl rfl (by kernel_rfl) (by show 1 ≤ 7; decide)).trans ?_
  have hb := bool_c true
  simp only [if_true] at hb
  by_cases h : n = 0
  · have e : (n == 0) = true := by simpa using h
    simp +contextual (maxSteps := 10000000) only [↓reduceIte, go_sem, Nat.reduceEqDiff, Nat.reduceAdd, Nat.reduceSub, Nat.reduceMul, Nat.reduceLeDiff, Nat.reduceLT, Nat.reduceBEq, Nat.reduceDiv, Nat.reduceMod, Int.reduceLE, Int.reduceLT, Int.reduceEq, Int.reduceBEq, Int.reduceBNe, Int.reduceAdd, Int.reduceSub, Int.reduceNeg, Int.reduceToNat, Int.reduceMul, Int.reducePow, Nat.reducePow, reduceCtorEq, e, null_c, flagV, h]
  · have e : (n == 0) = false := by simpa using h
    simp +contextual (maxSteps := 10000000) only [↓reduceIte, go_sem, Nat.reduceEqDiff, Nat.reduceAdd, Nat.reduceSub, Nat.reduceMul, Nat.reduceLeDiff, Nat.reduceLT, Nat.reduceBEq, Nat.reduceDiv, Nat.reduceMod, Int.reduceLE, Int.reduceLT, Int.reduceEq, Int.reduceBEq, Int.reduceBNe, Int.reduceAdd, Int.reduceSub, Int.reduceNeg, Int.reduceToNat, Int.reduceMul, Int.reducePow, Nat.reducePow, reduceCtorEq, e, hb, flagV, h]
theorem put1_c (o : Outc) : EV 53 [o.d] [] = some (.ret (.ro false ([Val.mk 5 o.a ⟨#[]⟩ [], Val.mk 6 o.b ⟨#[]⟩ []].map Val.d)), []) := by
  refine (ev_body ⟨[1], [], [(1, [(0, 0, false), (1, 0, false), (2, 0, false), (3, 0, false), (4, 0, false), (5, 0, false), (6, 0, false), (7, 0, false)])], true, [], noIt⟩ [.tmp 2] rfl Tryz.func53 rfl rfl rfl (by kernel_rfl) (by show 1 ≤ 10; decide)).trans ?_
  simp +contextual (maxSteps := 10000000) only [↓reduceIte, go_sem, Nat.reduceEqDiff, Nat.reduceAdd, Nat.reduceSub, Nat.reduceMul, Nat.reduceLeDiff, Nat.reduceLT, Nat.reduceBEq, Nat.reduceDiv, Nat.reduceMod, Int.reduceLE, Int.reduceLT, Int.reduceEq, Int.reduceBEq, Int.reduceBNe, Int.reduceAdd, Int.reduceSub, Int.reduceNeg, Int.reduceToNat, Int.reduceMul, Int.reducePow, Nat.reducePow, reduceCtorEq, number_c]
theorem put0_c (o : Outc) : EV 56 [o.d] [] = some (.ret (.ro false []), []) := by
  refine (ev_body ⟨[1], [], [], true, [], noIt⟩ [.tmp 2] rfl Tryz.func56 rfl rfl rfl (by kernel_rfl) (by show 1 ≤ 3; decide)).trans ?_
  simp +contextual (maxSteps := 10000000) only [↓reduceIte, go_sem, Nat.reduceEqDiff, Nat.reduceAdd, Nat.reduceSub, Nat.reduceMul, Nat.reduceLeDiff, Nat.reduceLT, Nat.reduceBEq, Nat.reduceDiv, Nat.reduceMod, Int.reduceLE, Int.reduceLT, Int.reduceEq, Int.reduceBEq, Int.reduceBNe, Int.reduceAdd, Int.reduceSub, Int.reduceNeg, Int.reduceToNat, Int.reduceMul, Int.reducePow, Nat.reducePow, reduceCtorEq]
theorem put3_c (o : Outc) (hs : o.cond.size ≤ 3000000) (ha : asc (bl o.cond) = true) : EV 58 [o.d] [] = some (.ret (.ro false ([condV o.cond].map Val.d)), []) := by
  have hp := pcond_c o.cond hs
  rw [if_pos ha] at hp
  refine (ev_body ⟨[1], [], [], true, [], noIt⟩ [.tmp 2] rfl Tryz.func58 rfl rfl rfl (by kernel_rfl) (by show 1 ≤ 13; decide)).trans ?_
  simp +contextual (maxSteps := 10000000) only [↓reduceIte, go_sem, Nat.reduceEqDiff, Nat.reduceAdd, Nat.reduceSub, Nat.reduceMul, Nat.reduceLeDiff, Nat.reduceLT, Nat.reduceBEq, Nat.reduceDiv, Nat.reduceMod, Int.reduceLE, Int.reduceLT, Int.reduceEq, Int.reduceBEq, Int.reduceBNe, Int.reduceAdd, Int.reduceSub, Int.reduceNeg, Int.reduceToNat, Int.reduceMul, Int.reducePow, Nat.reducePow, reduceCtorEq, hp]
theorem put5_c (o : Outc) : EV 61 [o.d] [] = some (.ret (.ro false ([flagV o.a, flagV o.b].map Val.d)), []) := by
  refine (ev_body ⟨[1], [], [(1, [(0, 0, false), (1, 0, false), (2, 0, false), (3, 0, false), (4, 0, false), (5, 0, false), (6, 0, false), (7, 0, false)])], true, [], noIt⟩ [.tmp 2] rfl Tryz.func61 rfl rfl rfl (by kernel_rfl) (by show 1 ≤ 10; decide)).trans ?_
  simp +contextual (maxSteps := 10000000) only [↓reduceIte, go_sem, Nat.reduceEqDiff, Nat.reduceAdd, Nat.reduceSub, Nat.reduceMul, Nat.reduceLeDiff, Nat.reduceLT, Nat.reduceBEq, Nat.reduceDiv, Nat.reduceMod, Int.reduceLE, Int.reduceLT, Int.reduceEq, Int.reduceBEq, Int.reduceBNe, Int.reduceAdd, Int.reduceSub, Int.reduceNeg, Int.reduceToNat, Int.reduceMul, Int.reducePow, Nat.reducePow, reduceCtorEq, truth_c]
/-- the fields of an outcome -/
def outF (o : Outc) : List Val := if o.kind = 1 then [.mk 5 o.a ⟨#[]⟩ [], .mk 6 o.b ⟨#[]⟩ []] else if o.kind = 3 then [condV o.cond] else if o.kind = 5 then [flagV o.a, flagV o.b] else []
def outV (o : Outc) : Val := if o.kind = 0 then vN else putS (34 + o.kind) (outF o)
def putO (o : Outc) : D := if mayO o = true then .tup [(outV o).d, I 0] else wrongV
theorem condV_sz (s : ByteArray) : (condV s).sz ≤ s.size + 10 := by
  unfold condV
  split
  · exact Nat.le_trans (by decide : vN.sz ≤ 10) (by omega)
  · have := putS_sz 29 [.mk 21 0 s []]
    simp only [Val.szL, Val.sz] at this; omega
theorem flagV_sz (n : Int) : (flagV n).sz ≤ 10 := by unfold flagV; split <;> decide
theorem outF_sz (o : Outc) : Val.szL (outF o) ≤ o.cond.size + 20 := by
  unfold outF
  split
  · simp only [Val.szL, Val.sz]; show 0 + 0 + 1 + (0 + 0 + 1 + 0) ≤ _; omega
  · split
    · have := condV_sz o.cond; simp only [Val.szL]; omega
    · split
      · have := flagV_sz o.a; have := flagV_sz o.b; simp only [Val.szL]; omega
      · simp [Val.szL]
theorem may_asc {o : Outc} (h : mayO o = true) : asc (bl o.cond) = true := by
  simp only [mayO, Bool.and_eq_true] at h; exact h.1.1
theorem may_kind {o : Outc} (h : mayO o = true) : o.kind = 0 ∨ o.kind = 1 ∨ o.kind = 2 ∨ o.kind = 3 ∨ o.kind = 4 ∨ o.kind = 5 := by
  simp only [mayO, Bool.and_eq_true] at h
  have h2 := h.2
  split at h2
  · rename_i h; exact .inr (.inl h)
  · split at h2
    · rename_i h; exact .inr (.inr (.inr (.inr (.inr h))))
    · split at h2
      · rename_i h; rcases h with h | h | h | h <;> simp [h]
      · cases h2
set_option maxRecDepth 20000 in
set_option maxHeartbeats 4000000 in
theorem oput_0 (a b : Int) (c : ByteArray) (hs : c.size ≤ 3000000) (hm : mayO ⟨0, a, b, c⟩ = true) : EV 16 [(Outc.mk 0 a b c).d] [] = some (.ret (.tup [(outV ⟨0, a, b, c⟩).d, I 0]), []) := by
  have h1 := omay_c ⟨0, a, b, c⟩ hs
  rw [hm] at h1
  simp only [Outc.d, Outc.cs] at h1
  refine (ev_body ⟨[1], [(0, [1, 2, 10, 11, 12])], [(7, [(0, 0, false), (1, 0, false), (2, 0, false), (3, 0, false), (4, 0, false), (5, 0, false), (6, 0, false), (7, 0, true), (8, 1, false)])], true, [], noIt⟩ [.cell 2 25, .tmp 3] rfl Tryz.func16 rfl rfl rfl (by kernel_rfl) (by show 1 ≤ 30; decide)).trans ?_
  simp +contextual (maxSteps := 10000000) only [↓reduceIte, go_sem, Nat.reduceEqDiff, Nat.reduceAdd, Nat.reduceSub, Nat.reduceMul, Nat.reduceLeDiff, Nat.reduceLT, Nat.reduceBEq, Nat.reduceDiv, Nat.reduceMod, Int.reduceLE, Int.reduceLT, Int.reduceEq, Int.reduceBEq, Int.reduceBNe, Int.reduceAdd, Int.reduceSub, Int.reduceNeg, Int.reduceToNat, Int.reduceMul, Int.reducePow, Nat.reducePow, reduceCtorEq, h1, forms_c]
  rw [lpK_go1]
  simp +contextual (maxSteps := 10000000) only [↓reduceIte, go_sem, Nat.reduceEqDiff, Nat.reduceAdd, Nat.reduceSub, Nat.reduceMul, Nat.reduceLeDiff, Nat.reduceLT, Nat.reduceBEq, Nat.reduceDiv, Nat.reduceMod, Int.reduceLE, Int.reduceLT, Int.reduceEq, Int.reduceBEq, Int.reduceBNe, Int.reduceAdd, Int.reduceSub, Int.reduceNeg, Int.reduceToNat, Int.reduceMul, Int.reducePow, Nat.reducePow, reduceCtorEq, h1, null_c, outV, if_true]
  rw [lpK_go1]
  simp +contextual (maxSteps := 10000000) only [↓reduceIte, go_sem, Nat.reduceEqDiff, Nat.reduceAdd, Nat.reduceSub, Nat.reduceMul, Nat.reduceLeDiff, Nat.reduceLT, Nat.reduceBEq, Nat.reduceDiv, Nat.reduceMod, Int.reduceLE, Int.reduceLT, Int.reduceEq, Int.reduceBEq, Int.reduceBNe, Int.reduceAdd, Int.reduceSub, Int.reduceNeg, Int.reduceToNat, Int.reduceMul, Int.reducePow, Nat.reducePow, reduceCtorEq, h1, null_c, outV, if_true]
  rw [lpK_go1]
  simp +contextual (maxSteps := 10000000) only [↓reduceIte, go_sem, Nat.reduceEqDiff, Nat.reduceAdd, Nat.reduceSub, Nat.reduceMul, Nat.reduceLeDiff, Nat.reduceLT, Nat.reduceBEq, Nat.reduceDiv, Nat.reduceMod, Int.reduceLE, Int.reduceLT, Int.reduceEq, Int.reduceBEq, Int.reduceBNe, Int.reduceAdd, Int.reduceSub, Int.reduceNeg, Int.reduceToNat, Int.reduceMul, Int.reducePow, Nat.reducePow, reduceCtorEq, h1, null_c, outV, if_true]
  rw [lpK_go1]
  simp +contextual (maxSteps := 10000000) only [↓reduceIte, go_sem, Nat.reduceEqDiff, Nat.reduceAdd, Nat.reduceSub, Nat.reduceMul, Nat.reduceLeDiff, Nat.reduceLT, Nat.reduceBEq, Nat.reduceDiv, Nat.reduceMod, Int.reduceLE, Int.reduceLT, Int.reduceEq, Int.reduceBEq, Int.reduceBNe, Int.reduceAdd, Int.reduceSub, Int.reduceNeg, Int.reduceToNat, Int.reduceMul, Int.reducePow, Nat.reducePow, reduceCtorEq, h1, null_c, outV, if_true]
  rw [lpK_go1]
  simp +contextual (maxSteps := 10000000) only [↓reduceIte, go_sem, Nat.reduceEqDiff, Nat.reduceAdd, Nat.reduceSub, Nat.reduceMul, Nat.reduceLeDiff, Nat.reduceLT, Nat.reduceBEq, Nat.reduceDiv, Nat.reduceMod, Int.reduceLE, Int.reduceLT, Int.reduceEq, Int.reduceBEq, Int.reduceBNe, Int.reduceAdd, Int.reduceSub, Int.reduceNeg, Int.reduceToNat, Int.reduceMul, Int.reducePow, Nat.reducePow, reduceCtorEq, h1, null_c, outV, if_true]
  rw [lpK_go1]
  simp +contextual (maxSteps := 10000000) only [↓reduceIte, go_sem, Nat.reduceEqDiff, Nat.reduceAdd, Nat.reduceSub, Nat.reduceMul, Nat.reduceLeDiff, Nat.reduceLT, Nat.reduceBEq, Nat.reduceDiv, Nat.reduceMod, Int.reduceLE, Int.reduceLT, Int.reduceEq, Int.reduceBEq, Int.reduceBNe, Int.reduceAdd, Int.reduceSub, Int.reduceNeg, Int.reduceToNat, Int.reduceMul, Int.reducePow, Nat.reducePow, reduceCtorEq, h1, null_c, outV, if_true]
set_option maxRecDepth 20000 in
set_option maxHeartbeats 4000000 in
theorem oput_1 (a b : Int) (c : ByteArray) (hs : c.size ≤ 3000000) (hm : mayO ⟨1, a, b, c⟩ = true) : EV 16 [(Outc.mk 1 a b c).d] [] = some (.ret (.tup [(outV ⟨1, a, b, c⟩).d, I 0]), []) := by
  have h1 := omay_c ⟨1, a, b, c⟩ hs
  rw [hm] at h1
  simp only [Outc.d, Outc.cs] at h1
  have hp := put1_c ⟨1, a, b, c⟩
  have hf := fput_c 35 [Val.mk 5 a ⟨#[]⟩ [], Val.mk 6 b ⟨#[]⟩ []] (by have := outF_sz ⟨1, a, b, c⟩; simp only [outF, Int.reduceEq, if_true, if_false] at this; omega)
  simp only [List.map_cons, List.map_nil, Outc.d, Outc.cs] at hp hf
  refine (ev_body ⟨[1], [(0, [1, 2, 10, 11, 12])], [(7, [(0, 0, false), (1, 0, false), (2, 0, false), (3, 0, false), (4, 0, false), (5, 0, false), (6, 0, false), (7, 0, true), (8, 1, false)])], true, [], noIt⟩ [.cell 2 25, .tmp 3] rfl Tryz.func16 rfl rfl rfl (by kernel_rfl) (by show 1 ≤ 30; decide)).trans ?_
  simp +contextual (maxSteps := 10000000) only [↓reduceIte, go_sem, Nat.reduceEqDiff, Nat.reduceAdd, Nat.reduceSub, Nat.reduceMul, Nat.reduceLeDiff, Nat.reduceLT, Nat.reduceBEq, Nat.reduceDiv, Nat.reduceMod, Int.reduceLE, Int.reduceLT, Int.reduceEq, Int.reduceBEq, Int.reduceBNe, Int.reduceAdd, Int.reduceSub, Int.reduceNeg, Int.reduceToNat, Int.reduceMul, Int.reducePow, Nat.reducePow, reduceCtorEq, h1, forms_c]
  rw [lpK_go1]
  simp +contextual (maxSteps := 10000000) only [↓reduceIte, go_sem, Nat.reduceEqDiff, Nat.reduceAdd, Nat.reduceSub, Nat.reduceMul, Nat.reduceLeDiff, Nat.reduceLT, Nat.reduceBEq, Nat.reduceDiv, Nat.reduceMod, Int.reduceLE, Int.reduceLT, Int.reduceEq, Int.reduceBEq, Int.reduceBNe, Int.reduceAdd, Int.reduceSub, Int.reduceNeg, Int.reduceToNat, Int.reduceMul, Int.reducePow, Nat.reducePow, reduceCtorEq, h1, hp, hf, outV, outF, Int.reduceAdd, if_true, if_false]
set_option maxRecDepth 20000 in
set_option maxHeartbeats 4000000 in
theorem oput_2 (a b : Int) (c : ByteArray) (hs : c.size ≤ 3000000) (hm : mayO ⟨2, a, b, c⟩ = true) : EV 16 [(Outc.mk 2 a b c).d] [] = some (.ret (.tup [(outV ⟨2, a, b, c⟩).d, I 0]), []) := by
  have h1 := omay_c ⟨2, a, b, c⟩ hs
  rw [hm] at h1
  simp only [Outc.d, Outc.cs] at h1
  have hp := put0_c ⟨2, a, b, c⟩
  have hf := fput_c 36 [] (by have := outF_sz ⟨2, a, b, c⟩; simp only [outF, Int.reduceEq, if_true, if_false] at this; omega)
  simp only [List.map_cons, List.map_nil, Outc.d, Outc.cs] at hp hf
  refine (ev_body ⟨[1], [(0, [1, 2, 10, 11, 12])], [(7, [(0, 0, false), (1, 0, false), (2, 0, false), (3, 0, false), (4, 0, false), (5, 0, false), (6, 0, false), (7, 0, true), (8, 1, false)])], true, [], noIt⟩ [.cell 2 25, .tmp 3] rfl Tryz.func16 rfl rfl rfl (by kernel_rfl) (by show 1 ≤ 30; decide)).trans ?_
  simp +contextual (maxSteps := 10000000) only [↓reduceIte, go_sem, Nat.reduceEqDiff, Nat.reduceAdd, Nat.reduceSub, Nat.reduceMul, Nat.reduceLeDiff, Nat.reduceLT, Nat.reduceBEq, Nat.reduceDiv, Nat.reduceMod, Int.reduceLE, Int.reduceLT, Int.reduceEq, Int.reduceBEq, Int.reduceBNe, Int.reduceAdd, Int.reduceSub, Int.reduceNeg, Int.reduceToNat, Int.reduceMul, Int.reducePow, Nat.reducePow, reduceCtorEq, h1, forms_c]
  rw [lpK_go1]
  simp +contextual (maxSteps := 10000000) only [↓reduceIte, go_sem, Nat.reduceEqDiff, Nat.reduceAdd, Nat.reduceSub, Nat.reduceMul, Nat.reduceLeDiff, Nat.reduceLT, Nat.reduceBEq, Nat.reduceDiv, Nat.reduceMod, Int.reduceLE, Int.reduceLT, Int.reduceEq, Int.reduceBEq, Int.reduceBNe, Int.reduceAdd, Int.reduceSub, Int.reduceNeg, Int.reduceToNat, Int.reduceMul, Int.reducePow, Nat.reducePow, reduceCtorEq, h1, hp, hf, outV, outF, Int.reduceAdd, if_true, if_false]
  rw [lpK_go1]
  simp +contextual (maxSteps := 10000000) only [↓reduceIte, go_sem, Nat.reduceEqDiff, Nat.reduceAdd, Nat.reduceSub, Nat.reduceMul, Nat.reduceLeDiff, Nat.reduceLT, Nat.reduceBEq, Nat.reduceDiv, Nat.reduceMod, Int.reduceLE, Int.reduceLT, Int.reduceEq, Int.reduceBEq, Int.reduceBNe, Int.reduceAdd, Int.reduceSub, Int.reduceNeg, Int.reduceToNat, Int.reduceMul, Int.reducePow, Nat.reducePow, reduceCtorEq, h1, hp, hf, outV, outF, Int.reduceAdd, if_true, if_false]
set_option maxRecDepth 20000 in
set_option maxHeartbeats 4000000 in
theorem oput_3 (a b : Int) (c : ByteArray) (hs : c.size ≤ 3000000) (hm : mayO ⟨3, a, b, c⟩ = true) : EV 16 [(Outc.mk 3 a b c).d] [] = some (.ret (.tup [(outV ⟨3, a, b, c⟩).d, I 0]), []) := by
  have h1 := omay_c ⟨3, a, b, c⟩ hs
  rw [hm] at h1
  simp only [Outc.d, Outc.cs] at h1
  have hp := put3_c ⟨3, a, b, c⟩ hs (may_asc hm)
  have hf := fput_c 37 [condV c] (by have := outF_sz ⟨3, a, b, c⟩; simp only [outF, Int.reduceEq, if_true, if_false] at this; omega)
  simp only [List.map_cons, List.map_nil, Outc.d, Outc.cs] at hp hf
  refine (ev_body ⟨[1], [(0, [1, 2, 10, 11, 12])], [(7, [(0, 0, false), (1, 0, false), (2, 0, false), (3, 0, false), (4, 0, false), (5, 0, false), (6, 0, false), (7, 0, true), (8, 1, false)])], true, [], noIt⟩ [.cell 2 25, .tmp 3] rfl Tryz.func16 rfl rfl rfl (by kernel_rfl) (by show 1 ≤ 30; decide)).trans ?_
  simp +contextual (maxSteps := 10000000) only [↓reduceIte, go_sem, Nat.reduceEqDiff, Nat.reduceAdd, Nat.reduceSub, Nat.reduceMul, Nat.reduceLeDiff, Nat.reduceLT, Nat.reduceBEq, Nat.reduceDiv, Nat.reduceMod, Int.reduceLE, Int.reduceLT, Int.reduceEq, Int.reduceBEq, Int.reduceBNe, Int.reduceAdd, Int.reduceSub, Int.reduceNeg, Int.reduceToNat, Int.reduceMul, Int.reducePow, Nat.reducePow, reduceCtorEq, h1, forms_c]
  rw [lpK_go1]
  simp +contextual (maxSteps := 10000000) only [↓reduceIte, go_sem, Nat.reduceEqDiff, Nat.reduceAdd, Nat.reduceSub, Nat.reduceMul, Nat.reduceLeDiff, Nat.reduceLT, Nat.reduceBEq, Nat.reduceDiv, Nat.reduceMod, Int.reduceLE, Int.reduceLT, Int.reduceEq, Int.reduceBEq, Int.reduceBNe, Int.reduceAdd, Int.reduceSub, Int.reduceNeg, Int.reduceToNat, Int.reduceMul, Int.reducePow, Nat.reducePow, reduceCtorEq, h1, hp, hf, outV, outF, Int.reduceAdd, if_true, if_false]
  rw [lpK_go1]
  simp +contextual (maxSteps := 10000000) only [↓reduceIte, go_sem, Nat.reduceEqDiff, Nat.reduceAdd, Nat.reduceSub, Nat.reduceMul, Nat.reduceLeDiff, Nat.reduceLT, Nat.reduceBEq, Nat.reduceDiv, Nat.reduceMod, Int.reduceLE, Int.reduceLT, Int.reduceEq, Int.reduceBEq, Int.reduceBNe, Int.reduceAdd, Int.reduceSub, Int.reduceNeg, Int.reduceToNat, Int.reduceMul, Int.reducePow, Nat.reducePow, reduceCtorEq, h1, hp, hf, outV, outF, Int.reduceAdd, if_true, if_false]
  rw [lpK_go1]
  simp +contextual (maxSteps := 10000000) only [↓reduceIte, go_sem, Nat.reduceEqDiff, Nat.reduceAdd, Nat.reduceSub, Nat.reduceMul, Nat.reduceLeDiff, Nat.reduceLT, Nat.reduceBEq, Nat.reduceDiv, Nat.reduceMod, Int.reduceLE, Int.reduceLT, Int.reduceEq, Int.reduceBEq, Int.reduceBNe, Int.reduceAdd, Int.reduceSub, Int.reduceNeg, Int.reduceToNat, Int.reduceMul, Int.reducePow, Nat.reducePow, reduceCtorEq, h1, hp, hf, outV, outF, Int.reduceAdd, if_true, if_false]
set_option maxRecDepth 20000 in
set_option maxHeartbeats 4000000 in
theorem oput_4 (a b : Int) (c : ByteArray) (hs : c.size ≤ 3000000) (hm : mayO ⟨4, a, b, c⟩ = true) : EV 16 [(Outc.mk 4 a b c).d] [] = some (.ret (.tup [(outV ⟨4, a, b, c⟩).d, I 0]), []) := by
  have h1 := omay_c ⟨4, a, b, c⟩ hs
  rw [hm] at h1
  simp only [Outc.d, Outc.cs] at h1
  have hp := put0_c ⟨4, a, b, c⟩
  have hf := fput_c 38 [] (by have := outF_sz ⟨4, a, b, c⟩; simp only [outF, Int.reduceEq, if_true, if_false] at this; omega)
  simp only [List.map_cons, List.map_nil, Outc.d, Outc.cs] at hp hf
  refine (ev_body ⟨[1], [(0, [1, 2, 10, 11, 12])], [(7, [(0, 0, false), (1, 0, false), (2, 0, false), (3, 0, false), (4, 0, false), (5, 0, false), (6, 0, false), (7, 0, true), (8, 1, false)])], true, [], noIt⟩ [.cell 2 25, .tmp 3] rfl Tryz.func16 rfl rfl rfl (by kernel_rfl) (by show 1 ≤ 30; decide)).trans ?_
  simp +contextual (maxSteps := 10000000) only [↓reduceIte, go_sem, Nat.reduceEqDiff, Nat.reduceAdd, Nat.reduceSub, Nat.reduceMul, Nat.reduceLeDiff, Nat.reduceLT, Nat.reduceBEq, Nat.reduceDiv, Nat.reduceMod, Int.reduceLE, Int.reduceLT, Int.reduceEq, Int.reduceBEq, Int.reduceBNe, Int.reduceAdd, Int.reduceSub, Int.reduceNeg, Int.reduceToNat, Int.reduceMul, Int.reducePow, Nat.reducePow, reduceCtorEq, h1, forms_c]
  rw [lpK_go1]
  simp +contextual (maxSteps := 10000000) only [↓reduceIte, go_sem, Nat.reduceEqDiff, Nat.reduceAdd, Nat.reduceSub, Nat.reduceMul, Nat.reduceLeDiff, Nat.reduceLT, Nat.reduceBEq, Nat.reduceDiv, Nat.reduceMod, Int.reduceLE, Int.reduceLT, Int.reduceEq, Int.reduceBEq, Int.reduceBNe, Int.reduceAdd, Int.reduceSub, Int.reduceNeg, Int.reduceToNat, Int.reduceMul, Int.reducePow, Nat.reducePow, reduceCtorEq, h1, hp, hf, outV, outF, Int.reduceAdd, if_true, if_false]
  rw [lpK_go1]
  simp +contextual (maxSteps := 10000000) only [↓reduceIte, go_sem, Nat.reduceEqDiff, Nat.reduceAdd, Nat.reduceSub, Nat.reduceMul, Nat.reduceLeDiff, Nat.reduceLT, Nat.reduceBEq, Nat.reduceDiv, Nat.reduceMod, Int.reduceLE, Int.reduceLT, Int.reduceEq, Int.reduceBEq, Int.reduceBNe, Int.reduceAdd, Int.reduceSub, Int.reduceNeg, Int.reduceToNat, Int.reduceMul, Int.reducePow, Nat.reducePow, reduceCtorEq, h1, hp, hf, outV, outF, Int.reduceAdd, if_true, if_false]
  rw [lpK_go1]
  simp +contextual (maxSteps := 10000000) only [↓reduceIte, go_sem, Nat.reduceEqDiff, Nat.reduceAdd, Nat.reduceSub, Nat.reduceMul, Nat.reduceLeDiff, Nat.reduceLT, Nat.reduceBEq, Nat.reduceDiv, Nat.reduceMod, Int.reduceLE, Int.reduceLT, Int.reduceEq, Int.reduceBEq, Int.reduceBNe, Int.reduceAdd, Int.reduceSub, Int.reduceNeg, Int.reduceToNat, Int.reduceMul, Int.reducePow, Nat.reducePow, reduceCtorEq, h1, hp, hf, outV, outF, Int.reduceAdd, if_true, if_false]
  rw [lpK_go1]
  simp +contextual (maxSteps := 10000000) only [↓reduceIte, go_sem, Nat.reduceEqDiff, Nat.reduceAdd, Nat.reduceSub, Nat.reduceMul, Nat.reduceLeDiff, Nat.reduceLT, Nat.reduceBEq, Nat.reduceDiv, Nat.reduceMod, Int.reduceLE, Int.reduceLT, Int.reduceEq, Int.reduceBEq, Int.reduceBNe, Int.reduceAdd, Int.reduceSub, Int.reduceNeg, Int.reduceToNat, Int.reduceMul, Int.reducePow, Nat.reducePow, reduceCtorEq, h1, hp, hf, outV, outF, Int.reduceAdd, if_true, if_false]
set_option maxRecDepth 20000 in
set_option maxHeartbeats 4000000 in
theorem oput_5 (a b : Int) (c : ByteArray) (hs : c.size ≤ 3000000) (hm : mayO ⟨5, a, b, c⟩ = true) : EV 16 [(Outc.mk 5 a b c).d] [] = some (.ret (.tup [(outV ⟨5, a, b, c⟩).d, I 0]), []) := by
  have h1 := omay_c ⟨5, a, b, c⟩ hs
  rw [hm] at h1
  simp only [Outc.d, Outc.cs] at h1
  have hp := put5_c ⟨5, a, b, c⟩
  have hf := fput_c 39 [flagV a, flagV b] (by have := outF_sz ⟨5, a, b, c⟩; simp only [outF, Int.reduceEq, if_true, if_false] at this; omega)
  simp only [List.map_cons, List.map_nil, Outc.d, Outc.cs] at hp hf
  refine (ev_body ⟨[1], [(0, [1, 2, 10, 11, 12])], [(7, [(0, 0, false), (1, 0, false), (2, 0, false), (3, 0, false), (4, 0, false), (5, 0, false), (6, 0, false), (7, 0, true), (8, 1, false)])], true, [], noIt⟩ [.cell 2 25, .tmp 3] rfl Tryz.func16 rfl rfl rfl (by kernel_rfl) (by show 1 ≤ 30; decide)).trans ?_
  simp +contextual (maxSteps := 10000000) only [↓reduceIte, go_sem, Nat.reduceEqDiff, Nat.reduceAdd, Nat.reduceSub, Nat.reduceMul, Nat.reduceLeDiff, Nat.reduceLT, Nat.reduceBEq, Nat.reduceDiv, Nat.reduceMod, Int.reduceLE, Int.reduceLT, Int.reduceEq, Int.reduceBEq, Int.reduceBNe, Int.reduceAdd, Int.reduceSub, Int.reduceNeg, Int.reduceToNat, Int.reduceMul, Int.reducePow, Nat.reducePow, reduceCtorEq, h1, forms_c]
  rw [lpK_go1]
  simp +contextual (maxSteps := 10000000) only [↓reduceIte, go_sem, Nat.reduceEqDiff, Nat.reduceAdd, Nat.reduceSub, Nat.reduceMul, Nat.reduceLeDiff, Nat.reduceLT, Nat.reduceBEq, Nat.reduceDiv, Nat.reduceMod, Int.reduceLE, Int.reduceLT, Int.reduceEq, Int.reduceBEq, Int.reduceBNe, Int.reduceAdd, Int.reduceSub, Int.reduceNeg, Int.reduceToNat, Int.reduceMul, Int.reducePow, Nat.reducePow, reduceCtorEq, h1, hp, hf, outV, outF, Int.reduceAdd, if_true, if_false]
  rw [lpK_go1]
  simp +contextual (maxSteps := 10000000) only [↓reduceIte, go_sem, Nat.reduceEqDiff, Nat.reduceAdd, Nat.reduceSub, Nat.reduceMul, Nat.reduceLeDiff, Nat.reduceLT, Nat.reduceBEq, Nat.reduceDiv, Nat.reduceMod, Int.reduceLE, Int.reduceLT, Int.reduceEq, Int.reduceBEq, Int.reduceBNe, Int.reduceAdd, Int.reduceSub, Int.reduceNeg, Int.reduceToNat, Int.reduceMul, Int.reducePow, Nat.reducePow, reduceCtorEq, h1, hp, hf, outV, outF, Int.reduceAdd, if_true, if_false]
  rw [lpK_go1]
  simp +contextual (maxSteps := 10000000) only [↓reduceIte, go_sem, Nat.reduceEqDiff, Nat.reduceAdd, Nat.reduceSub, Nat.reduceMul, Nat.reduceLeDiff, Nat.reduceLT, Nat.reduceBEq, Nat.reduceDiv, Nat.reduceMod, Int.reduceLE, Int.reduceLT, Int.reduceEq, Int.reduceBEq, Int.reduceBNe, Int.reduceAdd, Int.reduceSub, Int.reduceNeg, Int.reduceToNat, Int.reduceMul, Int.reducePow, Nat.reducePow, reduceCtorEq, h1, hp, hf, outV, outF, Int.reduceAdd, if_true, if_false]
  rw [lpK_go1]
  simp +contextual (maxSteps := 10000000) only [↓reduceIte, go_sem, Nat.reduceEqDiff, Nat.reduceAdd, Nat.reduceSub, Nat.reduceMul, Nat.reduceLeDiff, Nat.reduceLT, Nat.reduceBEq, Nat.reduceDiv, Nat.reduceMod, Int.reduceLE, Int.reduceLT, Int.reduceEq, Int.reduceBEq, Int.reduceBNe, Int.reduceAdd, Int.reduceSub, Int.reduceNeg, Int.reduceToNat, Int.reduceMul, Int.reducePow, Nat.reducePow, reduceCtorEq, h1, hp, hf, outV, outF, Int.reduceAdd, if_true, if_false]
  rw [lpK_go1]
  simp +contextual (maxSteps := 10000000) only [↓reduceIte, go_sem, Nat.reduceEqDiff, Nat.reduceAdd, Nat.reduceSub, Nat.reduceMul, Nat.reduceLeDiff, Nat.reduceLT, Nat.reduceBEq, Nat.reduceDiv, Nat.reduceMod, Int.reduceLE, Int.reduceLT, Int.reduceEq, Int.reduceBEq, Int.reduceBNe, Int.reduceAdd, Int.reduceSub, Int.reduceNeg, Int.reduceToNat, Int.reduceMul, Int.reducePow, Nat.reducePow, reduceCtorEq, h1, hp, hf, outV, outF, Int.reduceAdd, if_true, if_false]
theorem oput_c (o : Outc) (hs : o.cond.size ≤ 3000000) : EV 16 [o.d] [] = some (.ret (putO o), []) := by
  unfold putO
  cases hm : mayO o
  · have h1 := omay_c o hs
    rw [hm] at h1
    simp only [Outc.d, Outc.cs] at h1
    refine (ev_body ⟨[1], [(0, [1, 2, 10, 11, 12])], [(7, [(0, 0, false), (1, 0, false), (2, 0, false), (3, 0, false), (4, 0, false), (5, 0, false), (6, 0, false), (7, 0, true), (8, 1, false)])], true, [], noIt⟩ [.cell 2 25, .tmp 3] rfl Tryz.func16 rfl rfl rfl (by kernel_rfl) (by show 1 ≤ 30; decide)).trans ?_
    simp +contextual (maxSteps := 10000000) only [↓reduceIte, go_sem, Nat.reduceEqDiff, Nat.reduceAdd, Nat.reduceSub, Nat.reduceMul, Nat.reduceLeDiff, Nat.reduceLT, Nat.reduceBEq, Nat.reduceDiv, Nat.reduceMod, Int.reduceLE, Int.reduceLT, Int.reduceEq, Int.reduceBEq, Int.reduceBNe, Int.reduceAdd, Int.reduceSub, Int.reduceNeg, Int.reduceToNat, Int.reduceMul, Int.reducePow, Nat.reducePow, reduceCtorEq, h1]
  · rw [if_pos rfl]
    obtain ⟨k, a, b, c⟩ := o
    rcases may_kind hm with h | h | h | h | h | h <;> simp only at h <;> subst h
    · exact oput_0 a b c hs hm
    · exact oput_1 a b c hs hm
    · exact oput_2 a b c hs hm
    · exact oput_3 a b c hs hm
    · exact oput_4 a b c hs hm
    · exact oput_5 a b c hs hm
end Go.Bw.R1

/- Seat r1: outcomes that are the same. -/
namespace Go.Bw
set_option maxRecDepth 5000
open Go
theorem eqIn_int {P : Program} {d : Nat} {t : TypeId} {k : IntKind} (h : P.underlying t = some (.int k)) (a b : Int) : pureRun P (Op.equalIn (d + 1) t (.int k a) (.int k b)) = some (a == b) := by
  unfold Op.equalIn
  rw [pureRun_bind, pureRun_underlying h]
  simp only [Option.bind_some, if_true]; rfl
theorem eqIn_str {P : Program} {d : Nat} {t : TypeId} (h : P.underlying t = some .string) (a b : ByteArray) : pureRun P (Op.equalIn (d + 1) t (.string a) (.string b)) = some (a == b) := by
  unfold Op.equalIn
  rw [pureRun_bind, pureRun_underlying h]
  rfl
theorem pureRun_ite {P : Program} {α : Type} {c : Prop} [Decidable c] {x y : Sem α} : pureRun P (if c then x else y) = if c then pureRun P x else pureRun P y := by split <;> rfl
end Go.Bw
namespace Go.Bw.R1
open Go Go.Bw Go.Proofs
theorem stood35 : Tryz.prog.stoodInHeld 37 = false := by kernel_rfl
section
variable (k a b : Int) (c : ByteArray)
theorem pa0 : pureRun Tryz.prog (part 5 #[.int .u8 k, .int .u64 a, .int .u64 b, .string c] 0) = some (.int .u8 k) := by kernel_rfl
theorem pa1 : pureRun Tryz.prog (part 22 #[.int .u8 k, .int .u64 a, .int .u64 b, .string c] 1) = some (.int .u64 a) := by kernel_rfl
theorem pa2 : pureRun Tryz.prog (part 22 #[.int .u8 k, .int .u64 a, .int .u64 b, .string c] 2) = some (.int .u64 b) := by kernel_rfl
theorem pa3 : pureRun Tryz.prog (part 9 #[.int .u8 k, .int .u64 a, .int .u64 b, .string c] 3) = some (.string c) := by kernel_rfl
end
theorem eq35 (k a b k' a' b' : Int) (c c' : ByteArray) : pureRun Tryz.prog (Op.equal 37 (.agg #[.int .u8 k, .int .u64 a, .int .u64 b, .string c]) (.agg #[.int .u8 k', .int .u64 a', .int .u64 b', .string c'])) = some (k == k' && a == a' && b == b' && c == c') := by
  unfold Op.equal Op.maxDepth
  rw [show (10000 : Nat) = 9999 + 1 from rfl]
  rw [Op.equalIn.eq_def]
  simp only [pureRun_bind, pureRun_underlying Tryz.underlying37, Option.bind_some]
  rw [show (program : Sem Program) = .program .pure from rfl]
  have q0 : ∀ x y, pureRun Tryz.prog (Op.equalIn 9999 5 (.int .u8 x) (.int .u8 y)) = some (x == y) := fun x y => eqIn_int (d := 9998) Tryz.underlying5 x y
  have q1 : ∀ x y, pureRun Tryz.prog (Op.equalIn 9999 22 (.int .u64 x) (.int .u64 y)) = some (x == y) := fun x y => eqIn_int (d := 9998) Tryz.underlying22 x y
  have q3 : ∀ x y, pureRun Tryz.prog (Op.equalIn 9999 9 (.string x) (.string y)) = some (x == y) := fun x y => eqIn_str (d := 9998) Tryz.underlying9 x y
  simp only [pureRun, Option.bind_some, stood35, Bool.false_eq_true, if_false, pureRun_bind, List.forIn_toArray, List.forIn_cons, List.forIn_nil, pa0, pa1, pa2, pa3, q0, q1, q3, ne_eq, String.reduceEq, not_false_eq_true, if_true, pureRun_ite, pureRun_pure]
  cases k == k'
  · simp only [pureRun, Option.bind_some, pureRun_bind, pa0, pa1, pa2, pa3, q0, q1, q3, ne_eq, String.reduceEq, not_false_eq_true, if_true, if_false, pureRun_ite, pureRun_pure, Bool.not_true, Bool.not_false, Bool.false_eq_true, Bool.false_and, Bool.true_and, Bool.and_true, Bool.and_false]
  simp only [pureRun, Option.bind_some, pureRun_bind, pa0, pa1, pa2, pa3, q0, q1, q3, ne_eq, String.reduceEq, not_false_eq_true, if_true, if_false, pureRun_ite, pureRun_pure, Bool.not_true, Bool.not_false, Bool.false_eq_true, Bool.false_and, Bool.true_and, Bool.and_true, Bool.and_false]
  cases a == a'
  · simp only [pureRun, Option.bind_some, pureRun_bind, pa0, pa1, pa2, pa3, q0, q1, q3, ne_eq, String.reduceEq, not_false_eq_true, if_true, if_false, pureRun_ite, pureRun_pure, Bool.not_true, Bool.not_false, Bool.false_eq_true, Bool.false_and, Bool.true_and, Bool.and_true, Bool.and_false]
  simp only [pureRun, Option.bind_some, pureRun_bind, pa0, pa1, pa2, pa3, q0, q1, q3, ne_eq, String.reduceEq, not_false_eq_true, if_true, if_false, pureRun_ite, pureRun_pure, Bool.not_true, Bool.not_false, Bool.false_eq_true, Bool.false_and, Bool.true_and, Bool.and_true, Bool.and_false]
  cases b == b'
  · simp only [pureRun, Option.bind_some, pureRun_bind, pa0, pa1, pa2, pa3, q0, q1, q3, ne_eq, String.reduceEq, not_false_eq_true, if_true, if_false, pureRun_ite, pureRun_pure, Bool.not_true, Bool.not_false, Bool.false_eq_true, Bool.false_and, Bool.true_and, Bool.and_true, Bool.and_false]
  simp only [pureRun, Option.bind_some, pureRun_bind, pa0, pa1, pa2, pa3, q0, q1, q3, ne_eq, String.reduceEq, not_false_eq_true, if_true, if_false, pureRun_ite, pureRun_pure, Bool.not_true, Bool.not_false, Bool.false_eq_true, Bool.false_and, Bool.true_and, Bool.and_true, Bool.and_false]
  cases c == c'
  · simp only [pureRun, Option.bind_some, pureRun_bind, pa0, pa1, pa2, pa3, q0, q1, q3, ne_eq, String.reduceEq, not_false_eq_true, if_true, if_false, pureRun_ite, pureRun_pure, Bool.not_true, Bool.not_false, Bool.false_eq_true, Bool.false_and, Bool.true_and, Bool.and_true, Bool.and_false]
  simp only [pureRun, Option.bind_some, pureRun_bind, pa0, pa1, pa2, pa3, q0, q1, q3, ne_eq, String.reduceEq, not_false_eq_true, if_true, if_false, pureRun_ite, pureRun_pure, Bool.not_true, Bool.not_false, Bool.false_eq_true, Bool.false_and, Bool.true_and, Bool.and_true, Bool.and_false]
theorem beql35 {xo yo : Operand} (k a b k' a' b' : Int) (c c' : ByteArray) : binD Tryz.prog .eql 37 xo yo (.agg [.sc (.int .u8 k), .sc (.int .u64 a), .sc (.int .u64 b), .sc (.string c)]) (.agg [.sc (.int .u8 k'), .sc (.int .u64 a'), .sc (.int .u64 b'), .sc (.string c')]) = some (.sc (.bool (k == k' && a == a' && b == b' && c == c'))) := by
  have hg : Tryz.prog.eqGuardType Tryz.prog.depth 37 = false := by kernel_rfl
  have hv : ∀ (k a b : Int) (c : ByteArray), toVals [D.sc (.int .u8 k), .sc (.int .u64 a), .sc (.int .u64 b), .sc (.string c)] = some [.int .u8 k, .int .u64 a, .int .u64 b, .string c] := fun _ _ _ _ => rfl
  simp only [binD, toVal, toVal1, hv, Option.map_some, pureD, eqGuard, binOp]
  rw [show (program : Sem Program) = .program .pure from rfl]
  simp only [pureRun, pureRun_bind, pureRun_pure, hg, Bool.not_true, Bool.not_false, Bool.false_eq_true, if_false, if_true, pureRun_ite, Option.bind_some, eq35, resD]
theorem bneq35 {xo yo : Operand} (k a b k' a' b' : Int) (c c' : ByteArray) : binD Tryz.prog .neq 37 xo yo (.agg [.sc (.int .u8 k), .sc (.int .u64 a), .sc (.int .u64 b), .sc (.string c)]) (.agg [.sc (.int .u8 k'), .sc (.int .u64 a'), .sc (.int .u64 b'), .sc (.string c')]) = some (.sc (.bool (!(k == k' && a == a' && b == b' && c == c')))) := by
  have hg : Tryz.prog.eqGuardType Tryz.prog.depth 37 = false := by kernel_rfl
  have hv : ∀ (k a b : Int) (c : ByteArray), toVals [D.sc (.int .u8 k), .sc (.int .u64 a), .sc (.int .u64 b), .sc (.string c)] = some [.int .u8 k, .int .u64 a, .int .u64 b, .string c] := fun _ _ _ _ => rfl
  simp only [binD, toVal, toVal1, hv, Option.map_some, pureD, eqGuard, binOp]
  rw [show (program : Sem Program) = .program .pure from rfl]
  simp only [pureRun, pureRun_bind, pureRun_pure, hg, Bool.not_true, Bool.not_false, Bool.false_eq_true, if_false, if_true, pureRun_ite, Option.bind_some, eq35, resD]
attribute [go_sem] beql35 bneq35
end Go.Bw.R1

namespace Go.Bw.R1
set_option maxRecDepth 5000
open Go Go.Bw Go.Proofs
theorem value_fnil (l : List Val) (hl : Val.szL l ≤ 4000000) (sp : Bool) (i : Int) : EV 28 [.ptr 0 0 0, I i, .nils] [fRow l sp] = some (.ret (valS l i []).1.d, [fRow l (sp || (valS l i []).2)]) := by
  have ho : EV 47 [.nils] [] = some (.ret (.fn (.func 69) [] [.rp [.ro false []]]), []) := by
    refine (ev_body ⟨[1], [], [], true, [], noIt⟩ [.tmp 2] rfl Tryz.func47 rfl rfl rfl (by kernel_rfl) (by show 1 ≤ 4; decide)).trans ?_
    simp +contextual (maxSteps := 10000000) only [↓reduceIte, go_sem, Nat.reduceEqDiff, Nat.reduceAdd, Nat.reduceSub, Nat.reduceMul, Nat.reduceLeDiff, Nat.reduceLT, Nat.reduceBEq, Nat.reduceDiv, Nat.reduceMod, Int.reduceLE, Int.reduceLT, Int.reduceEq, Int.reduceBEq, Int.reduceBNe, Int.reduceAdd, Int.reduceSub, Int.reduceNeg, Int.reduceToNat, Int.reduceMul, Int.reducePow, Nat.reducePow, reduceCtorEq]
  refine (ev_body ⟨[], [], [], true, [], noIt⟩ [.cell 6 25] rfl Tryz.func28 rfl rfl rfl (by kernel_rfl) (by show 3 ≤ 18; decide)).trans ?_
  unfold valS
  cases h : atS l i with
  | none =>
    have ht := tell_val_none vN vN l sp false i 49 45 [] [] rfl rfl rfl rfl h
    simp +contextual (maxSteps := 10000000) only [↓reduceIte, go_sem, Nat.reduceEqDiff, Nat.reduceAdd, Nat.reduceSub, Nat.reduceMul, Nat.reduceLeDiff, Nat.reduceLT, Nat.reduceBEq, Nat.reduceDiv, Nat.reduceMod, Int.reduceLE, Int.reduceLT, Int.reduceEq, Int.reduceBEq, Int.reduceBNe, Int.reduceAdd, Int.reduceSub, Int.reduceNeg, Int.reduceToNat, Int.reduceMul, Int.reducePow, Nat.reducePow, reduceCtorEq, ho, ht, null_c]
  | some x =>
    have hx := szL_mem (atS_len h).2.2.1
    have ht := tell_val_ok vN x l sp false i 49 45 [] [] rfl rfl rfl rfl x h (val1_c x) (copy_c _ x (Nat.le_refl _) (by omega))
    simp +contextual (maxSteps := 10000000) only [↓reduceIte, go_sem, Nat.reduceEqDiff, Nat.reduceAdd, Nat.reduceSub, Nat.reduceMul, Nat.reduceLeDiff, Nat.reduceLT, Nat.reduceBEq, Nat.reduceDiv, Nat.reduceMod, Int.reduceLE, Int.reduceLT, Int.reduceEq, Int.reduceBEq, Int.reduceBNe, Int.reduceAdd, Int.reduceSub, Int.reduceNeg, Int.reduceToNat, Int.reduceMul, Int.reducePow, Nat.reducePow, reduceCtorEq, ho, ht, null_c, true_or, if_true, Bool.or_false]
theorem value_one (l : List Val) (hl : Val.szL l ≤ 4000000) (sp : Bool) (i k : Int) : EV 28 [.ptr 0 0 0, I i, .ro false [U8 k]] [fRow l sp] = some (.ret (valS l i [k]).1.d, [fRow l (sp || (valS l i [k]).2)]) := value_f l hl sp i [k] (by simp)
theorem rvalue_one (l : List Val) (hl : Val.szL l ≤ 4000000) (sp : Bool) (i k : Int) : EV 32 [.ptr 0 0 0, I i, .ro false [U8 k]] [fRow l sp] = some (.ret (valS l i [k]).1.d, [fRow l (sp || (valS l i [k]).2)]) := rvalue_f l hl sp i [k] (by simp)
set_option maxHeartbeats 1000000 in
theorem rvalue_fnil (l : List Val) (hl : Val.szL l ≤ 4000000) (sp : Bool) (i : Int) : EV 32 [.ptr 0 0 0, I i, .nils] [fRow l sp] = some (.ret (valS l i []).1.d, [fRow l (sp || (valS l i []).2)]) := by
  refine (ev_body ⟨[], [(0, [0, 2, 6, 7, 9, 10])], [(8, [(0, 0, false), (1, 0, false), (2, 0, false), (3, 0, false), (4, 0, false), (5, 0, false), (6, 0, false), (7, 0, false), (8, 0, false), (9, 0, false), (10, 0, false)])], true, [], noIt⟩ [.cell 6 25] rfl Tryz.func32 rfl rfl rfl (by kernel_rfl) (by show 3 ≤ 47; decide)).trans ?_
  unfold valS
  cases h : atS l i with
  | none => simp +contextual (maxSteps := 10000000) only [↓reduceIte, go_sem, Nat.reduceEqDiff, Nat.reduceAdd, Nat.reduceSub, Nat.reduceMul, Nat.reduceLeDiff, Nat.reduceLT, Nat.reduceBEq, Nat.reduceDiv, Nat.reduceMod, Int.reduceLE, Int.reduceLT, Int.reduceEq, Int.reduceBEq, Int.reduceBNe, Int.reduceAdd, Int.reduceSub, Int.reduceNeg, Int.reduceToNat, Int.reduceMul, Int.reducePow, Nat.reducePow, reduceCtorEq, rtake_none l sp false i h, rnull_c]
  | some x =>
    have hx := szL_mem (atS_len h).2.2.1
    have hcp := rcopy_c _ x (Nat.le_refl _) (by omega)
    simp +contextual (maxSteps := 10000000) only [↓reduceIte, go_sem, Nat.reduceEqDiff, Nat.reduceAdd, Nat.reduceSub, Nat.reduceMul, Nat.reduceLeDiff, Nat.reduceLT, Nat.reduceBEq, Nat.reduceDiv, Nat.reduceMod, Int.reduceLE, Int.reduceLT, Int.reduceEq, Int.reduceBEq, Int.reduceBNe, Int.reduceAdd, Int.reduceSub, Int.reduceNeg, Int.reduceToNat, Int.reduceMul, Int.reducePow, Nat.reducePow, reduceCtorEq, rtake_some l sp false i x h]
    rw [lpK_go1]
    simp +contextual (maxSteps := 10000000) only [↓reduceIte, go_sem, Nat.reduceEqDiff, Nat.reduceAdd, Nat.reduceSub, Nat.reduceMul, Nat.reduceLeDiff, Nat.reduceLT, Nat.reduceBEq, Nat.reduceDiv, Nat.reduceMod, Int.reduceLE, Int.reduceLT, Int.reduceEq, Int.reduceBEq, Int.reduceBNe, Int.reduceAdd, Int.reduceSub, Int.reduceNeg, Int.reduceToNat, Int.reduceMul, Int.reducePow, Nat.reducePow, reduceCtorEq, hcp, true_or, if_true, Bool.or_false]
def nmE : ByteArray := ⟨#[97, 109, 113, 112, 58, 101, 114, 114, 111, 114, 58, 108, 105, 115, 116]⟩
/-- the condition of fields -/
def gcF (l : List Val) : Option ByteArray := if ((txtS l 0 21 true).2 || (txtS l 1 20 false).2 || (valS l 2 [23]).2 || decide (3 < (l.length : Int))) = true then none else some (txtS l 0 21 true).1
def gcS (v : Val) : Option ByteArray := if v.kind = 1 then some ⟨#[]⟩ else match newS v 29 nmE with | none => none | some l => gcF l
def gcR (o : Option ByteArray) : D := match o with | none => .tup [Sx ⟨#[]⟩, I 6] | some s => .tup [Sx s, I 0]
theorem newS_sz {v : Val} {code : Int} {name : ByteArray} {l : List Val} (h : newS v code name = some l) : Val.szL l ≤ v.sz := by
  obtain ⟨_, _, d, x, hk, _, _, rfl, _⟩ := newS_some h
  have h1 := Val.sz_eq v
  have h2 := Val.sz_eq x
  rw [hk] at h1
  simp only [Val.szL] at h1
  omega
set_option maxHeartbeats 2000000 in
theorem gcond_c (v : Val) (hs : v.sz ≤ 4000000) (hw : v.wf) : EV 9 [v.d] [] = some (.ret (gcR (gcS v)), []) := by
  refine (ev_body ⟨[1], [], [], false, [], noIt⟩ [.tmp 2, .tmp 3] rfl Tryz.func9 rfl rfl rfl (by kernel_rfl) (by show 1 ≤ 32; decide)).trans ?_
  by_cases h1 : v.kind = 1
  · have e : (v.kind == 1) = true := by simpa using h1
    simp +contextual (maxSteps := 10000000) only [↓reduceIte, go_sem, Nat.reduceEqDiff, Nat.reduceAdd, Nat.reduceSub, Nat.reduceMul, Nat.reduceLeDiff, Nat.reduceLT, Nat.reduceBEq, Nat.reduceDiv, Nat.reduceMod, Int.reduceLE, Int.reduceLT, Int.reduceEq, Int.reduceBEq, Int.reduceBNe, Int.reduceAdd, Int.reduceSub, Int.reduceNeg, Int.reduceToNat, Int.reduceMul, Int.reducePow, Nat.reducePow, reduceCtorEq, e, gcS, h1, if_true, gcR]
  · have e : (v.kind == 1) = false := by simpa using h1
    cases hn : newS v 29 nmE with
    | none =>
      have hr := new_none v hs hw 29 nmE hn
      simp only [nmE] at hr
      simp +contextual (maxSteps := 10000000) only [↓reduceIte, go_sem, Nat.reduceEqDiff, Nat.reduceAdd, Nat.reduceSub, Nat.reduceMul, Nat.reduceLeDiff, Nat.reduceLT, Nat.reduceBEq, Nat.reduceDiv, Nat.reduceMod, Int.reduceLE, Int.reduceLT, Int.reduceEq, Int.reduceBEq, Int.reduceBNe, Int.reduceAdd, Int.reduceSub, Int.reduceNeg, Int.reduceToNat, Int.reduceMul, Int.reducePow, Nat.reducePow, reduceCtorEq, e, hr, gcS, h1, hn, if_false, gcR]
      all_goals rfl
    | some l =>
      have hsz := newS_sz hn
      have hr := new_some v hs hw 29 nmE l hn
      simp only [nmE] at hr
      have t1 := fun sp => text_f l sp 0 21 true
      have t2 := fun sp => text_f l sp 1 20 false
      have t3 := fun sp => value_one l (by omega) sp 2 23
      have t4 := fun sp => done_c l sp 3
      cases q : ((txtS l 0 21 true).2 || (txtS l 1 20 false).2 || (valS l 2 [23]).2 || decide (3 < (l.length : Int)))
      · simp +contextual (maxSteps := 10000000) only [↓reduceIte, go_sem, Nat.reduceEqDiff, Nat.reduceAdd, Nat.reduceSub, Nat.reduceMul, Nat.reduceLeDiff, Nat.reduceLT, Nat.reduceBEq, Nat.reduceDiv, Nat.reduceMod, Int.reduceLE, Int.reduceLT, Int.reduceEq, Int.reduceBEq, Int.reduceBNe, Int.reduceAdd, Int.reduceSub, Int.reduceNeg, Int.reduceToNat, Int.reduceMul, Int.reducePow, Nat.reducePow, reduceCtorEq, e, hr, t1, t2, t3, t4, q, gcS, gcF, h1, hn, if_false, Bool.false_or, gcR]
        all_goals rfl
      · simp +contextual (maxSteps := 10000000) only [↓reduceIte, go_sem, Nat.reduceEqDiff, Nat.reduceAdd, Nat.reduceSub, Nat.reduceMul, Nat.reduceLeDiff, Nat.reduceLT, Nat.reduceBEq, Nat.reduceDiv, Nat.reduceMod, Int.reduceLE, Int.reduceLT, Int.reduceEq, Int.reduceBEq, Int.reduceBNe, Int.reduceAdd, Int.reduceSub, Int.reduceNeg, Int.reduceToNat, Int.reduceMul, Int.reducePow, Nat.reducePow, reduceCtorEq, e, hr, t1, t2, t3, t4, q, gcS, gcF, h1, hn, if_false, if_true, Bool.false_or, gcR]
        all_goals rfl
set_option maxHeartbeats 2000000 in
theorem rgcond_c (v : Val) (hs : v.sz ≤ 4000000) : EV 10 [v.d] [] = some (.ret (gcR (gcS v)), []) := by
  refine (ev_body ⟨[1], [], [], false, [], noIt⟩ [.tmp 2, .tmp 3] rfl Tryz.func10 rfl rfl rfl (by kernel_rfl) (by show 1 ≤ 29; decide)).trans ?_
  by_cases h1 : v.kind = 1
  · have e : (v.kind == 1) = true := by simpa using h1
    simp +contextual (maxSteps := 10000000) only [↓reduceIte, go_sem, Nat.reduceEqDiff, Nat.reduceAdd, Nat.reduceSub, Nat.reduceMul, Nat.reduceLeDiff, Nat.reduceLT, Nat.reduceBEq, Nat.reduceDiv, Nat.reduceMod, Int.reduceLE, Int.reduceLT, Int.reduceEq, Int.reduceBEq, Int.reduceBNe, Int.reduceAdd, Int.reduceSub, Int.reduceNeg, Int.reduceToNat, Int.reduceMul, Int.reducePow, Nat.reducePow, reduceCtorEq, e, gcS, h1, if_true, gcR]
  · have e : (v.kind == 1) = false := by simpa using h1
    cases hn : newS v 29 nmE with
    | none =>
      have hr := rnew_none v hs 29 nmE hn
      simp only [nmE] at hr
      simp +contextual (maxSteps := 10000000) only [↓reduceIte, go_sem, Nat.reduceEqDiff, Nat.reduceAdd, Nat.reduceSub, Nat.reduceMul, Nat.reduceLeDiff, Nat.reduceLT, Nat.reduceBEq, Nat.reduceDiv, Nat.reduceMod, Int.reduceLE, Int.reduceLT, Int.reduceEq, Int.reduceBEq, Int.reduceBNe, Int.reduceAdd, Int.reduceSub, Int.reduceNeg, Int.reduceToNat, Int.reduceMul, Int.reducePow, Nat.reducePow, reduceCtorEq, e, hr, gcS, h1, hn, if_false, gcR]
      all_goals rfl
    | some l =>
      have hsz := newS_sz hn
      have hr := rnew_some v hs 29 nmE l hn
      simp only [nmE] at hr
      have t1 := fun sp => rtext_f l sp 0 21 true
      have t2 := fun sp => rtext_f l sp 1 20 false
      have t3 := fun sp => rvalue_one l (by omega) sp 2 23
      have t4 := fun sp => rdone_c l sp 3
      cases q : ((txtS l 0 21 true).2 || (txtS l 1 20 false).2 || (valS l 2 [23]).2 || decide (3 < (l.length : Int)))
      · simp +contextual (maxSteps := 10000000) only [↓reduceIte, go_sem, Nat.reduceEqDiff, Nat.reduceAdd, Nat.reduceSub, Nat.reduceMul, Nat.reduceLeDiff, Nat.reduceLT, Nat.reduceBEq, Nat.reduceDiv, Nat.reduceMod, Int.reduceLE, Int.reduceLT, Int.reduceEq, Int.reduceBEq, Int.reduceBNe, Int.reduceAdd, Int.reduceSub, Int.reduceNeg, Int.reduceToNat, Int.reduceMul, Int.reducePow, Nat.reducePow, reduceCtorEq, e, hr, t1, t2, t3, t4, q, gcS, gcF, h1, hn, if_false, Bool.false_or, gcR]
        all_goals rfl
      · simp +contextual (maxSteps := 10000000) only [↓reduceIte, go_sem, Nat.reduceEqDiff, Nat.reduceAdd, Nat.reduceSub, Nat.reduceMul, Nat.reduceLeDiff, Nat.reduceLT, Nat.reduceBEq, Nat.reduceDiv, Nat.reduceMod, Int.reduceLE, Int.reduceLT, Int.reduceEq, Int.reduceBEq, Int.reduceBNe, Int.reduceAdd, Int.reduceSub, Int.reduceNeg, Int.reduceToNat, Int.reduceMul, Int.reducePow, Nat.reducePow, reduceCtorEq, e, hr, t1, t2, t3, t4, q, gcS, gcF, h1, hn, if_false, if_true, Bool.false_or, gcR]
        all_goals rfl
/-- the outcome of fields -/
def gF1 (l : List Val) : Outc × Bool := (⟨1, (numS' l 0 5 true 0).1, (numS' l 1 6 true 0).1, ⟨#[]⟩⟩, (numS' l 0 5 true 0).2 || (numS' l 1 6 true 0).2)
def gF3 (l : List Val) : Outc × Bool := (⟨3, 0, 0, ((gcS (valS l 0 []).1).getD ⟨#[]⟩)⟩, (valS l 0 []).2 || (gcS (valS l 0 []).1).isNone)
def gF5 (l : List Val) : Outc × Bool := (⟨5, (numS' l 0 2 false 0).1, (numS' l 1 2 false 0).1, ⟨#[]⟩⟩, (numS' l 0 2 false 0).2 || (numS' l 1 2 false 0).2 || (valS l 2 [23]).2)
def gFin (r : Outc × Bool) (l : List Val) (most : Int) : Option Outc := if (r.2 || decide (most < (l.length : Int))) = true then none else some r.1
def oc0 : Outc := ⟨0, 0, 0, ⟨#[]⟩⟩
def getO (v : Val) : Option Outc :=
  if v.kind = 1 then some oc0 else match newS v 35 nm1 with
  | some l => gFin (gF1 l) l 2
  | none => match newS v 36 nm2 with
    | some l => gFin (⟨2, 0, 0, ⟨#[]⟩⟩, false) l 0
    | none => match newS v 37 nm3 with
      | some l => gFin (gF3 l) l 1
      | none => match newS v 38 nm4 with
        | some l => gFin (⟨4, 0, 0, ⟨#[]⟩⟩, false) l 0
        | none => match newS v 39 nm5 with
          | some l => gFin (gF5 l) l 3
          | none => none
def getR' (o : Option Outc) : D := match o with | none => .tup [oc0.d, I 6] | some x => .tup [x.d, I 0]
abbrev oRow (k a b : Int) (c : ByteArray) : Option En := some ⟨0, [U8 k, U64 a, U64 b, Sx c]⟩
theorem getf1_c (l : List Val) (sp : Bool) : EV 54 [.ptr 0 0 0, .ptr 1 0 0] [oRow 1 0 0 ⟨#[]⟩, fRow l sp] = some (.ret (.tup []), [oRow 1 (gF1 l).1.a (gF1 l).1.b ⟨#[]⟩, fRow l (sp || (gF1 l).2)]) := by
  refine (ev_body ⟨[], [], [], false, [], noIt⟩ [] rfl Tryz.func54 rfl rfl rfl (by kernel_rfl) (by show 2 ≤ 14; decide)).trans ?_
  simp +contextual (maxSteps := 10000000) only [↓reduceIte, go_sem, Nat.reduceEqDiff, Nat.reduceAdd, Nat.reduceSub, Nat.reduceMul, Nat.reduceLeDiff, Nat.reduceLT, Nat.reduceBEq, Nat.reduceDiv, Nat.reduceMod, Int.reduceLE, Int.reduceLT, Int.reduceEq, Int.reduceBEq, Int.reduceBNe, Int.reduceAdd, Int.reduceSub, Int.reduceNeg, Int.reduceToNat, Int.reduceMul, Int.reducePow, Nat.reducePow, reduceCtorEq, number_f, gF1, Bool.or_assoc]
theorem getf0_c (k : Int) (l : List Val) (sp : Bool) : EV 57 [.ptr 0 0 0, .ptr 1 0 0] [oRow k 0 0 ⟨#[]⟩, fRow l sp] = some (.ret (.tup []), [oRow k 0 0 ⟨#[]⟩, fRow l sp]) := by
  refine (ev_body ⟨[], [], [], false, [], noIt⟩ [] rfl Tryz.func57 rfl rfl rfl (by kernel_rfl) (by show 2 ≤ 4; decide)).trans ?_
  simp +contextual (maxSteps := 10000000) only [↓reduceIte, go_sem, Nat.reduceEqDiff, Nat.reduceAdd, Nat.reduceSub, Nat.reduceMul, Nat.reduceLeDiff, Nat.reduceLT, Nat.reduceBEq, Nat.reduceDiv, Nat.reduceMod, Int.reduceLE, Int.reduceLT, Int.reduceEq, Int.reduceBEq, Int.reduceBNe, Int.reduceAdd, Int.reduceSub, Int.reduceNeg, Int.reduceToNat, Int.reduceMul, Int.reducePow, Nat.reducePow, reduceCtorEq]
theorem valS_wf {l : List Val} (h : Val.wfL l) (i : Int) (ks : List Int) : (valS l i ks).1.wf := by
  unfold valS
  split
  · exact ⟨by decide, trivial⟩
  · rename_i x hx
    split
    · exact wfL_mem h x (List.mem_of_getElem? (atS_len hx).2.2.1)
    · exact ⟨by decide, trivial⟩
theorem valS_sz (l : List Val) (i : Int) (ks : List Int) : (valS l i ks).1.sz ≤ Val.szL l + 1 := by
  unfold valS
  split
  · show vN.sz ≤ _; exact Nat.le_trans (by decide : vN.sz ≤ 1) (by omega)
  · rename_i x hx
    have := szL_mem (atS_len hx).2.2.1
    split
    · show x.sz ≤ _; omega
    · show vN.sz ≤ _; exact Nat.le_trans (by decide : vN.sz ≤ 1) (by omega)
theorem getf3_c (l : List Val) (hl : Val.szL l ≤ 3999990) (hw : Val.wfL l) (sp : Bool) : EV 59 [.ptr 0 0 0, .ptr 1 0 0] [oRow 3 0 0 ⟨#[]⟩, fRow l sp] = some (.ret (.tup []), [oRow 3 0 0 (gF3 l).1.cond, fRow l (sp || (gF3 l).2)]) := by
  have hv := value_fnil l (by omega) sp 0
  have hg := gcond_c (valS l 0 []).1 (by have := valS_sz l 0 []; omega) (valS_wf hw 0 [])
  refine (ev_body ⟨[], [], [], false, [], noIt⟩ [] rfl Tryz.func59 rfl rfl rfl (by kernel_rfl) (by show 2 ≤ 20; decide)).trans ?_
  unfold gF3
  cases h : gcS (valS l 0 []).1 with
  | none =>
    rw [h] at hg
    simp only [gcR] at hg
    simp +contextual (maxSteps := 10000000) only [↓reduceIte, go_sem, Nat.reduceEqDiff, Nat.reduceAdd, Nat.reduceSub, Nat.reduceMul, Nat.reduceLeDiff, Nat.reduceLT, Nat.reduceBEq, Nat.reduceDiv, Nat.reduceMod, Int.reduceLE, Int.reduceLT, Int.reduceEq, Int.reduceBEq, Int.reduceBNe, Int.reduceAdd, Int.reduceSub, Int.reduceNeg, Int.reduceToNat, Int.reduceMul, Int.reducePow, Nat.reducePow, reduceCtorEq, hv, hg, spoil_c, Option.getD, Option.isNone, Bool.or_true]
  | some s =>
    rw [h] at hg
    simp only [gcR] at hg
    simp +contextual (maxSteps := 10000000) only [↓reduceIte, go_sem, Nat.reduceEqDiff, Nat.reduceAdd, Nat.reduceSub, Nat.reduceMul, Nat.reduceLeDiff, Nat.reduceLT, Nat.reduceBEq, Nat.reduceDiv, Nat.reduceMod, Int.reduceLE, Int.reduceLT, Int.reduceEq, Int.reduceBEq, Int.reduceBNe, Int.reduceAdd, Int.reduceSub, Int.reduceNeg, Int.reduceToNat, Int.reduceMul, Int.reducePow, Nat.reducePow, reduceCtorEq, hv, hg, spoil_c, Option.getD, Option.isNone, Bool.or_false]
theorem getf5_c (l : List Val) (hl : Val.szL l ≤ 4000000) (sp : Bool) : EV 63 [.ptr 0 0 0, .ptr 1 0 0] [oRow 5 0 0 ⟨#[]⟩, fRow l sp] = some (.ret (.tup []), [oRow 5 (gF5 l).1.a (gF5 l).1.b ⟨#[]⟩, fRow l (sp || (gF5 l).2)]) := by
  have hv := fun sp => value_one l hl sp 2 23
  refine (ev_body ⟨[], [], [], false, [], noIt⟩ [] rfl Tryz.func63 rfl rfl rfl (by kernel_rfl) (by show 2 ≤ 17; decide)).trans ?_
  simp +contextual (maxSteps := 10000000) only [↓reduceIte, go_sem, Nat.reduceEqDiff, Nat.reduceAdd, Nat.reduceSub, Nat.reduceMul, Nat.reduceLeDiff, Nat.reduceLT, Nat.reduceBEq, Nat.reduceDiv, Nat.reduceMod, Int.reduceLE, Int.reduceLT, Int.reduceEq, Int.reduceBEq, Int.reduceBNe, Int.reduceAdd, Int.reduceSub, Int.reduceNeg, Int.reduceToNat, Int.reduceMul, Int.reducePow, Nat.reducePow, reduceCtorEq, number_f, hv, gF5, Bool.or_assoc]
end Go.Bw.R1

namespace Go.Bw.R1
set_option maxRecDepth 5000
open Go Go.Bw Go.Proofs
theorem newS_wf {v : Val} (hw : v.wf) {code : Int} {name : ByteArray} {l : List Val} (h : newS v code name = some l) : Val.wfL l := by
  obtain ⟨_, _, d, x, hk, _, _, rfl, _⟩ := newS_some h
  have h1 := hw.kids
  rw [hk] at h1
  exact h1.2.1.kids
set_option maxHeartbeats 2000000 in
theorem oget_null (v : Val) (h : v.kind = 1) : EV 13 [v.d] [] = some (.ret (getR' (some oc0)), []) := by
  have e : (v.kind == 1) = true := by simpa using h
  refine (ev_body ⟨[1], [(0, [1, 2, 3, 12, 13, 14]), (1000000, [1, 2, 3])], [], false, [], noIt⟩ [.cell 2 37, .tmp 3] rfl Tryz.func13 rfl rfl rfl (by kernel_rfl) (by show 1 ≤ 47; decide)).trans ?_
  simp +contextual (maxSteps := 10000000) only [↓reduceIte, go_sem, Nat.reduceEqDiff, Nat.reduceAdd, Nat.reduceSub, Nat.reduceMul, Nat.reduceLeDiff, Nat.reduceLT, Nat.reduceBEq, Nat.reduceDiv, Nat.reduceMod, Int.reduceLE, Int.reduceLT, Int.reduceEq, Int.reduceBEq, Int.reduceBNe, Int.reduceAdd, Int.reduceSub, Int.reduceNeg, Int.reduceToNat, Int.reduceMul, Int.reducePow, Nat.reducePow, reduceCtorEq]
  refine (run_scope 0 rfl rfl).trans ?_
  simp +contextual (maxSteps := 10000000) only [↓reduceIte, go_sem, Nat.reduceEqDiff, Nat.reduceAdd, Nat.reduceSub, Nat.reduceMul, Nat.reduceLeDiff, Nat.reduceLT, Nat.reduceBEq, Nat.reduceDiv, Nat.reduceMod, Int.reduceLE, Int.reduceLT, Int.reduceEq, Int.reduceBEq, Int.reduceBNe, Int.reduceAdd, Int.reduceSub, Int.reduceNeg, Int.reduceToNat, Int.reduceMul, Int.reducePow, Nat.reducePow, reduceCtorEq, e]
  rfl
set_option maxRecDepth 20000 in
set_option maxHeartbeats 8000000 in
theorem oget_1 (v : Val) (hs : v.sz ≤ 3999990) (hw : v.wf) (h : v.kind ≠ 1)  (l : List Val) (hn : newS v 35 nm1 = some l) : EV 13 [v.d] [] = some (.ret (getR' (gFin (gF1 l) l 2)), []) := by
  have e : (v.kind == 1) = false := by simpa using h
  have r1 := new_some v (by omega) hw 35 nm1 l hn
  have hg := fun sp => getf1_c l sp
  have hd := fun sp => done_c l sp 2
  refine (ev_body ⟨[1], [(0, [1, 2, 3, 12, 13, 14]), (1000000, [1, 2, 3])], [], false, [], noIt⟩ [.cell 2 37, .tmp 3] rfl Tryz.func13 rfl rfl rfl (by kernel_rfl) (by show 1 ≤ 47; decide)).trans ?_
  simp +contextual (maxSteps := 10000000) only [↓reduceIte, go_sem, Nat.reduceEqDiff, Nat.reduceAdd, Nat.reduceSub, Nat.reduceMul, Nat.reduceLeDiff, Nat.reduceLT, Nat.reduceBEq, Nat.reduceDiv, Nat.reduceMod, Int.reduceLE, Int.reduceLT, Int.reduceEq, Int.reduceBEq, Int.reduceBNe, Int.reduceAdd, Int.reduceSub, Int.reduceNeg, Int.reduceToNat, Int.reduceMul, Int.reducePow, Nat.reducePow, reduceCtorEq]
  refine (run_scope 0 rfl rfl).trans ?_
  simp +contextual (maxSteps := 10000000) only [↓reduceIte, go_sem, Nat.reduceEqDiff, Nat.reduceAdd, Nat.reduceSub, Nat.reduceMul, Nat.reduceLeDiff, Nat.reduceLT, Nat.reduceBEq, Nat.reduceDiv, Nat.reduceMod, Int.reduceLE, Int.reduceLT, Int.reduceEq, Int.reduceBEq, Int.reduceBNe, Int.reduceAdd, Int.reduceSub, Int.reduceNeg, Int.reduceToNat, Int.reduceMul, Int.reducePow, Nat.reducePow, reduceCtorEq, e, forms_c]
  rw [lpK_go1]
  cases hq : ((gF1 l).2 || decide (2 < (l.length : Int)))
  all_goals
    simp +contextual (maxSteps := 10000000) only [↓reduceIte, go_sem, Nat.reduceEqDiff, Nat.reduceAdd, Nat.reduceSub, Nat.reduceMul, Nat.reduceLeDiff, Nat.reduceLT, Nat.reduceBEq, Nat.reduceDiv, Nat.reduceMod, Int.reduceLE, Int.reduceLT, Int.reduceEq, Int.reduceBEq, Int.reduceBNe, Int.reduceAdd, Int.reduceSub, Int.reduceNeg, Int.reduceToNat, Int.reduceMul, Int.reducePow, Nat.reducePow, reduceCtorEq, r1, hg, hd, hq, Bool.false_or, Bool.or_false]
    simp only [gFin, hq, getR', if_true, Bool.false_eq_true, if_false]
    rfl
set_option maxRecDepth 20000 in
set_option maxHeartbeats 8000000 in
theorem oget_2 (v : Val) (hs : v.sz ≤ 3999990) (hw : v.wf) (h : v.kind ≠ 1) (n1 : newS v 35 nm1 = none) (l : List Val) (hn : newS v 36 nm2 = some l) : EV 13 [v.d] [] = some (.ret (getR' (gFin ((⟨2, 0, 0, ⟨#[]⟩⟩, false)) l 0)), []) := by
  have e : (v.kind == 1) = false := by simpa using h
  have r1 := new_none v (by omega) hw 35 nm1 n1
  have r2 := new_some v (by omega) hw 36 nm2 l hn
  have hg := fun sp => getf0_c 2 l sp
  have hd := fun sp => done_c l sp 0
  refine (ev_body ⟨[1], [(0, [1, 2, 3, 12, 13, 14]), (1000000, [1, 2, 3])], [], false, [], noIt⟩ [.cell 2 37, .tmp 3] rfl Tryz.func13 rfl rfl rfl (by kernel_rfl) (by show 1 ≤ 47; decide)).trans ?_
  simp +contextual (maxSteps := 10000000) only [↓reduceIte, go_sem, Nat.reduceEqDiff, Nat.reduceAdd, Nat.reduceSub, Nat.reduceMul, Nat.reduceLeDiff, Nat.reduceLT, Nat.reduceBEq, Nat.reduceDiv, Nat.reduceMod, Int.reduceLE, Int.reduceLT, Int.reduceEq, Int.reduceBEq, Int.reduceBNe, Int.reduceAdd, Int.reduceSub, Int.reduceNeg, Int.reduceToNat, Int.reduceMul, Int.reducePow, Nat.reducePow, reduceCtorEq]
  refine (run_scope 0 rfl rfl).trans ?_
  simp +contextual (maxSteps := 10000000) only [↓reduceIte, go_sem, Nat.reduceEqDiff, Nat.reduceAdd, Nat.reduceSub, Nat.reduceMul, Nat.reduceLeDiff, Nat.reduceLT, Nat.reduceBEq, Nat.reduceDiv, Nat.reduceMod, Int.reduceLE, Int.reduceLT, Int.reduceEq, Int.reduceBEq, Int.reduceBNe, Int.reduceAdd, Int.reduceSub, Int.reduceNeg, Int.reduceToNat, Int.reduceMul, Int.reducePow, Nat.reducePow, reduceCtorEq, e, forms_c]
  rw [lpK_go1]
  simp +contextual (maxSteps := 10000000) only [↓reduceIte, go_sem, Nat.reduceEqDiff, Nat.reduceAdd, Nat.reduceSub, Nat.reduceMul, Nat.reduceLeDiff, Nat.reduceLT, Nat.reduceBEq, Nat.reduceDiv, Nat.reduceMod, Int.reduceLE, Int.reduceLT, Int.reduceEq, Int.reduceBEq, Int.reduceBNe, Int.reduceAdd, Int.reduceSub, Int.reduceNeg, Int.reduceToNat, Int.reduceMul, Int.reducePow, Nat.reducePow, reduceCtorEq, r1]
  rw [lpK_go1]
  cases hq : decide (0 < (l.length : Int))
  all_goals
    simp +contextual (maxSteps := 10000000) only [↓reduceIte, go_sem, Nat.reduceEqDiff, Nat.reduceAdd, Nat.reduceSub, Nat.reduceMul, Nat.reduceLeDiff, Nat.reduceLT, Nat.reduceBEq, Nat.reduceDiv, Nat.reduceMod, Int.reduceLE, Int.reduceLT, Int.reduceEq, Int.reduceBEq, Int.reduceBNe, Int.reduceAdd, Int.reduceSub, Int.reduceNeg, Int.reduceToNat, Int.reduceMul, Int.reducePow, Nat.reducePow, reduceCtorEq, r2, hg, hd, hq, Bool.false_or, Bool.or_false]
    simp only [gFin, hq, getR', Bool.false_or, if_true, Bool.false_eq_true, if_false]
    rfl
set_option maxRecDepth 20000 in
set_option maxHeartbeats 8000000 in
theorem oget_3 (v : Val) (hs : v.sz ≤ 3999990) (hw : v.wf) (h : v.kind ≠ 1) (n1 : newS v 35 nm1 = none) (n2 : newS v 36 nm2 = none) (l : List Val) (hn : newS v 37 nm3 = some l) : EV 13 [v.d] [] = some (.ret (getR' (gFin (gF3 l) l 1)), []) := by
  have e : (v.kind == 1) = false := by simpa using h
  have r1 := new_none v (by omega) hw 35 nm1 n1
  have r2 := new_none v (by omega) hw 36 nm2 n2
  have r3 := new_some v (by omega) hw 37 nm3 l hn
  have hg := fun sp => getf3_c l (by have := newS_sz hn; omega) (newS_wf hw hn) sp
  have hd := fun sp => done_c l sp 1
  refine (ev_body ⟨[1], [(0, [1, 2, 3, 12, 13, 14]), (1000000, [1, 2, 3])], [], false, [], noIt⟩ [.cell 2 37, .tmp 3] rfl Tryz.func13 rfl rfl rfl (by kernel_rfl) (by show 1 ≤ 47; decide)).trans ?_
  simp +contextual (maxSteps := 10000000) only [↓reduceIte, go_sem, Nat.reduceEqDiff, Nat.reduceAdd, Nat.reduceSub, Nat.reduceMul, Nat.reduceLeDiff, Nat.reduceLT, Nat.reduceBEq, Nat.reduceDiv, Nat.reduceMod, Int.reduceLE, Int.reduceLT, Int.reduceEq, Int.reduceBEq, Int.reduceBNe, Int.reduceAdd, Int.reduceSub, Int.reduceNeg, Int.reduceToNat, Int.reduceMul, Int.reducePow, Nat.reducePow, reduceCtorEq]
  refine (run_scope 0 rfl rfl).trans ?_
  simp +contextual (maxSteps := 10000000) only [↓reduceIte, go_sem, Nat.reduceEqDiff, Nat.reduceAdd, Nat.reduceSub, Nat.reduceMul, Nat.reduceLeDiff, Nat.reduceLT, Nat.reduceBEq, Nat.reduceDiv, Nat.reduceMod, Int.reduceLE, Int.reduceLT, Int.reduceEq, Int.reduceBEq, Int.reduceBNe, Int.reduceAdd, Int.reduceSub, Int.reduceNeg, Int.reduceToNat, Int.reduceMul, Int.reducePow, Nat.reducePow, reduceCtorEq, e, forms_c]
  rw [lpK_go1]
  simp +contextual (maxSteps := 10000000) only [↓reduceIte, go_sem, Nat.reduceEqDiff, Nat.reduceAdd, Nat.reduceSub, Nat.reduceMul, Nat.reduceLeDiff, Nat.reduceLT, Nat.reduceBEq, Nat.reduceDiv, Nat.reduceMod, Int.reduceLE, Int.reduceLT, Int.reduceEq, Int.reduceBEq, Int.reduceBNe, Int.reduceAdd, Int.reduceSub, Int.reduceNeg, Int.reduceToNat, Int.reduceMul, Int.reducePow, Nat.reducePow, reduceCtorEq, r1]
  rw [lpK_go1]
  simp +contextual (maxSteps := 10000000) only [↓reduceIte, go_sem, Nat.reduceEqDiff, Nat.reduceAdd, Nat.reduceSub, Nat.reduceMul, Nat.reduceLeDiff, Nat.reduceLT, Nat.reduceBEq, Nat.reduceDiv, Nat.reduceMod, Int.reduceLE, Int.reduceLT, Int.reduceEq, Int.reduceBEq, Int.reduceBNe, Int.reduceAdd, Int.reduceSub, Int.reduceNeg, Int.reduceToNat, Int.reduceMul, Int.reducePow, Nat.reducePow, reduceCtorEq, r2]
  rw [lpK_go1]
  cases hq : ((gF3 l).2 || decide (1 < (l.length : Int)))
  all_goals
    simp +contextual (maxSteps := 10000000) only [↓reduceIte, go_sem, Nat.reduceEqDiff, Nat.reduceAdd, Nat.reduceSub, Nat.reduceMul, Nat.reduceLeDiff, Nat.reduceLT, Nat.reduceBEq, Nat.reduceDiv, Nat.reduceMod, Int.reduceLE, Int.reduceLT, Int.reduceEq, Int.reduceBEq, Int.reduceBNe, Int.reduceAdd, Int.reduceSub, Int.reduceNeg, Int.reduceToNat, Int.reduceMul, Int.reducePow, Nat.reducePow, reduceCtorEq, r3, hg, hd, hq, Bool.false_or, Bool.or_false]
    simp only [gFin, hq, getR', if_true, Bool.false_eq_true, if_false]
    rfl
set_option maxRecDepth 20000 in
set_option maxHeartbeats 8000000 in
theorem oget_4 (v : Val) (hs : v.sz ≤ 3999990) (hw : v.wf) (h : v.kind ≠ 1) (n1 : newS v 35 nm1 = none) (n2 : newS v 36 nm2 = none) (n3 : newS v 37 nm3 = none) (l : List Val) (hn : newS v 38 nm4 = some l) : EV 13 [v.d] [] = some (.ret (getR' (gFin ((⟨4, 0, 0, ⟨#[]⟩⟩, false)) l 0)), []) := by
  have e : (v.kind == 1) = false := by simpa using h
  have r1 := new_none v (by omega) hw 35 nm1 n1
  have r2 := new_none v (by omega) hw 36 nm2 n2
  have r3 := new_none v (by omega) hw 37 nm3 n3
  have r4 := new_some v (by omega) hw 38 nm4 l hn
  have hg := fun sp => getf0_c 4 l sp
  have hd := fun sp => done_c l sp 0
  refine (ev_body ⟨[1], [(0, [1, 2, 3, 12, 13, 14]), (1000000, [1, 2, 3])], [], false, [], noIt⟩ [.cell 2 37, .tmp 3] rfl Tryz.func13 rfl rfl rfl (by kernel_rfl) (by show 1 ≤ 47; decide)).trans ?_
  simp +contextual (maxSteps := 10000000) only [↓reduceIte, go_sem, Nat.reduceEqDiff, Nat.reduceAdd, Nat.reduceSub, Nat.reduceMul, Nat.reduceLeDiff, Nat.reduceLT, Nat.reduceBEq, Nat.reduceDiv, Nat.reduceMod, Int.reduceLE, Int.reduceLT, Int.reduceEq, Int.reduceBEq, Int.reduceBNe, Int.reduceAdd, Int.reduceSub, Int.reduceNeg, Int.reduceToNat, Int.reduceMul, Int.reducePow, Nat.reducePow, reduceCtorEq]
  refine (run_scope 0 rfl rfl).trans ?_
  simp +contextual (maxSteps := 10000000) only [↓reduceIte, go_sem, Nat.reduceEqDiff, Nat.reduceAdd, Nat.reduceSub, Nat.reduceMul, Nat.reduceLeDiff, Nat.reduceLT, Nat.reduceBEq, Nat.reduceDiv, Nat.reduceMod, Int.reduceLE, Int.reduceLT, Int.reduceEq, Int.reduceBEq, Int.reduceBNe, Int.reduceAdd, Int.reduceSub, Int.reduceNeg, Int.reduceToNat, Int.reduceMul, Int.reducePow, Nat.reducePow, reduceCtorEq, e, forms_c]
  rw [lpK_go1]
  simp +contextual (maxSteps := 10000000) only [↓reduceIte, go_sem, Nat.reduceEqDiff, Nat.reduceAdd, Nat.reduceSub, Nat.reduceMul, Nat.reduceLeDiff, Nat.reduceLT, Nat.reduceBEq, Nat.reduceDiv, Nat.reduceMod, Int.reduceLE, Int.reduceLT, Int.reduceEq, Int.reduceBEq, Int.reduceBNe, Int.reduceAdd, Int.reduceSub, Int.reduceNeg, Int.reduceToNat, Int.reduceMul, Int.reducePow, Nat.reducePow, reduceCtorEq, r1]
  rw [lpK_go1]
  simp +contextual (maxSteps := 10000000) only [↓reduceIte, go_sem, Nat.reduceEqDiff, Nat.reduceAdd, Nat.reduceSub, Nat.reduceMul, Nat.reduceLeDiff, Nat.reduceLT, Nat.reduceBEq, Nat.reduceDiv, Nat.reduceMod, Int.reduceLE, Int.reduceLT, Int.reduceEq, Int.reduceBEq, Int.reduceBNe, Int.reduceAdd, Int.reduceSub, Int.reduceNeg, Int.reduceToNat, Int.reduceMul, Int.reducePow, Nat.reducePow, reduceCtorEq, r2]
  rw [lpK_go1]
  simp +contextual (maxSteps := 10000000) only [↓reduceIte, go_sem, Nat.reduceEqDiff, Nat.reduceAdd, Nat.reduceSub, Nat.reduceMul, Nat.reduceLeDiff, Nat.reduceLT, Nat.reduceBEq, Nat.reduceDiv, Nat.reduceMod, Int.reduceLE, Int.reduceLT, Int.reduceEq, Int.reduceBEq, Int.reduceBNe, Int.reduceAdd, Int.reduceSub, Int.reduceNeg, Int.reduceToNat, Int.reduceMul, Int.reducePow, Nat.reducePow, reduceCtorEq, r3]
  rw [lpK_go1]
  cases hq : decide (0 < (l.length : Int))
  all_goals
    simp +contextual (maxSteps := 10000000) only [↓reduceIte, go_sem, Nat.reduceEqDiff, Nat.reduceAdd, Nat.reduceSub, Nat.reduceMul, Nat.reduceLeDiff, Nat.reduceLT, Nat.reduceBEq, Nat.reduceDiv, Nat.reduceMod, Int.reduceLE, Int.reduceLT, Int.reduceEq, Int.reduceBEq, Int.reduceBNe, Int.reduceAdd, Int.reduceSub, Int.reduceNeg, Int.reduceToNat, Int.reduceMul, Int.reducePow, Nat.reducePow, reduceCtorEq, r4, hg, hd, hq, Bool.false_or, Bool.or_false]
    simp only [gFin, hq, getR', Bool.false_or, if_true, Bool.false_eq_true, if_false]
    rfl
set_option maxRecDepth 20000 in
set_option maxHeartbeats 8000000 in
theorem oget_5 (v : Val) (hs : v.sz ≤ 3999990) (hw : v.wf) (h : v.kind ≠ 1) (n1 : newS v 35 nm1 = none) (n2 : newS v 36 nm2 = none) (n3 : newS v 37 nm3 = none) (n4 : newS v 38 nm4 = none) (l : List Val) (hn : newS v 39 nm5 = some l) : EV 13 [v.d] [] = some (.ret (getR' (gFin (gF5 l) l 3)), []) := by
  have e : (v.kind == 1) = false := by simpa using h
  have r1 := new_none v (by omega) hw 35 nm1 n1
  have r2 := new_none v (by omega) hw 36 nm2 n2
  have r3 := new_none v (by omega) hw 37 nm3 n3
  have r4 := new_none v (by omega) hw 38 nm4 n4
  have r5 := new_some v (by omega) hw 39 nm5 l hn
  have hg := fun sp => getf5_c l (by have := newS_sz hn; omega) sp
  have hd := fun sp => done_c l sp 3
  refine (ev_body ⟨[1], [(0, [1, 2, 3, 12, 13, 14]), (1000000, [1, 2, 3])], [], false, [], noIt⟩ [.cell 2 37, .tmp 3] rfl Tryz.func13 rfl rfl rfl (by kernel_rfl) (by show 1 ≤ 47; decide)).trans ?_
  simp +contextual (maxSteps := 10000000) only [↓reduceIte, go_sem, Nat.reduceEqDiff, Nat.reduceAdd, Nat.reduceSub, Nat.reduceMul, Nat.reduceLeDiff, Nat.reduceLT, Nat.reduceBEq, Nat.reduceDiv, Nat.reduceMod, Int.reduceLE, Int.reduceLT, Int.reduceEq, Int.reduceBEq, Int.reduceBNe, Int.reduceAdd, Int.reduceSub, Int.reduceNeg, Int.reduceToNat, Int.reduceMul, Int.reducePow, Nat.reducePow, reduceCtorEq]
  refine (run_scope 0 rfl rfl).trans ?_
  simp +contextual (maxSteps := 10000000) only [↓reduceIte, go_sem, Nat.reduceEqDiff, Nat.reduceAdd, Nat.reduceSub, Nat.reduceMul, Nat.reduceLeDiff, Nat.reduceLT, Nat.reduceBEq, Nat.reduceDiv, Nat.reduceMod, Int.reduceLE, Int.reduceLT, Int.reduceEq, Int.reduceBEq, Int.reduceBNe, Int.reduceAdd, Int.reduceSub, Int.reduceNeg, Int.reduceToNat, Int.reduceMul, Int.reducePow, Nat.reducePow, reduceCtorEq, e, forms_c]
  rw [lpK_go1]
  simp +contextual (maxSteps := 10000000) only [↓reduceIte, go_sem, Nat.reduceEqDiff, Nat.reduceAdd, Nat.reduceSub, Nat.reduceMul, Nat.reduceLeDiff, Nat.reduceLT, Nat.reduceBEq, Nat.reduceDiv, Nat.reduceMod, Int.reduceLE, Int.reduceLT, Int.reduceEq, Int.reduceBEq, Int.reduceBNe, Int.reduceAdd, Int.reduceSub, Int.reduceNeg, Int.reduceToNat, Int.reduceMul, Int.reducePow, Nat.reducePow, reduceCtorEq, r1]
  rw [lpK_go1]
  simp +contextual (maxSteps := 10000000) only [↓reduceIte, go_sem, Nat.reduceEqDiff, Nat.reduceAdd, Nat.reduceSub, Nat.reduceMul, Nat.reduceLeDiff, Nat.reduceLT, Nat.reduceBEq, Nat.reduceDiv, Nat.reduceMod, Int.reduceLE, Int.reduceLT, Int.reduceEq, Int.reduceBEq, Int.reduceBNe, Int.reduceAdd, Int.reduceSub, Int.reduceNeg, Int.reduceToNat, Int.reduceMul, Int.reducePow, Nat.reducePow, reduceCtorEq, r2]
  rw [lpK_go1]
  simp +contextual (maxSteps := 10000000) only [↓reduceIte, go_sem, Nat.reduceEqDiff, Nat.reduceAdd, Nat.reduceSub, Nat.reduceMul, Nat.reduceLeDiff, Nat.reduceLT, Nat.reduceBEq, Nat.reduceDiv, Nat.reduceMod, Int.reduceLE, Int.reduceLT, Int.reduceEq, Int.reduceBEq, Int.reduceBNe, Int.reduceAdd, Int.reduceSub, Int.reduceNeg, Int.reduceToNat, Int.reduceMul, Int.reducePow, Nat.reducePow, reduceCtorEq, r3]
  rw [lpK_go1]
  simp +contextual (maxSteps := 10000000) only [↓reduceIte, go_sem, Nat.reduceEqDiff, Nat.reduceAdd, Nat.reduceSub, Nat.reduceMul, Nat.reduceLeDiff, Nat.reduceLT, Nat.reduceBEq, Nat.reduceDiv, Nat.reduceMod, Int.reduceLE, Int.reduceLT, Int.reduceEq, Int.reduceBEq, Int.reduceBNe, Int.reduceAdd, Int.reduceSub, Int.reduceNeg, Int.reduceToNat, Int.reduceMul, Int.reducePow, Nat.reducePow, reduceCtorEq, r4]
  rw [lpK_go1]
  cases hq : ((gF5 l).2 || decide (3 < (l.length : Int)))
  all_goals
    simp +contextual (maxSteps := 10000000) only [↓reduceIte, go_sem, Nat.reduceEqDiff, Nat.reduceAdd, Nat.reduceSub, Nat.reduceMul, Nat.reduceLeDiff, Nat.reduceLT, Nat.reduceBEq, Nat.reduceDiv, Nat.reduceMod, Int.reduceLE, Int.reduceLT, Int.reduceEq, Int.reduceBEq, Int.reduceBNe, Int.reduceAdd, Int.reduceSub, Int.reduceNeg, Int.reduceToNat, Int.reduceMul, Int.reducePow, Nat.reducePow, reduceCtorEq, r5, hg, hd, hq, Bool.false_or, Bool.or_false]
    simp only [gFin, hq, getR', if_true, Bool.false_eq_true, if_false]
    rfl
set_option maxRecDepth 20000 in
set_option maxHeartbeats 8000000 in
theorem oget_6 (v : Val) (hs : v.sz ≤ 3999990) (hw : v.wf) (h : v.kind ≠ 1) (n1 : newS v 35 nm1 = none) (n2 : newS v 36 nm2 = none) (n3 : newS v 37 nm3 = none) (n4 : newS v 38 nm4 = none) (n5 : newS v 39 nm5 = none) : EV 13 [v.d] [] = some (.ret (getR' none), []) := by
  have e : (v.kind == 1) = false := by simpa using h
  have r1 := new_none v (by omega) hw 35 nm1 n1
  have r2 := new_none v (by omega) hw 36 nm2 n2
  have r3 := new_none v (by omega) hw 37 nm3 n3
  have r4 := new_none v (by omega) hw 38 nm4 n4
  have r5 := new_none v (by omega) hw 39 nm5 n5
  refine (ev_body ⟨[1], [(0, [1, 2, 3, 12, 13, 14]), (1000000, [1, 2, 3])], [], false, [], noIt⟩ [.cell 2 37, .tmp 3] rfl Tryz.func13 rfl rfl rfl (by kernel_rfl) (by show 1 ≤ 47; decide)).trans ?_
  simp +contextual (maxSteps := 10000000) only [↓reduceIte, go_sem, Nat.reduceEqDiff, Nat.reduceAdd, Nat.reduceSub, Nat.reduceMul, Nat.reduceLeDiff, Nat.reduceLT, Nat.reduceBEq, Nat.reduceDiv, Nat.reduceMod, Int.reduceLE, Int.reduceLT, Int.reduceEq, Int.reduceBEq, Int.reduceBNe, Int.reduceAdd, Int.reduceSub, Int.reduceNeg, Int.reduceToNat, Int.reduceMul, Int.reducePow, Nat.reducePow, reduceCtorEq]
  refine (run_scope 0 rfl rfl).trans ?_
  simp +contextual (maxSteps := 10000000) only [↓reduceIte, go_sem, Nat.reduceEqDiff, Nat.reduceAdd, Nat.reduceSub, Nat.reduceMul, Nat.reduceLeDiff, Nat.reduceLT, Nat.reduceBEq, Nat.reduceDiv, Nat.reduceMod, Int.reduceLE, Int.reduceLT, Int.reduceEq, Int.reduceBEq, Int.reduceBNe, Int.reduceAdd, Int.reduceSub, Int.reduceNeg, Int.reduceToNat, Int.reduceMul, Int.reducePow, Nat.reducePow, reduceCtorEq, e, forms_c]
  rw [lpK_go1]
  simp +contextual (maxSteps := 10000000) only [↓reduceIte, go_sem, Nat.reduceEqDiff, Nat.reduceAdd, Nat.reduceSub, Nat.reduceMul, Nat.reduceLeDiff, Nat.reduceLT, Nat.reduceBEq, Nat.reduceDiv, Nat.reduceMod, Int.reduceLE, Int.reduceLT, Int.reduceEq, Int.reduceBEq, Int.reduceBNe, Int.reduceAdd, Int.reduceSub, Int.reduceNeg, Int.reduceToNat, Int.reduceMul, Int.reducePow, Nat.reducePow, reduceCtorEq, r1]
  rw [lpK_go1]
  simp +contextual (maxSteps := 10000000) only [↓reduceIte, go_sem, Nat.reduceEqDiff, Nat.reduceAdd, Nat.reduceSub, Nat.reduceMul, Nat.reduceLeDiff, Nat.reduceLT, Nat.reduceBEq, Nat.reduceDiv, Nat.reduceMod, Int.reduceLE, Int.reduceLT, Int.reduceEq, Int.reduceBEq, Int.reduceBNe, Int.reduceAdd, Int.reduceSub, Int.reduceNeg, Int.reduceToNat, Int.reduceMul, Int.reducePow, Nat.reducePow, reduceCtorEq, r2]
  rw [lpK_go1]
  simp +contextual (maxSteps := 10000000) only [↓reduceIte, go_sem, Nat.reduceEqDiff, Nat.reduceAdd, Nat.reduceSub, Nat.reduceMul, Nat.reduceLeDiff, Nat.reduceLT, Nat.reduceBEq, Nat.reduceDiv, Nat.reduceMod, Int.reduceLE, Int.reduceLT, Int.reduceEq, Int.reduceBEq, Int.reduceBNe, Int.reduceAdd, Int.reduceSub, Int.reduceNeg, Int.reduceToNat, Int.reduceMul, Int.reducePow, Nat.reducePow, reduceCtorEq, r3]
  rw [lpK_go1]
  simp +contextual (maxSteps := 10000000) only [↓reduceIte, go_sem, Nat.reduceEqDiff, Nat.reduceAdd, Nat.reduceSub, Nat.reduceMul, Nat.reduceLeDiff, Nat.reduceLT, Nat.reduceBEq, Nat.reduceDiv, Nat.reduceMod, Int.reduceLE, Int.reduceLT, Int.reduceEq, Int.reduceBEq, Int.reduceBNe, Int.reduceAdd, Int.reduceSub, Int.reduceNeg, Int.reduceToNat, Int.reduceMul, Int.reducePow, Nat.reducePow, reduceCtorEq, r4]
  rw [lpK_go1]
  simp +contextual (maxSteps := 10000000) only [↓reduceIte, go_sem, Nat.reduceEqDiff, Nat.reduceAdd, Nat.reduceSub, Nat.reduceMul, Nat.reduceLeDiff, Nat.reduceLT, Nat.reduceBEq, Nat.reduceDiv, Nat.reduceMod, Int.reduceLE, Int.reduceLT, Int.reduceEq, Int.reduceBEq, Int.reduceBNe, Int.reduceAdd, Int.reduceSub, Int.reduceNeg, Int.reduceToNat, Int.reduceMul, Int.reducePow, Nat.reducePow, reduceCtorEq, r5]
  rw [lpK_go1]
  simp +contextual (maxSteps := 10000000) only [↓reduceIte, go_sem, Nat.reduceEqDiff, Nat.reduceAdd, Nat.reduceSub, Nat.reduceMul, Nat.reduceLeDiff, Nat.reduceLT, Nat.reduceBEq, Nat.reduceDiv, Nat.reduceMod, Int.reduceLE, Int.reduceLT, Int.reduceEq, Int.reduceBEq, Int.reduceBNe, Int.reduceAdd, Int.reduceSub, Int.reduceNeg, Int.reduceToNat, Int.reduceMul, Int.reducePow, Nat.reducePow, reduceCtorEq]
  rfl
theorem oget_c (v : Val) (hs : v.sz ≤ 3999990) (hw : v.wf) : EV 13 [v.d] [] = some (.ret (getR' (getO v)), []) := by
  unfold getO
  by_cases h : v.kind = 1
  · rw [if_pos h]; exact oget_null v h
  · rw [if_neg h]
    cases n1 : newS v 35 nm1 with
    | some l => exact oget_1 v hs hw h l n1
    | none =>
      cases n2 : newS v 36 nm2 with
      | some l => exact oget_2 v hs hw h n1 l n2
      | none =>
        cases n3 : newS v 37 nm3 with
        | some l => exact oget_3 v hs hw h n1 n2 l n3
        | none =>
          cases n4 : newS v 38 nm4 with
          | some l => exact oget_4 v hs hw h n1 n2 n3 l n4
          | none =>
            cases n5 : newS v 39 nm5 with
            | some l => exact oget_5 v hs hw h n1 n2 n3 n4 l n5
            | none => exact oget_6 v hs hw h n1 n2 n3 n4 n5
end Go.Bw.R1

namespace Go.Bw.R1
set_option maxRecDepth 5000
open Go Go.Bw Go.Proofs
theorem right_put {code : Int} {l : List Val} (h1 : mayL (trimS l) = true) (h2 : Val.depthL (trimS l) ≤ 14) (h3 : Val.itemsL (trimS l) ≤ 1021) : rightS (putS code l) = true := by
  have hd : (putS code l).depth = max 1 (Val.depthL (trimS l) + 1) + 1 := by
    simp only [putS, Val.depth, Val.depthL]; omega
  have hi : (putS code l).items = Val.itemsL (trimS l) + 3 := by
    simp only [putS, Val.items, Val.itemsL]; omega
  rw [rightS, hd, hi, mayS_put, h1]
  simp only [Bool.and_true, Bool.and_eq_true, decide_eq_true_eq]
  omega
theorem trim_null (l : List Val) (x : Val) (h : x.kind = 1) : trimS (l ++ [x]) = trimS l := by
  unfold trimS
  rw [List.reverse_append]
  simp only [List.reverse_cons, List.reverse_nil, List.nil_append, List.cons_append]
  rw [List.dropWhile_cons, if_pos (by simpa using h)]
theorem trim_nil : trimS [] = [] := rfl
theorem sym_may {c : ByteArray} (h : asc (bl c) = true) : mayS (.mk 21 0 c []) = true := by
  simp only [mayS, mayL]
  show (true && true && (true && asc (bl c) && true)) = true
  rw [h]; rfl
theorem cond_right {c : ByteArray} (h : asc (bl c) = true) : rightS (putS 29 [.mk 21 0 c []]) = true := by
  have e : trimS [Val.mk 21 0 c []] = [.mk 21 0 c []] := trim_last (l := []) (by simp [Val.kind_mk])
  refine right_put ?_ ?_ ?_
  · rw [e]; simp only [mayL, sym_may h, Bool.and_true]
  · rw [e]; simp only [Val.depthL, Val.depth]; omega
  · rw [e]; simp only [Val.itemsL, Val.items]; omega
/-- a condition is told as it was -/
theorem gcS_condV {c : ByteArray} (h : asc (bl c) = true) : gcS (condV c) = some c := by
  unfold condV
  split
  · rename_i h0
    have : c = ⟨#[]⟩ := ByteArray.ext (Array.eq_empty_of_size_eq_zero h0)
    rw [this]; rfl
  · have e : trimS [Val.mk 21 0 c []] = [.mk 21 0 c []] := trim_last (l := []) (by simp [Val.kind_mk])
    unfold gcS
    rw [if_neg (by show ¬ (25 : Int) = 1; decide), newS_putN (cond_right h), e]
    rfl
theorem condV_null (c : ByteArray) : ((condV c).kind == 1) = decide (c.size = 0) := by
  unfold condV
  split
  · rename_i h; simp [h, Val.kind_mk]
  · rename_i h; simp [h, putS, Val.kind_mk]
theorem asc_nil : asc (bl ⟨#[]⟩) = true := rfl
theorem condV_may {c : ByteArray} (h : asc (bl c) = true) : mayS (condV c) = true := by
  unfold condV
  split
  · rfl
  · exact right_may (cond_right h)
theorem condV_depth (c : ByteArray) : (condV c).depth ≤ 3 ∧ (condV c).items ≤ 4 := by
  unfold condV
  have e : trimS [Val.mk 21 0 c []] = [.mk 21 0 c []] := trim_last (l := []) (by simp [Val.kind_mk])
  split
  · decide
  · simp only [putS, e, Val.depth, Val.depthL, Val.items, Val.itemsL]; omega
/-- the fields of an outcome, without what is null at the end -/
theorem out1 (a b : Int) (c : ByteArray) : trimS (outF ⟨1, a, b, c⟩) = [.mk 5 a ⟨#[]⟩ [], .mk 6 b ⟨#[]⟩ []] := trim_last (l := [.mk 5 a ⟨#[]⟩ []]) (by simp [Val.kind_mk])
theorem out3 (a b : Int) (c : ByteArray) : trimS (outF ⟨3, a, b, c⟩) = if c.size = 0 then [] else [condV c] := by
  show trimS ([] ++ [condV c]) = _
  split
  · rename_i h
    have hk : (condV c).kind = 1 := by have := condV_null c; rw [decide_eq_true h] at this; simpa using this
    rw [trim_null _ _ hk]; rfl
  · rename_i h
    have hk : (condV c).kind ≠ 1 := by have := condV_null c; rw [decide_eq_false h] at this; simpa using this
    rw [trim_last hk]; rfl
theorem num5_may {a : Int} (h : a ≤ 4294967295) : mayS (.mk 5 a ⟨#[]⟩ []) = true := by
  simp only [mayS, mayL]
  show (true && true && (decide (a < 4294967296) && true && true)) = true
  simp; omega
theorem num6_may (a : Int) : mayS (.mk 6 a ⟨#[]⟩ []) = true := by
  simp only [mayS, mayL]
  rfl
/-- what may be may be as a value, and is told as it was -/
theorem out_right {o : Outc} (h : mayO o = true) (h0 : 0 ≤ o.a ∧ 0 ≤ o.b) : rightS (outV o) = true ∧ getO (outV o) = some o := by
  obtain ⟨k, a, b, c⟩ := o
  have ha := may_asc h
  simp only at ha h0
  have hm := h
  simp only [mayO, Bool.and_eq_true, Bool.or_eq_true, decide_eq_true_eq, beq_iff_eq] at hm
  obtain ⟨⟨_, hc⟩, hm⟩ := hm
  have emp : c.size = 0 → c = ⟨#[]⟩ := fun h => ByteArray.ext (Array.eq_empty_of_size_eq_zero h)
  rcases may_kind h with hk | hk | hk | hk | hk | hk <;> simp only at hk <;> subst hk
  · simp only [Int.reduceEq, if_false, true_or, if_true, Bool.and_eq_true, beq_iff_eq, or_false] at hm hc
    obtain ⟨rfl, rfl⟩ := hm
    obtain rfl := emp hc
    exact ⟨by decide, rfl⟩
  · simp only [Int.reduceEq, if_true, decide_eq_true_eq, or_false] at hm hc
    obtain rfl := emp hc
    have hr : rightS (putS 35 (outF ⟨1, a, b, ⟨#[]⟩⟩)) = true := by
      refine right_put ?_ ?_ ?_
      · rw [out1]; simp only [mayL, num5_may hm, num6_may, Bool.and_true]
      · rw [out1]; simp only [Val.depthL, Val.depth]; omega
      · rw [out1]; simp only [Val.itemsL, Val.items]; omega
    have e : outV ⟨1, a, b, ⟨#[]⟩⟩ = putS 35 (outF ⟨1, a, b, ⟨#[]⟩⟩) := rfl
    refine ⟨by rw [e]; exact hr, ?_⟩
    rw [e]
    unfold getO
    rw [if_neg (by show ¬ (25 : Int) = 1; decide), newS_putN hr, out1]
    rfl
  · simp only [Int.reduceEq, if_false, true_or, or_true, if_true, Bool.and_eq_true, beq_iff_eq, or_false] at hm hc
    obtain ⟨rfl, rfl⟩ := hm
    obtain rfl := emp hc
    exact ⟨by decide, rfl⟩
  · simp only [Int.reduceEq, if_false, true_or, or_true, if_true, Bool.and_eq_true, beq_iff_eq] at hm
    obtain ⟨rfl, rfl⟩ := hm
    have hr : rightS (putS 37 (outF ⟨3, 0, 0, c⟩)) = true := by
      have hd := condV_depth c
      refine right_put ?_ ?_ ?_
      · rw [out3]; split
        · rfl
        · simp only [mayL, condV_may ha, Bool.and_true]
      · rw [out3]; split
        · simp [Val.depthL]
        · simp only [Val.depthL]; omega
      · rw [out3]; split
        · simp [Val.itemsL]
        · simp only [Val.itemsL]; omega
    have e : outV ⟨3, 0, 0, c⟩ = putS 37 (outF ⟨3, 0, 0, c⟩) := rfl
    refine ⟨by rw [e]; exact hr, ?_⟩
    rw [e]
    unfold getO
    rw [if_neg (by show ¬ (25 : Int) = 1; decide), newS_putX (by decide), newS_putX (by decide), newS_putN hr, out3]
    simp only
    split
    · rename_i h0; obtain rfl := emp h0; rfl
    · rename_i h0
      have hk : (condV c).kind ≠ 1 := by have := condV_null c; rw [decide_eq_false h0] at this; simpa using this
      have hat : atS [condV c] 0 = some (condV c) := by
        unfold atS; simp only [Int.reduceLT, if_false, Int.toNat_zero, List.getElem?_cons_zero, if_neg hk]
      have hv : valS [condV c] 0 [] = (condV c, false) := by unfold valS; rw [hat]; simp
      have hg : gF3 [condV c] = (⟨3, 0, 0, c⟩, false) := by unfold gF3; rw [hv]; simp only [gcS_condV ha]; rfl
      rw [hg]; rfl
  · simp only [Int.reduceEq, if_false, true_or, or_true, if_true, Bool.and_eq_true, beq_iff_eq, or_false] at hm hc
    obtain ⟨rfl, rfl⟩ := hm
    obtain rfl := emp hc
    exact ⟨by decide, rfl⟩
  · simp only [Int.reduceEq, if_false, or_self, if_true, Bool.and_eq_true, decide_eq_true_eq, or_false] at hm hc
    obtain rfl := emp hc
    have h1 : a = 0 ∨ a = 1 := by omega
    have h2 : b = 0 ∨ b = 1 := by omega
    rcases h1 with rfl | rfl <;> rcases h2 with rfl | rfl <;> exact ⟨by decide, rfl⟩
end Go.Bw.R1

namespace Go.Bw.R1
set_option maxRecDepth 5000
open Go Go.Bw Go.Proofs
theorem num_ok {l : List Val} {i k none : Int} {must : Bool} (h : (numS' l i k must none).2 = false) : ((numS' l i k must none).1 = none ∧ must = false) ∨ ∃ x ∈ l, x.kind = k ∧ (numS' l i k must none).1 = x.num := by
  unfold numS' at h ⊢
  split
  · rename_i hn; rw [hn] at h; exact .inl ⟨rfl, h⟩
  · rename_i x hx
    rw [hx] at h
    simp only at h ⊢
    split at h
    · rename_i hk; rw [if_pos hk]; exact .inr ⟨x, List.mem_of_getElem? (atS_len hx).2.2.1, hk, rfl⟩
    · cases h
theorem txt_ok {l : List Val} {i k : Int} {must : Bool} (h : (txtS l i k must).2 = false) (hm : must = true) : ∃ x ∈ l, x.kind = k ∧ (txtS l i k must).1 = x.text := by
  unfold txtS at h ⊢
  split
  · rename_i hn; rw [hn] at h; simp only at h; rw [hm] at h; cases h
  · rename_i x hx
    rw [hx] at h
    simp only at h ⊢
    split at h
    · rename_i hk; rw [if_pos hk]; exact ⟨x, List.mem_of_getElem? (atS_len hx).2.2.1, hk, rfl⟩
    · cases h
theorem may_num {l : List Val} {x : Val} (h : mayL l = true) (hx : x ∈ l) : mayS x = true := by
  rw [mayL_all, List.all_eq_true] at h; exact h x hx
theorem gcS_ok {v : Val} {s : ByteArray} (h : gcS v = some s) : asc (bl s) = true ∧ s.size ≤ v.sz := by
  unfold gcS at h
  split at h
  · simp only [Option.some.injEq] at h; subst h; exact ⟨rfl, Nat.zero_le _⟩
  · split at h
    · cases h
    · rename_i l hn
      unfold gcF at h
      split at h
      · cases h
      · rename_i hq
        simp only [Option.some.injEq] at h
        simp only [Bool.not_eq_true, Bool.or_eq_false_iff] at hq
        obtain ⟨x, hx, hk, ht⟩ := txt_ok hq.1.1.1 rfl
        obtain ⟨_, _, d, y, _, _, _, _, hm⟩ := newS_some hn
        have hmx := may_num hm hx
        rw [mayS_eq] at hmx
        simp only [Bool.and_eq_true] at hmx
        have ha := hmx.2.1.2
        rw [hk] at ha
        have h1 := szL_in hx
        have h2 := newS_sz hn
        have h3 := Val.sz_eq x
        rw [← h, ht]
        exact ⟨ha, by omega⟩
/-- what is got may be -/
theorem getO_may {v : Val} {p : Outc} (hw : v.wf) (h : getO v = some p) : mayO p = true ∧ (0 ≤ p.a ∧ 0 ≤ p.b) ∧ p.cond.size ≤ v.sz + 1 ∧ p.b < 18446744073709551616 := by
  have fin : ∀ {r : Outc × Bool} {l : List Val} {m : Int}, gFin r l m = some p → r.2 = false ∧ r.1 = p := fun {r l m} h => by
    unfold gFin at h
    split at h
    · cases h
    · rename_i hq
      simp only [Bool.not_eq_true, Bool.or_eq_false_iff] at hq
      simp only [Option.some.injEq] at h
      exact ⟨hq.1, h⟩
  have nn : ∀ {code : Int} {name : ByteArray} {l : List Val}, newS v code name = some l → ∀ x ∈ l, mayS x = true ∧ 0 ≤ x.num ∧ x.num < 18446744073709551616 := fun {code name l} hn x hx => by
    obtain ⟨_, _, d, y, _, _, _, _, hm⟩ := newS_some hn
    exact ⟨may_num hm hx, (wfL_mem (newS_wf hw hn) x hx).num, (wfL_mem (newS_wf hw hn) x hx).numU⟩
  have nk : ∀ {x : Val} {k : Int}, mayS x = true → x.kind = k → numS k x.num = true := fun {x k} hm hk => by
    rw [mayS_eq] at hm
    simp only [Bool.and_eq_true] at hm
    have := hm.2.1.1
    rwa [hk] at this
  unfold getO at h
  split at h
  · simp only [Option.some.injEq] at h; subst h; exact ⟨by decide, ⟨by decide, by decide⟩, Nat.zero_le _, by decide⟩
  split at h
  · rename_i l hn
    obtain ⟨hq, rfl⟩ := fin h
    simp only [gF1, Bool.or_eq_false_iff] at hq ⊢
    rcases num_ok hq.1 with ⟨_, hc⟩ | ⟨x, hx, hxk, hxn⟩
    · cases hc
    rcases num_ok hq.2 with ⟨_, hc⟩ | ⟨y, hy, hyk, hyn⟩
    · cases hc
    have h5 := nk (nn hn x hx).1 hxk
    have h5' : decide (x.num < 4294967296) = true := h5
    simp only [decide_eq_true_eq] at h5'
    rw [hxn, hyn]
    refine ⟨?_, ⟨(nn hn x hx).2.1, (nn hn y hy).2.1⟩, Nat.zero_le _, (nn hn y hy).2.2⟩
    show (true && (true || false) && decide (x.num ≤ 4294967295)) = true
    simp; omega
  split at h
  · obtain ⟨_, rfl⟩ := fin h
    exact ⟨by decide, ⟨by decide, by decide⟩, Nat.zero_le _, by decide⟩
  split at h
  · rename_i l hn
    obtain ⟨hq, rfl⟩ := fin h
    simp only [gF3, Bool.or_eq_false_iff] at hq ⊢
    cases hg : gcS (valS l 0 []).1 with
    | none => rw [hg] at hq; cases hq.2
    | some s =>
      obtain ⟨ha, hz⟩ := gcS_ok hg
      have h1 := valS_sz l 0 []
      have h2 := newS_sz hn
      refine ⟨?_, ⟨by decide, by decide⟩, by simp only [Option.getD]; omega, by decide⟩
      show (asc (bl s) && (decide (s.size = 0) || true) && (true && true)) = true
      rw [ha]; simp
  split at h
  · obtain ⟨_, rfl⟩ := fin h
    exact ⟨by decide, ⟨by decide, by decide⟩, Nat.zero_le _, by decide⟩
  split at h
  · rename_i l hn
    obtain ⟨hq, rfl⟩ := fin h
    simp only [gF5, Bool.or_eq_false_iff] at hq ⊢
    have key : ∀ i, (numS' l i 2 false 0).2 = false → 0 ≤ (numS' l i 2 false 0).1 ∧ (numS' l i 2 false 0).1 ≤ 1 := fun i hi => by
      rcases num_ok hi with ⟨e, _⟩ | ⟨x, hx, hxk, hxn⟩
      · rw [e]; decide
      · have h5 : decide (x.num ≤ 1) = true := nk (nn hn x hx).1 hxk
        have := (nn hn x hx).2.1
        simp only [decide_eq_true_eq] at h5
        rw [hxn]; exact ⟨this, h5⟩
    have k0 := key 0 hq.1.1
    have k1 := key 1 hq.1.2
    refine ⟨?_, ⟨k0.1, k1.1⟩, Nat.zero_le _, by have := k1.2; omega⟩
    show (true && (true || false) && (decide ((numS' l 0 2 false 0).1 ≤ 1) && decide ((numS' l 1 2 false 0).1 ≤ 1))) = true
    simp [k0.2, k1.2]
  · cases h
def cNF : ByteArray := ⟨#[97, 109, 113, 112, 58, 110, 111, 116, 45, 102, 111, 117, 110, 100]⟩
abbrev oNF : Outc := ⟨3, 0, 0, cNF⟩
theorem mayNF : mayO oNF = true := by decide
theorem trimNF : outV oNF = .mk 25 0 ⟨#[]⟩ [.mk 6 37 ⟨#[]⟩ [], .mk 22 0 ⟨#[]⟩ [condV cNF]] := rfl
set_option maxHeartbeats 2000000 in
theorem works8 : EV 6 [] [] = some (.ret (B true), []) := by
  have h1 := oput_c oNF (by decide)
  unfold putO at h1
  rw [if_pos mayNF] at h1
  have wf : (outV oNF).wf := by
    rw [trimNF]
    exact ⟨by decide, ⟨by decide, trivial⟩, ⟨by decide, ⟨by decide, ⟨by decide, trivial⟩, ⟨by decide, ⟨by decide, trivial⟩, trivial⟩, trivial⟩, trivial⟩, trivial⟩
  have h2 := oget_c (outV oNF) (by rw [trimNF]; decide) wf
  rw [(out_right mayNF (by decide)).2] at h2
  have h3 : EV 13 [(Val.mk 5 1 ⟨#[]⟩ []).d] [] = some (.ret (getR' none), []) := oget_c (.mk 5 1 ⟨#[]⟩ []) (by decide) (by exact ⟨by decide, trivial⟩)
  rw [trimNF] at h1 h2
  generalize hcv : condV cNF = w at h1 h2
  simp only [Outc.d, Outc.cs, cNF, getR', oc0] at h1 h2 h3
  refine (ev_body ⟨[], [], [], false, [], noIt⟩ [.tmp 0] rfl Tryz.func6 rfl rfl rfl (by kernel_rfl) (by show 0 ≤ 58; decide)).trans ?_
  simp +contextual (maxSteps := 10000000) only [↓reduceIte, go_sem, Nat.reduceEqDiff, Nat.reduceAdd, Nat.reduceSub, Nat.reduceMul, Nat.reduceLeDiff, Nat.reduceLT, Nat.reduceBEq, Nat.reduceDiv, Nat.reduceMod, Int.reduceLE, Int.reduceLT, Int.reduceEq, Int.reduceBEq, Int.reduceBNe, Int.reduceAdd, Int.reduceSub, Int.reduceNeg, Int.reduceToNat, Int.reduceMul, Int.reducePow, Nat.reducePow, reduceCtorEq, h1, h2, h3, number_c, cNF, beq_self_eq_true, Bool.and_self, List.map_cons, List.map_nil, List.length_cons, List.length_nil]
  all_goals rfl
end Go.Bw.R1

namespace Go.Bw.R1
set_option maxRecDepth 5000
open Go Go.Bw Go.Proofs
theorem beq_txt (a b : ByteArray) : (a == b) = decide (a = b) := by
  cases a with
  | mk x =>
    cases b with
    | mk y =>
      show (x == y) = _
      rw [Bool.eq_iff_iff]; simp
theorem txt_at {s : ByteArray} {i : Nat} {x : Int} (h : (bl s)[i]? = some x) : ∃ w : UInt8, s[i]? = some w ∧ (w.toNat : Int) = x := by
  unfold bl at h
  rw [List.getElem?_map, Option.map_eq_some_iff] at h
  obtain ⟨w, h1, h2⟩ := h
  rw [Array.getElem?_toList] at h1
  have hl : i < s.size := (Array.getElem?_eq_some_iff.1 h1).1
  refine ⟨w, ?_, h2⟩
  rw [getElem?_pos s i hl]
  rw [getElem?_pos s.data i hl] at h1
  exact h1
theorem outV_sz (o : Outc) : (outV o).sz ≤ o.cond.size + 30 := by
  unfold outV
  split
  · exact Nat.le_trans (by decide : vN.sz ≤ 30) (by omega)
  · have := putS_sz (34 + o.kind) (outF o); have := outF_sz o; omega
end Go.Bw.R1

namespace Go.Bw.R1
set_option maxRecDepth 5000
open Go Go.Bw Go.Proofs
theorem sadd1a {xo yo : Operand} : binD Tryz.prog .add 9 xo yo (Sx ⟨#[97, 109, 113, 112, 58]⟩) (Sx ⟨#[114, 101, 99, 101, 105, 118, 101, 100]⟩) = some (Sx ⟨#[97, 109, 113, 112, 58, 114, 101, 99, 101, 105, 118, 101, 100]⟩) := by kernel_rfl
theorem sadd1b {xo yo : Operand} : binD Tryz.prog .add 9 xo yo (Sx ⟨#[97, 109, 113, 112, 58, 114, 101, 99, 101, 105, 118, 101, 100]⟩) (Sx ⟨#[58, 108, 105, 115, 116]⟩) = some (Sx nm1) := by kernel_rfl
theorem sadd2a {xo yo : Operand} : binD Tryz.prog .add 9 xo yo (Sx ⟨#[97, 109, 113, 112, 58]⟩) (Sx ⟨#[97, 99, 99, 101, 112, 116, 101, 100]⟩) = some (Sx ⟨#[97, 109, 113, 112, 58, 97, 99, 99, 101, 112, 116, 101, 100]⟩) := by kernel_rfl
theorem sadd2b {xo yo : Operand} : binD Tryz.prog .add 9 xo yo (Sx ⟨#[97, 109, 113, 112, 58, 97, 99, 99, 101, 112, 116, 101, 100]⟩) (Sx ⟨#[58, 108, 105, 115, 116]⟩) = some (Sx nm2) := by kernel_rfl
theorem sadd3a {xo yo : Operand} : binD Tryz.prog .add 9 xo yo (Sx ⟨#[97, 109, 113, 112, 58]⟩) (Sx ⟨#[114, 101, 106, 101, 99, 116, 101, 100]⟩) = some (Sx ⟨#[97, 109, 113, 112, 58, 114, 101, 106, 101, 99, 116, 101, 100]⟩) := by kernel_rfl
theorem sadd3b {xo yo : Operand} : binD Tryz.prog .add 9 xo yo (Sx ⟨#[97, 109, 113, 112, 58, 114, 101, 106, 101, 99, 116, 101, 100]⟩) (Sx ⟨#[58, 108, 105, 115, 116]⟩) = some (Sx nm3) := by kernel_rfl
theorem sadd4a {xo yo : Operand} : binD Tryz.prog .add 9 xo yo (Sx ⟨#[97, 109, 113, 112, 58]⟩) (Sx ⟨#[114, 101, 108, 101, 97, 115, 101, 100]⟩) = some (Sx ⟨#[97, 109, 113, 112, 58, 114, 101, 108, 101, 97, 115, 101, 100]⟩) := by kernel_rfl
theorem sadd4b {xo yo : Operand} : binD Tryz.prog .add 9 xo yo (Sx ⟨#[97, 109, 113, 112, 58, 114, 101, 108, 101, 97, 115, 101, 100]⟩) (Sx ⟨#[58, 108, 105, 115, 116]⟩) = some (Sx nm4) := by kernel_rfl
theorem sadd5a {xo yo : Operand} : binD Tryz.prog .add 9 xo yo (Sx ⟨#[97, 109, 113, 112, 58]⟩) (Sx ⟨#[109, 111, 100, 105, 102, 105, 101, 100]⟩) = some (Sx ⟨#[97, 109, 113, 112, 58, 109, 111, 100, 105, 102, 105, 101, 100]⟩) := by kernel_rfl
theorem sadd5b {xo yo : Operand} : binD Tryz.prog .add 9 xo yo (Sx ⟨#[97, 109, 113, 112, 58, 109, 111, 100, 105, 102, 105, 101, 100]⟩) (Sx ⟨#[58, 108, 105, 115, 116]⟩) = some (Sx nm5) := by kernel_rfl
attribute [go_sem high] sadd1a sadd1b sadd2a sadd2b sadd3a sadd3b sadd4a sadd4b sadd5a sadd5b
set_option maxHeartbeats 2000000 in
theorem roget_null (v : Val) (h : v.kind = 1) : EV 14 [v.d] [] = some (.ret (getR' (some oc0)), []) := by
  have e : (v.kind == 1) = true := by simpa using h
  refine (ev_body ⟨[1], [(0, [1, 2, 4, 5])], [(7, [(0, 0, false), (1, 0, false), (2, 0, false), (3, 0, false), (4, 0, false), (5, 0, false), (6, 0, false), (7, 0, false), (8, 0, false), (9, 0, false), (10, 0, true), (11, 1, false), (12, 0, false), (13, 0, false), (14, 1, false), (15, 1, false)])], false, [], noIt⟩ [.cell 2 37, .tmp 3] rfl Tryz.func14 rfl rfl rfl (by kernel_rfl) (by show 1 ≤ 90; decide)).trans ?_
  simp +contextual (maxSteps := 10000000) only [↓reduceIte, go_sem, Nat.reduceEqDiff, Nat.reduceAdd, Nat.reduceSub, Nat.reduceMul, Nat.reduceLeDiff, Nat.reduceLT, Nat.reduceBEq, Nat.reduceDiv, Nat.reduceMod, Int.reduceLE, Int.reduceLT, Int.reduceEq, Int.reduceBEq, Int.reduceBNe, Int.reduceAdd, Int.reduceSub, Int.reduceNeg, Int.reduceToNat, Int.reduceMul, Int.reducePow, Nat.reducePow, reduceCtorEq, e]
  rfl
set_option maxRecDepth 20000 in
set_option maxHeartbeats 8000000 in
theorem roget_1 (v : Val) (hs : v.sz ≤ 3999990) (h : v.kind ≠ 1)  (l : List Val) (hn : newS v 35 nm1 = some l) : EV 14 [v.d] [] = some (.ret (getR' (gFin (gF1 l) l 2)), []) := by
  have e : (v.kind == 1) = false := by simpa using h
  have r1 := rnew_some v (by omega) 35 nm1 l hn
  have hlz : Val.szL l ≤ 3999990 := by have := newS_sz hn; omega
  have hd := fun sp => rdone_c l sp 2
  refine (ev_body ⟨[1], [(0, [1, 2, 4, 5])], [(7, [(0, 0, false), (1, 0, false), (2, 0, false), (3, 0, false), (4, 0, false), (5, 0, false), (6, 0, false), (7, 0, false), (8, 0, false), (9, 0, false), (10, 0, true), (11, 1, false), (12, 0, false), (13, 0, false), (14, 1, false), (15, 1, false)])], false, [], noIt⟩ [.cell 2 37, .tmp 3] rfl Tryz.func14 rfl rfl rfl (by kernel_rfl) (by show 1 ≤ 90; decide)).trans ?_
  simp +contextual (maxSteps := 10000000) only [↓reduceIte, go_sem, Nat.reduceEqDiff, Nat.reduceAdd, Nat.reduceSub, Nat.reduceMul, Nat.reduceLeDiff, Nat.reduceLT, Nat.reduceBEq, Nat.reduceDiv, Nat.reduceMod, Int.reduceLE, Int.reduceLT, Int.reduceEq, Int.reduceBEq, Int.reduceBNe, Int.reduceAdd, Int.reduceSub, Int.reduceNeg, Int.reduceToNat, Int.reduceMul, Int.reducePow, Nat.reducePow, reduceCtorEq, e]
  rw [lpK_go1]
  cases hq : ((gF1 l).2 || decide (2 < (l.length : Int)))
  all_goals
    have hq' := hq
    unfold gF1 at hq'
    simp only at hq'
    simp +contextual (maxSteps := 10000000) only [↓reduceIte, go_sem, Nat.reduceEqDiff, Nat.reduceAdd, Nat.reduceSub, Nat.reduceMul, Nat.reduceLeDiff, Nat.reduceLT, Nat.reduceBEq, Nat.reduceDiv, Nat.reduceMod, Int.reduceLE, Int.reduceLT, Int.reduceEq, Int.reduceBEq, Int.reduceBNe, Int.reduceAdd, Int.reduceSub, Int.reduceNeg, Int.reduceToNat, Int.reduceMul, Int.reducePow, Nat.reducePow, reduceCtorEq, r1, rnumber_f, hd, hq', Bool.false_or, Bool.or_false]
    simp only [gFin, hq, getR', if_true, Bool.false_eq_true, if_false]
    rfl
set_option maxRecDepth 20000 in
set_option maxHeartbeats 8000000 in
theorem roget_2 (v : Val) (hs : v.sz ≤ 3999990) (h : v.kind ≠ 1) (n1 : newS v 35 nm1 = none) (l : List Val) (hn : newS v 36 nm2 = some l) : EV 14 [v.d] [] = some (.ret (getR' (gFin ((⟨2, 0, 0, ⟨#[]⟩⟩, false)) l 0)), []) := by
  have e : (v.kind == 1) = false := by simpa using h
  have r1 := rnew_none v (by omega) 35 nm1 n1
  have r2 := rnew_some v (by omega) 36 nm2 l hn
  have hlz : Val.szL l ≤ 3999990 := by have := newS_sz hn; omega
  have hd := fun sp => rdone_c l sp 0
  refine (ev_body ⟨[1], [(0, [1, 2, 4, 5])], [(7, [(0, 0, false), (1, 0, false), (2, 0, false), (3, 0, false), (4, 0, false), (5, 0, false), (6, 0, false), (7, 0, false), (8, 0, false), (9, 0, false), (10, 0, true), (11, 1, false), (12, 0, false), (13, 0, false), (14, 1, false), (15, 1, false)])], false, [], noIt⟩ [.cell 2 37, .tmp 3] rfl Tryz.func14 rfl rfl rfl (by kernel_rfl) (by show 1 ≤ 90; decide)).trans ?_
  simp +contextual (maxSteps := 10000000) only [↓reduceIte, go_sem, Nat.reduceEqDiff, Nat.reduceAdd, Nat.reduceSub, Nat.reduceMul, Nat.reduceLeDiff, Nat.reduceLT, Nat.reduceBEq, Nat.reduceDiv, Nat.reduceMod, Int.reduceLE, Int.reduceLT, Int.reduceEq, Int.reduceBEq, Int.reduceBNe, Int.reduceAdd, Int.reduceSub, Int.reduceNeg, Int.reduceToNat, Int.reduceMul, Int.reducePow, Nat.reducePow, reduceCtorEq, e]
  rw [lpK_go1]
  simp +contextual (maxSteps := 10000000) only [↓reduceIte, go_sem, Nat.reduceEqDiff, Nat.reduceAdd, Nat.reduceSub, Nat.reduceMul, Nat.reduceLeDiff, Nat.reduceLT, Nat.reduceBEq, Nat.reduceDiv, Nat.reduceMod, Int.reduceLE, Int.reduceLT, Int.reduceEq, Int.reduceBEq, Int.reduceBNe, Int.reduceAdd, Int.reduceSub, Int.reduceNeg, Int.reduceToNat, Int.reduceMul, Int.reducePow, Nat.reducePow, reduceCtorEq, r1]
  rw [lpK_go1]
  cases hq : decide (0 < (l.length : Int))
  all_goals
    simp +contextual (maxSteps := 10000000) only [↓reduceIte, go_sem, Nat.reduceEqDiff, Nat.reduceAdd, Nat.reduceSub, Nat.reduceMul, Nat.reduceLeDiff, Nat.reduceLT, Nat.reduceBEq, Nat.reduceDiv, Nat.reduceMod, Int.reduceLE, Int.reduceLT, Int.reduceEq, Int.reduceBEq, Int.reduceBNe, Int.reduceAdd, Int.reduceSub, Int.reduceNeg, Int.reduceToNat, Int.reduceMul, Int.reducePow, Nat.reducePow, reduceCtorEq, r2, hd, hq, Bool.false_or, Bool.or_false]
    simp only [gFin, hq, getR', Bool.false_or, if_true, Bool.false_eq_true, if_false]
    rfl
set_option maxRecDepth 20000 in
set_option maxHeartbeats 8000000 in
theorem roget_3 (v : Val) (hs : v.sz ≤ 3999990) (h : v.kind ≠ 1) (n1 : newS v 35 nm1 = none) (n2 : newS v 36 nm2 = none) (l : List Val) (hn : newS v 37 nm3 = some l) : EV 14 [v.d] [] = some (.ret (getR' (gFin (gF3 l) l 1)), []) := by
  have e : (v.kind == 1) = false := by simpa using h
  have r1 := rnew_none v (by omega) 35 nm1 n1
  have r2 := rnew_none v (by omega) 36 nm2 n2
  have r3 := rnew_some v (by omega) 37 nm3 l hn
  have hlz : Val.szL l ≤ 3999990 := by have := newS_sz hn; omega
  have hd := fun sp => rdone_c l sp 1
  have hv := rvalue_fnil l (by omega) false 0
  have hg := rgcond_c (valS l 0 []).1 (by have := valS_sz l 0 []; omega)
  refine (ev_body ⟨[1], [(0, [1, 2, 4, 5])], [(7, [(0, 0, false), (1, 0, false), (2, 0, false), (3, 0, false), (4, 0, false), (5, 0, false), (6, 0, false), (7, 0, false), (8, 0, false), (9, 0, false), (10, 0, true), (11, 1, false), (12, 0, false), (13, 0, false), (14, 1, false), (15, 1, false)])], false, [], noIt⟩ [.cell 2 37, .tmp 3] rfl Tryz.func14 rfl rfl rfl (by kernel_rfl) (by show 1 ≤ 90; decide)).trans ?_
  simp +contextual (maxSteps := 10000000) only [↓reduceIte, go_sem, Nat.reduceEqDiff, Nat.reduceAdd, Nat.reduceSub, Nat.reduceMul, Nat.reduceLeDiff, Nat.reduceLT, Nat.reduceBEq, Nat.reduceDiv, Nat.reduceMod, Int.reduceLE, Int.reduceLT, Int.reduceEq, Int.reduceBEq, Int.reduceBNe, Int.reduceAdd, Int.reduceSub, Int.reduceNeg, Int.reduceToNat, Int.reduceMul, Int.reducePow, Nat.reducePow, reduceCtorEq, e]
  rw [lpK_go1]
  simp +contextual (maxSteps := 10000000) only [↓reduceIte, go_sem, Nat.reduceEqDiff, Nat.reduceAdd, Nat.reduceSub, Nat.reduceMul, Nat.reduceLeDiff, Nat.reduceLT, Nat.reduceBEq, Nat.reduceDiv, Nat.reduceMod, Int.reduceLE, Int.reduceLT, Int.reduceEq, Int.reduceBEq, Int.reduceBNe, Int.reduceAdd, Int.reduceSub, Int.reduceNeg, Int.reduceToNat, Int.reduceMul, Int.reducePow, Nat.reducePow, reduceCtorEq, r1]
  rw [lpK_go1]
  simp +contextual (maxSteps := 10000000) only [↓reduceIte, go_sem, Nat.reduceEqDiff, Nat.reduceAdd, Nat.reduceSub, Nat.reduceMul, Nat.reduceLeDiff, Nat.reduceLT, Nat.reduceBEq, Nat.reduceDiv, Nat.reduceMod, Int.reduceLE, Int.reduceLT, Int.reduceEq, Int.reduceBEq, Int.reduceBNe, Int.reduceAdd, Int.reduceSub, Int.reduceNeg, Int.reduceToNat, Int.reduceMul, Int.reducePow, Nat.reducePow, reduceCtorEq, r2]
  rw [lpK_go1]
  unfold gF3
  cases hgc : gcS (valS l 0 []).1 <;> rw [hgc] at hg <;> simp only [gcR] at hg <;> cases hq1 : (valS l 0 []).2 <;> cases hq2 : decide (1 < (l.length : Int))
  all_goals
    rw [hq1] at hv
    simp +contextual (maxSteps := 10000000) only [↓reduceIte, go_sem, Nat.reduceEqDiff, Nat.reduceAdd, Nat.reduceSub, Nat.reduceMul, Nat.reduceLeDiff, Nat.reduceLT, Nat.reduceBEq, Nat.reduceDiv, Nat.reduceMod, Int.reduceLE, Int.reduceLT, Int.reduceEq, Int.reduceBEq, Int.reduceBNe, Int.reduceAdd, Int.reduceSub, Int.reduceNeg, Int.reduceToNat, Int.reduceMul, Int.reducePow, Nat.reducePow, reduceCtorEq, r3, hv, hg, hd, hq2, Bool.false_or, Bool.or_false, Bool.true_or, Bool.or_true]
    simp only [gFin, hq1, hq2, getR', Option.getD, Option.isNone, Bool.false_or, Bool.or_false, Bool.true_or, Bool.or_true, if_true, Bool.false_eq_true, if_false]
    try rfl
set_option maxRecDepth 20000 in
set_option maxHeartbeats 8000000 in
theorem roget_4 (v : Val) (hs : v.sz ≤ 3999990) (h : v.kind ≠ 1) (n1 : newS v 35 nm1 = none) (n2 : newS v 36 nm2 = none) (n3 : newS v 37 nm3 = none) (l : List Val) (hn : newS v 38 nm4 = some l) : EV 14 [v.d] [] = some (.ret (getR' (gFin ((⟨4, 0, 0, ⟨#[]⟩⟩, false)) l 0)), []) := by
  have e : (v.kind == 1) = false := by simpa using h
  have r1 := rnew_none v (by omega) 35 nm1 n1
  have r2 := rnew_none v (by omega) 36 nm2 n2
  have r3 := rnew_none v (by omega) 37 nm3 n3
  have r4 := rnew_some v (by omega) 38 nm4 l hn
  have hlz : Val.szL l ≤ 3999990 := by have := newS_sz hn; omega
  have hd := fun sp => rdone_c l sp 0
  refine (ev_body ⟨[1], [(0, [1, 2, 4, 5])], [(7, [(0, 0, false), (1, 0, false), (2, 0, false), (3, 0, false), (4, 0, false), (5, 0, false), (6, 0, false), (7, 0, false), (8, 0, false), (9, 0, false), (10, 0, true), (11, 1, false), (12, 0, false), (13, 0, false), (14, 1, false), (15, 1, false)])], false, [], noIt⟩ [.cell 2 37, .tmp 3] rfl Tryz.func14 rfl rfl rfl (by kernel_rfl) (by show 1 ≤ 90; decide)).trans ?_
  simp +contextual (maxSteps := 10000000) only [↓reduceIte, go_sem, Nat.reduceEqDiff, Nat.reduceAdd, Nat.reduceSub, Nat.reduceMul, Nat.reduceLeDiff, Nat.reduceLT, Nat.reduceBEq, Nat.reduceDiv, Nat.reduceMod, Int.reduceLE, Int.reduceLT, Int.reduceEq, Int.reduceBEq, Int.reduceBNe, Int.reduceAdd, Int.reduceSub, Int.reduceNeg, Int.reduceToNat, Int.reduceMul, Int.reducePow, Nat.reducePow, reduceCtorEq, e]
  rw [lpK_go1]
  simp +contextual (maxSteps := 10000000) only [↓reduceIte, go_sem, Nat.reduceEqDiff, Nat.reduceAdd, Nat.reduceSub, Nat.reduceMul, Nat.reduceLeDiff, Nat.reduceLT, Nat.reduceBEq, Nat.reduceDiv, Nat.reduceMod, Int.reduceLE, Int.reduceLT, Int.reduceEq, Int.reduceBEq, Int.reduceBNe, Int.reduceAdd, Int.reduceSub, Int.reduceNeg, Int.reduceToNat, Int.reduceMul, Int.reducePow, Nat.reducePow, reduceCtorEq, r1]
  rw [lpK_go1]
  simp +contextual (maxSteps := 10000000) only [↓reduceIte, go_sem, Nat.reduceEqDiff, Nat.reduceAdd, Nat.reduceSub, Nat.reduceMul, Nat.reduceLeDiff, Nat.reduceLT, Nat.reduceBEq, Nat.reduceDiv, Nat.reduceMod, Int.reduceLE, Int.reduceLT, Int.reduceEq, Int.reduceBEq, Int.reduceBNe, Int.reduceAdd, Int.reduceSub, Int.reduceNeg, Int.reduceToNat, Int.reduceMul, Int.reducePow, Nat.reducePow, reduceCtorEq, r2]
  rw [lpK_go1]
  simp +contextual (maxSteps := 10000000) only [↓reduceIte, go_sem, Nat.reduceEqDiff, Nat.reduceAdd, Nat.reduceSub, Nat.reduceMul, Nat.reduceLeDiff, Nat.reduceLT, Nat.reduceBEq, Nat.reduceDiv, Nat.reduceMod, Int.reduceLE, Int.reduceLT, Int.reduceEq, Int.reduceBEq, Int.reduceBNe, Int.reduceAdd, Int.reduceSub, Int.reduceNeg, Int.reduceToNat, Int.reduceMul, Int.reducePow, Nat.reducePow, reduceCtorEq, r3]
  rw [lpK_go1]
  cases hq : decide (0 < (l.length : Int))
  all_goals
    simp +contextual (maxSteps := 10000000) only [↓reduceIte, go_sem, Nat.reduceEqDiff, Nat.reduceAdd, Nat.reduceSub, Nat.reduceMul, Nat.reduceLeDiff, Nat.reduceLT, Nat.reduceBEq, Nat.reduceDiv, Nat.reduceMod, Int.reduceLE, Int.reduceLT, Int.reduceEq, Int.reduceBEq, Int.reduceBNe, Int.reduceAdd, Int.reduceSub, Int.reduceNeg, Int.reduceToNat, Int.reduceMul, Int.reducePow, Nat.reducePow, reduceCtorEq, r4, hd, hq, Bool.false_or, Bool.or_false]
    simp only [gFin, hq, getR', Bool.false_or, if_true, Bool.false_eq_true, if_false]
    rfl
set_option maxRecDepth 20000 in
set_option maxHeartbeats 8000000 in
theorem roget_5 (v : Val) (hs : v.sz ≤ 3999990) (h : v.kind ≠ 1) (n1 : newS v 35 nm1 = none) (n2 : newS v 36 nm2 = none) (n3 : newS v 37 nm3 = none) (n4 : newS v 38 nm4 = none) (l : List Val) (hn : newS v 39 nm5 = some l) : EV 14 [v.d] [] = some (.ret (getR' (gFin (gF5 l) l 3)), []) := by
  have e : (v.kind == 1) = false := by simpa using h
  have r1 := rnew_none v (by omega) 35 nm1 n1
  have r2 := rnew_none v (by omega) 36 nm2 n2
  have r3 := rnew_none v (by omega) 37 nm3 n3
  have r4 := rnew_none v (by omega) 38 nm4 n4
  have r5 := rnew_some v (by omega) 39 nm5 l hn
  have hlz : Val.szL l ≤ 3999990 := by have := newS_sz hn; omega
  have hd := fun sp => rdone_c l sp 3
  have hv := fun sp => rvalue_one l (by omega) sp 2 23
  refine (ev_body ⟨[1], [(0, [1, 2, 4, 5])], [(7, [(0, 0, false), (1, 0, false), (2, 0, false), (3, 0, false), (4, 0, false), (5, 0, false), (6, 0, false), (7, 0, false), (8, 0, false), (9, 0, false), (10, 0, true), (11, 1, false), (12, 0, false), (13, 0, false), (14, 1, false), (15, 1, false)])], false, [], noIt⟩ [.cell 2 37, .tmp 3] rfl Tryz.func14 rfl rfl rfl (by kernel_rfl) (by show 1 ≤ 90; decide)).trans ?_
  simp +contextual (maxSteps := 10000000) only [↓reduceIte, go_sem, Nat.reduceEqDiff, Nat.reduceAdd, Nat.reduceSub, Nat.reduceMul, Nat.reduceLeDiff, Nat.reduceLT, Nat.reduceBEq, Nat.reduceDiv, Nat.reduceMod, Int.reduceLE, Int.reduceLT, Int.reduceEq, Int.reduceBEq, Int.reduceBNe, Int.reduceAdd, Int.reduceSub, Int.reduceNeg, Int.reduceToNat, Int.reduceMul, Int.reducePow, Nat.reducePow, reduceCtorEq, e]
  rw [lpK_go1]
  simp +contextual (maxSteps := 10000000) only [↓reduceIte, go_sem, Nat.reduceEqDiff, Nat.reduceAdd, Nat.reduceSub, Nat.reduceMul, Nat.reduceLeDiff, Nat.reduceLT, Nat.reduceBEq, Nat.reduceDiv, Nat.reduceMod, Int.reduceLE, Int.reduceLT, Int.reduceEq, Int.reduceBEq, Int.reduceBNe, Int.reduceAdd, Int.reduceSub, Int.reduceNeg, Int.reduceToNat, Int.reduceMul, Int.reducePow, Nat.reducePow, reduceCtorEq, r1]
  rw [lpK_go1]
  simp +contextual (maxSteps := 10000000) only [↓reduceIte, go_sem, Nat.reduceEqDiff, Nat.reduceAdd, Nat.reduceSub, Nat.reduceMul, Nat.reduceLeDiff, Nat.reduceLT, Nat.reduceBEq, Nat.reduceDiv, Nat.reduceMod, Int.reduceLE, Int.reduceLT, Int.reduceEq, Int.reduceBEq, Int.reduceBNe, Int.reduceAdd, Int.reduceSub, Int.reduceNeg, Int.reduceToNat, Int.reduceMul, Int.reducePow, Nat.reducePow, reduceCtorEq, r2]
  rw [lpK_go1]
  simp +contextual (maxSteps := 10000000) only [↓reduceIte, go_sem, Nat.reduceEqDiff, Nat.reduceAdd, Nat.reduceSub, Nat.reduceMul, Nat.reduceLeDiff, Nat.reduceLT, Nat.reduceBEq, Nat.reduceDiv, Nat.reduceMod, Int.reduceLE, Int.reduceLT, Int.reduceEq, Int.reduceBEq, Int.reduceBNe, Int.reduceAdd, Int.reduceSub, Int.reduceNeg, Int.reduceToNat, Int.reduceMul, Int.reducePow, Nat.reducePow, reduceCtorEq, r3]
  rw [lpK_go1]
  simp +contextual (maxSteps := 10000000) only [↓reduceIte, go_sem, Nat.reduceEqDiff, Nat.reduceAdd, Nat.reduceSub, Nat.reduceMul, Nat.reduceLeDiff, Nat.reduceLT, Nat.reduceBEq, Nat.reduceDiv, Nat.reduceMod, Int.reduceLE, Int.reduceLT, Int.reduceEq, Int.reduceBEq, Int.reduceBNe, Int.reduceAdd, Int.reduceSub, Int.reduceNeg, Int.reduceToNat, Int.reduceMul, Int.reducePow, Nat.reducePow, reduceCtorEq, r4]
  rw [lpK_go1]
  cases hq : ((gF5 l).2 || decide (3 < (l.length : Int)))
  all_goals
    have hq' := hq
    unfold gF5 at hq'
    simp only at hq'
    simp +contextual (maxSteps := 10000000) only [↓reduceIte, go_sem, Nat.reduceEqDiff, Nat.reduceAdd, Nat.reduceSub, Nat.reduceMul, Nat.reduceLeDiff, Nat.reduceLT, Nat.reduceBEq, Nat.reduceDiv, Nat.reduceMod, Int.reduceLE, Int.reduceLT, Int.reduceEq, Int.reduceBEq, Int.reduceBNe, Int.reduceAdd, Int.reduceSub, Int.reduceNeg, Int.reduceToNat, Int.reduceMul, Int.reducePow, Nat.reducePow, reduceCtorEq, r5, rnumber_f, hv, hd, hq', Bool.false_or, Bool.or_false]
    simp only [gFin, hq, getR', if_true, Bool.false_eq_true, if_false]
    rfl
set_option maxRecDepth 20000 in
set_option maxHeartbeats 8000000 in
theorem roget_6 (v : Val) (hs : v.sz ≤ 3999990) (h : v.kind ≠ 1) (n1 : newS v 35 nm1 = none) (n2 : newS v 36 nm2 = none) (n3 : newS v 37 nm3 = none) (n4 : newS v 38 nm4 = none) (n5 : newS v 39 nm5 = none) : EV 14 [v.d] [] = some (.ret (getR' none), []) := by
  have e : (v.kind == 1) = false := by simpa using h
  have r1 := rnew_none v (by omega) 35 nm1 n1
  have r2 := rnew_none v (by omega) 36 nm2 n2
  have r3 := rnew_none v (by omega) 37 nm3 n3
  have r4 := rnew_none v (by omega) 38 nm4 n4
  have r5 := rnew_none v (by omega) 39 nm5 n5
  refine (ev_body ⟨[1], [(0, [1, 2, 4, 5])], [(7, [(0, 0, false), (1, 0, false), (2, 0, false), (3, 0, false), (4, 0, false), (5, 0, false), (6, 0, false), (7, 0, false), (8, 0, false), (9, 0, false), (10, 0, true), (11, 1, false), (12, 0, false), (13, 0, false), (14, 1, false), (15, 1, false)])], false, [], noIt⟩ [.cell 2 37, .tmp 3] rfl Tryz.func14 rfl rfl rfl (by kernel_rfl) (by show 1 ≤ 90; decide)).trans ?_
  simp +contextual (maxSteps := 10000000) only [↓reduceIte, go_sem, Nat.reduceEqDiff, Nat.reduceAdd, Nat.reduceSub, Nat.reduceMul, Nat.reduceLeDiff, Nat.reduceLT, Nat.reduceBEq, Nat.reduceDiv, Nat.reduceMod, Int.reduceLE, Int.reduceLT, Int.reduceEq, Int.reduceBEq, Int.reduceBNe, Int.reduceAdd, Int.reduceSub, Int.reduceNeg, Int.reduceToNat, Int.reduceMul, Int.reducePow, Nat.reducePow, reduceCtorEq, e]
  rw [lpK_go1]
  simp +contextual (maxSteps := 10000000) only [↓reduceIte, go_sem, Nat.reduceEqDiff, Nat.reduceAdd, Nat.reduceSub, Nat.reduceMul, Nat.reduceLeDiff, Nat.reduceLT, Nat.reduceBEq, Nat.reduceDiv, Nat.reduceMod, Int.reduceLE, Int.reduceLT, Int.reduceEq, Int.reduceBEq, Int.reduceBNe, Int.reduceAdd, Int.reduceSub, Int.reduceNeg, Int.reduceToNat, Int.reduceMul, Int.reducePow, Nat.reducePow, reduceCtorEq, r1]
  rw [lpK_go1]
  simp +contextual (maxSteps := 10000000) only [↓reduceIte, go_sem, Nat.reduceEqDiff, Nat.reduceAdd, Nat.reduceSub, Nat.reduceMul, Nat.reduceLeDiff, Nat.reduceLT, Nat.reduceBEq, Nat.reduceDiv, Nat.reduceMod, Int.reduceLE, Int.reduceLT, Int.reduceEq, Int.reduceBEq, Int.reduceBNe, Int.reduceAdd, Int.reduceSub, Int.reduceNeg, Int.reduceToNat, Int.reduceMul, Int.reducePow, Nat.reducePow, reduceCtorEq, r2]
  rw [lpK_go1]
  simp +contextual (maxSteps := 10000000) only [↓reduceIte, go_sem, Nat.reduceEqDiff, Nat.reduceAdd, Nat.reduceSub, Nat.reduceMul, Nat.reduceLeDiff, Nat.reduceLT, Nat.reduceBEq, Nat.reduceDiv, Nat.reduceMod, Int.reduceLE, Int.reduceLT, Int.reduceEq, Int.reduceBEq, Int.reduceBNe, Int.reduceAdd, Int.reduceSub, Int.reduceNeg, Int.reduceToNat, Int.reduceMul, Int.reducePow, Nat.reducePow, reduceCtorEq, r3]
  rw [lpK_go1]
  simp +contextual (maxSteps := 10000000) only [↓reduceIte, go_sem, Nat.reduceEqDiff, Nat.reduceAdd, Nat.reduceSub, Nat.reduceMul, Nat.reduceLeDiff, Nat.reduceLT, Nat.reduceBEq, Nat.reduceDiv, Nat.reduceMod, Int.reduceLE, Int.reduceLT, Int.reduceEq, Int.reduceBEq, Int.reduceBNe, Int.reduceAdd, Int.reduceSub, Int.reduceNeg, Int.reduceToNat, Int.reduceMul, Int.reducePow, Nat.reducePow, reduceCtorEq, r4]
  rw [lpK_go1]
  simp +contextual (maxSteps := 10000000) only [↓reduceIte, go_sem, Nat.reduceEqDiff, Nat.reduceAdd, Nat.reduceSub, Nat.reduceMul, Nat.reduceLeDiff, Nat.reduceLT, Nat.reduceBEq, Nat.reduceDiv, Nat.reduceMod, Int.reduceLE, Int.reduceLT, Int.reduceEq, Int.reduceBEq, Int.reduceBNe, Int.reduceAdd, Int.reduceSub, Int.reduceNeg, Int.reduceToNat, Int.reduceMul, Int.reducePow, Nat.reducePow, reduceCtorEq, r5]
  rw [lpK_go1]
  simp +contextual (maxSteps := 10000000) only [↓reduceIte, go_sem, Nat.reduceEqDiff, Nat.reduceAdd, Nat.reduceSub, Nat.reduceMul, Nat.reduceLeDiff, Nat.reduceLT, Nat.reduceBEq, Nat.reduceDiv, Nat.reduceMod, Int.reduceLE, Int.reduceLT, Int.reduceEq, Int.reduceBEq, Int.reduceBNe, Int.reduceAdd, Int.reduceSub, Int.reduceNeg, Int.reduceToNat, Int.reduceMul, Int.reducePow, Nat.reducePow, reduceCtorEq]
  rfl
theorem roget_c (v : Val) (hs : v.sz ≤ 3999990) : EV 14 [v.d] [] = some (.ret (getR' (getO v)), []) := by
  unfold getO
  by_cases h : v.kind = 1
  · rw [if_pos h]; exact roget_null v h
  · rw [if_neg h]
    cases n1 : newS v 35 nm1 with
    | some l => exact roget_1 v hs h l n1
    | none =>
      cases n2 : newS v 36 nm2 with
      | some l => exact roget_2 v hs h n1 l n2
      | none =>
        cases n3 : newS v 37 nm3 with
        | some l => exact roget_3 v hs h n1 n2 l n3
        | none =>
          cases n4 : newS v 38 nm4 with
          | some l => exact roget_4 v hs h n1 n2 n3 l n4
          | none =>
            cases n5 : newS v 39 nm5 with
            | some l => exact roget_5 v hs h n1 n2 n3 n4 l n5
            | none => exact roget_6 v hs h n1 n2 n3 n4 n5
set_option maxHeartbeats 2000000 in
theorem ogets_law (v : Val) (hw : v.wf) (hs : v.sz ≤ 3999990) : EV 4 [v.d] [] = some (.ret (B true), []) := by
  have hlg := large1 v (by omega)
  have h1 := oget_c v hs hw
  have h2 := roget_c v hs
  have h3 := rcopy_c _ v (Nat.le_refl _) (by omega)
  have h4 := same32 _ v v (Nat.le_refl _) (by omega)
  rw [same_refl] at h4
  have hbt : ∀ a : ByteArray, (a == a) = true := fun a => by rw [beq_txt]; simp
  refine (ev_body ⟨[1], [], [], false, [], noIt⟩ [.tmp 2] rfl Tryz.func4 rfl rfl rfl (by kernel_rfl) (by show 1 ≤ 40; decide)).trans ?_
  cases hb : decide (8192 < lgS [v])
  · rw [hb] at hlg
    cases hg : getO v with
    | none =>
      rw [hg] at h1 h2
      simp only [getR', Outc.d, Outc.cs, oc0] at h1 h2
      simp +contextual (maxSteps := 10000000) only [↓reduceIte, go_sem, Nat.reduceEqDiff, Nat.reduceAdd, Nat.reduceSub, Nat.reduceMul, Nat.reduceLeDiff, Nat.reduceLT, Nat.reduceBEq, Nat.reduceDiv, Nat.reduceMod, Int.reduceLE, Int.reduceLT, Int.reduceEq, Int.reduceBEq, Int.reduceBNe, Int.reduceAdd, Int.reduceSub, Int.reduceNeg, Int.reduceToNat, Int.reduceMul, Int.reducePow, Nat.reducePow, reduceCtorEq, hlg, h1, h2, h3, h4, works8, hbt, beq_self_eq_true, Bool.and_self]
    | some p =>
      rw [hg] at h1 h2
      simp only [getR', Outc.d, Outc.cs] at h1 h2
      simp +contextual (maxSteps := 10000000) only [↓reduceIte, go_sem, Nat.reduceEqDiff, Nat.reduceAdd, Nat.reduceSub, Nat.reduceMul, Nat.reduceLeDiff, Nat.reduceLT, Nat.reduceBEq, Nat.reduceDiv, Nat.reduceMod, Int.reduceLE, Int.reduceLT, Int.reduceEq, Int.reduceBEq, Int.reduceBNe, Int.reduceAdd, Int.reduceSub, Int.reduceNeg, Int.reduceToNat, Int.reduceMul, Int.reducePow, Nat.reducePow, reduceCtorEq, hlg, h1, h2, h3, h4, works8, hbt, beq_self_eq_true, Bool.and_self]
  · rw [hb] at hlg
    simp +contextual (maxSteps := 10000000) only [↓reduceIte, go_sem, Nat.reduceEqDiff, Nat.reduceAdd, Nat.reduceSub, Nat.reduceMul, Nat.reduceLeDiff, Nat.reduceLT, Nat.reduceBEq, Nat.reduceDiv, Nat.reduceMod, Int.reduceLE, Int.reduceLT, Int.reduceEq, Int.reduceBEq, Int.reduceBNe, Int.reduceAdd, Int.reduceSub, Int.reduceNeg, Int.reduceToNat, Int.reduceMul, Int.reducePow, Nat.reducePow, reduceCtorEq, hlg, works8]
set_option maxHeartbeats 2000000 in
theorem oconds_law (c : ByteArray) (hc : c.size ≤ 3000000) (v : Val) (hw : v.wf) (hs : v.sz ≤ 3999990) : EV 3 [Sx c, v.d] [] = some (.ret (B true), []) := by
  have hlg := large1 v (by omega)
  have p1 := pcond_c c hc
  have p2 := rpcond_c c hc
  have g1 := gcond_c v (by omega) hw
  have g2 := rgcond_c v (by omega)
  have s1 := same32 _ vZ vZ (Nat.le_refl _) (by decide)
  have s2 := same32 _ (condV c) (condV c) (Nat.le_refl _) (by have := condV_sz c; omega)
  rw [same_refl] at s1 s2
  refine (ev_body ⟨[3], [], [], false, [], noIt⟩ [.tmp 4] rfl Tryz.func3 rfl rfl rfl (by kernel_rfl) (by show 2 ≤ 63; decide)).trans ?_
  cases hb0 : decide (4096 < (c.size : Int))
  · cases hb : decide (8192 < lgS [v])
    · rw [hb] at hlg
      cases ha : asc (bl c) <;> rw [ha] at p1 p2 <;> cases hg : gcS v <;> rw [hg] at g1 g2 <;> simp only [Bool.false_eq_true, if_true, if_false, gcR] at p1 p2 g1 g2
      all_goals simp +contextual (maxSteps := 10000000) only [↓reduceIte, go_sem, Nat.reduceEqDiff, Nat.reduceAdd, Nat.reduceSub, Nat.reduceMul, Nat.reduceLeDiff, Nat.reduceLT, Nat.reduceBEq, Nat.reduceDiv, Nat.reduceMod, Int.reduceLE, Int.reduceLT, Int.reduceEq, Int.reduceBEq, Int.reduceBNe, Int.reduceAdd, Int.reduceSub, Int.reduceNeg, Int.reduceToNat, Int.reduceMul, Int.reducePow, Nat.reducePow, reduceCtorEq, hb0, hlg, p1, p2, g1, g2, s1, s2, works8, eq_self, decide_true, beq_self_eq_true, Bool.and_self]
    · rw [hb] at hlg
      simp +contextual (maxSteps := 10000000) only [↓reduceIte, go_sem, Nat.reduceEqDiff, Nat.reduceAdd, Nat.reduceSub, Nat.reduceMul, Nat.reduceLeDiff, Nat.reduceLT, Nat.reduceBEq, Nat.reduceDiv, Nat.reduceMod, Int.reduceLE, Int.reduceLT, Int.reduceEq, Int.reduceBEq, Int.reduceBNe, Int.reduceAdd, Int.reduceSub, Int.reduceNeg, Int.reduceToNat, Int.reduceMul, Int.reducePow, Nat.reducePow, reduceCtorEq, hb0, hlg, works8]
  · simp +contextual (maxSteps := 10000000) only [↓reduceIte, go_sem, Nat.reduceEqDiff, Nat.reduceAdd, Nat.reduceSub, Nat.reduceMul, Nat.reduceLeDiff, Nat.reduceLT, Nat.reduceBEq, Nat.reduceDiv, Nat.reduceMod, Int.reduceLE, Int.reduceLT, Int.reduceEq, Int.reduceBEq, Int.reduceBNe, Int.reduceAdd, Int.reduceSub, Int.reduceNeg, Int.reduceToNat, Int.reduceMul, Int.reducePow, Nat.reducePow, reduceCtorEq, hb0, works8]
end Go.Bw.R1
