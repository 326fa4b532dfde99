/- What the functions answer. -/
import Derived.Test.YtdobhepmepalpaaDoorWalk1
set_option linter.unusedSimpArgs false
set_option linter.unusedVariables false
namespace Go.Bw.R1
set_option maxRecDepth 5000
open Go Go.Bw Go.Proofs
theorem called_c (v : Val) : EV 83 [v.d] [] = some (.ret (B (v.kind == 6 || v.kind == 21)), []) := by
  refine (ev_body ⟨[1], [], [], false, [], noIt⟩ [.tmp 2] rfl Tryd.func83 rfl rfl rfl (by kernel_rfl) (by show 1 ≤ 11; decide) (by kernel_rfl)).trans ?_
  cases h : (v.kind == 6)
  · simp +contextual (maxSteps := 10000000) only [↓reduceIte, go_sem, Nat.reduceEqDiff, Nat.reduceAdd, Nat.reduceSub, Nat.reduceMul, Nat.reduceLeDiff, Nat.reduceLT, Nat.reduceBEq, Nat.reduceDiv, Nat.reduceMod, Int.reduceLE, Int.reduceLT, Int.reduceEq, Int.reduceBEq, Int.reduceBNe, Int.reduceAdd, Int.reduceSub, Int.reduceNeg, Int.reduceToNat, Int.reduceMul, Int.reducePow, Nat.reducePow, reduceCtorEq, h, Bool.false_or]
  · simp +contextual (maxSteps := 10000000) only [↓reduceIte, go_sem, Nat.reduceEqDiff, Nat.reduceAdd, Nat.reduceSub, Nat.reduceMul, Nat.reduceLeDiff, Nat.reduceLT, Nat.reduceBEq, Nat.reduceDiv, Nat.reduceMod, Int.reduceLE, Int.reduceLT, Int.reduceEq, Int.reduceBEq, Int.reduceBNe, Int.reduceAdd, Int.reduceSub, Int.reduceNeg, Int.reduceToNat, Int.reduceMul, Int.reducePow, Nat.reducePow, reduceCtorEq, h, Bool.true_or]
mutual
theorem same_comm : ∀ a b : Val, same a b = same b a
  | .mk k n t l, .mk k' n' t' l' => by
    rw [same, same, sameL_comm l l', Bool.beq_comm (a := k), Bool.beq_comm (a := n), show decide (t = t') = decide (t' = t) from decide_eq_decide.2 eq_comm]
theorem sameL_comm : ∀ a b : List Val, sameL a b = sameL b a
  | [], [] => rfl
  | [], _ :: _ => rfl
  | _ :: _, [] => rfl
  | a :: l, b :: m => by rw [sameL, sameL, same_comm a b, sameL_comm l m]
end
mutual
theorem same_refl : ∀ a : Val, same a a = true
  | .mk k n t l => by rw [same, sameL_refl l]; simp
theorem sameL_refl : ∀ a : List Val, sameL a a = true
  | [] => rfl
  | a :: l => by rw [sameL, same_refl a, sameL_refl l]; rfl
end
theorem alikeF_refl : ∀ (n : Nat) (a : Val), a.sz ≤ n → mayS a = true → alikeF n a a = true
  | 0, .mk .., h, _ => by simp [Val.sz] at h
  | n + 1, a, hn, hm => by
    by_cases hk : a.kind = 25
    · obtain ⟨x, y, hx, _, my⟩ := may_desc hm hk
      rw [Val.sz_eq, hx] at hn
      simp only [Val.szL] at hn
      simp only [alikeF, hk, bne_self_eq_false, Bool.or_self, Bool.false_eq_true, if_false, hx, same_refl, alikeF_refl n y (by omega) my, Bool.and_self]
    · have e : (a.kind != 25) = true := by simpa using hk
      simp only [alikeF, e, Bool.true_or, if_true, beq_self_eq_true]
theorem alike_refl {a : Val} (h : mayS a = true) : alike a a = true := alikeF_refl _ a (Nat.le_refl _) h
theorem mayL_drop {l : List Val} {i : Nat} {x : Val} (h : l[i]? = some x) : mayL (l.drop i) = (mayS x && mayL (l.drop (i + 1))) := by
  obtain ⟨hl, rfl⟩ := List.getElem?_eq_some_iff.1 h
  rw [List.drop_eq_getElem_cons hl, mayL]
theorem mayL_at {l : List Val} (h : mayL l = true) {i : Nat} {x : Val} (hx : l[i]? = some x) : mayS x = true := by
  rw [mayL_all, List.all_eq_true] at h
  exact h x (List.mem_of_getElem? hx)
theorem mod21 (n : Nat) : (((n : Int).tmod 2) == 1) = (n % 2 == 1) := by
  rw [Int.tmod_eq_emod_of_nonneg (by omega), Bool.eq_iff_iff]
  simp only [beq_iff_eq]
  omega
theorem keyL_at : ∀ (l : List Val) (a : Nat), 2 * a + 1 < l.length → (keyL l)[a]? = l[2 * a]?
  | x :: y :: r, 0, _ => rfl
  | x :: y :: r, a + 1, h => by
    have := keyL_at r a (by simp only [List.length_cons] at h; omega)
    rw [keyL, List.getElem?_cons_succ, this, show 2 * (a + 1) = 2 * a + 1 + 1 by omega, List.getElem?_cons_succ, List.getElem?_cons_succ]
  | [], a, h => by simp at h
  | [_], a, h => by simp at h
theorem keyL_len : ∀ l : List Val, 2 * (keyL l).length ≤ l.length ∧ l.length ≤ 2 * (keyL l).length + 1
  | [] => by simp [keyL]
  | [_] => by simp [keyL]
  | _ :: _ :: r => by have := keyL_len r; simp only [keyL, List.length_cons]; omega
theorem noSame_step {ks : List Val} {a : Nat} {x : Val} (h : ks[a]? = some x) : noSame (ks.take a) (ks.drop a) = if ((ks.take a).any fun s => same s x) = true then false else noSame (ks.take (a + 1)) (ks.drop (a + 1)) := by
  obtain ⟨hl, rfl⟩ := List.getElem?_eq_some_iff.1 h
  rw [List.drop_eq_getElem_cons hl, noSame, List.take_succ_eq_append_getElem hl]
theorem any_step {ks : List Val} {a b : Nat} {x y : Val} (hb : b < a) (h : ks[b]? = some y) : (((ks.take a).drop b).any fun s => same s x) = (same y x || ((ks.take a).drop (b + 1)).any fun s => same s x) := by
  obtain ⟨hl, rfl⟩ := List.getElem?_eq_some_iff.1 h
  have hl2 : b < (ks.take a).length := by rw [List.length_take]; omega
  rw [List.drop_eq_getElem_cons hl2, List.any_cons, List.getElem_take]
def arS : List Val → Val → Bool
  | [], _ => true
  | y :: _, x => alike y x
theorem fam24_eq (l : List Val) : famS 24 l = l.all (arS l) := by
  cases l <;> rfl
theorem all_drop {p : Val → Bool} {l : List Val} {i : Nat} {x : Val} (h : l[i]? = some x) : (l.drop i).all p = (p x && (l.drop (i + 1)).all p) := by
  obtain ⟨hl, rfl⟩ := List.getElem?_eq_some_iff.1 h
  rw [List.drop_eq_getElem_cons hl, List.all_cons]
def ntS (v : Val) : Bool := (v.num == 0) && decide (v.text = ⟨#[]⟩)
def rfS (v : Val) : Bool :=
  if v.kind = 22 ∨ v.kind = 23 ∨ v.kind = 24 ∨ v.kind = 25 then famS v.kind v.kids && ntS v else v.kids.isEmpty && plainS v.kind v.num v.text
set_option maxHeartbeats 2000000 in
theorem rmay22 (v : Val) (hs : v.sz ≤ 4000000) (hc : ∀ x ∈ v.kids, EV 61 [x.d] [] = some (.ret (B (mayS x)), [])) (hk : v.kind = 22) : EV 61 [v.d] [] = some (.ret (B (mayL v.kids && rfS v)), []) := by
  have hl := szL_len v.kids
  have hz := Val.sz_eq v
  refine (ev_body ⟨[1], [(0, [1, 3]), (3, [1, 4, 5]), (5, [1, 4, 5, 6]), (7, [1, 4, 7])], [(19, [(0, 0, false), (1, 0, false), (2, 0, false), (3, 0, false), (4, 0, false), (5, 0, false), (6, 0, false), (7, 0, false), (8, 0, false), (9, 0, false), (10, 0, false)]), (25, [(0, 0, false), (1, 0, false), (2, 0, false), (3, 0, false), (4, 0, false), (5, 0, false), (6, 0, false), (7, 0, false), (8, 0, false), (9, 0, false), (10, 0, false)])], false, [], noIt⟩ [.tmp 2] rfl Tryd.func61 rfl rfl rfl (by kernel_rfl) (by show 1 ≤ 95; decide) (by kernel_rfl)).trans ?_
  simp +contextual (maxSteps := 10000000) only [↓reduceIte, go_sem, Nat.reduceEqDiff, Nat.reduceAdd, Nat.reduceSub, Nat.reduceMul, Nat.reduceLeDiff, Nat.reduceLT, Nat.reduceBEq, Nat.reduceDiv, Nat.reduceMod, Int.reduceLE, Int.reduceLT, Int.reduceEq, Int.reduceBEq, Int.reduceBNe, Int.reduceAdd, Int.reduceSub, Int.reduceNeg, Int.reduceToNat, Int.reduceMul, Int.reducePow, Nat.reducePow, reduceCtorEq]
  refine lpK_inv (fun m0 f es => ∃ (i : Nat) (j : Int), j = i ∧ i + m0 = v.kids.length ∧ mayL v.kids = mayL (v.kids.drop i) ∧ f = [(1, .rp v.cs), (3, I j)] ∧ es = []) v.kids.length ⟨0, _, rfl, by omega, rfl, rfl, rfl⟩ ?_
  rintro m0 _ _ ⟨i, _, rfl, hi, hm, rfl, rfl⟩ ih
  rcases Nat.lt_or_ge i v.kids.length with hlt | hge
  · obtain ⟨x, hx⟩ := get_lt hlt
    have hlt' : decide ((i : Int) < v.kids.length) = true := by simpa using hlt
    have hcx := hc x (List.mem_of_getElem? hx)
    simp +contextual (maxSteps := 10000000) only [↓reduceIte, go_sem, Nat.reduceEqDiff, Nat.reduceAdd, Nat.reduceSub, Nat.reduceMul, Nat.reduceLeDiff, Nat.reduceLT, Nat.reduceBEq, Nat.reduceDiv, Nat.reduceMod, Int.reduceLE, Int.reduceLT, Int.reduceEq, Int.reduceBEq, Int.reduceBNe, Int.reduceAdd, Int.reduceSub, Int.reduceNeg, Int.reduceToNat, Int.reduceMul, Int.reducePow, Nat.reducePow, reduceCtorEq, hx, hcx, hlt', wrap_i64 (n := (i : Int) + 1) (by omega) (by omega)]
    refine ite_intro (fun h => ?_) (fun h => ?_)
    · rw [hm, mayL_drop hx]; simp at h; simp [h]
    · exact ih (m0 - 1) _ _ (by omega) ⟨i + 1, _, by omega, by omega, by rw [hm, mayL_drop hx]; simp at h; simp [h], rfl, rfl⟩
  · have hlt' : decide ((i : Int) < v.kids.length) = false := by simpa using hge
    clear ih
    rw [List.drop_eq_nil_of_le hge] at hm
    rw [hm, mayL, Bool.true_and]
    simp +contextual (maxSteps := 10000000) only [↓reduceIte, go_sem, Nat.reduceEqDiff, Nat.reduceAdd, Nat.reduceSub, Nat.reduceMul, Nat.reduceLeDiff, Nat.reduceLT, Nat.reduceBEq, Nat.reduceDiv, Nat.reduceMod, Int.reduceLE, Int.reduceLT, Int.reduceEq, Int.reduceBEq, Int.reduceBNe, Int.reduceAdd, Int.reduceSub, Int.reduceNeg, Int.reduceToNat, Int.reduceMul, Int.reducePow, Nat.reducePow, reduceCtorEq, hlt', hk, rfS, famS]
    rfl
set_option maxHeartbeats 2000000 in
theorem rmay23 (v : Val) (hs : v.sz ≤ 4000000) (hc : ∀ x ∈ v.kids, EV 61 [x.d] [] = some (.ret (B (mayS x)), [])) (hk : v.kind = 23) : EV 61 [v.d] [] = some (.ret (B (mayL v.kids && rfS v)), []) := by
  have hl := szL_len v.kids
  have hz := Val.sz_eq v
  refine (ev_body ⟨[1], [(0, [1, 3]), (3, [1, 4, 5]), (5, [1, 4, 5, 6]), (7, [1, 4, 7])], [(19, [(0, 0, false), (1, 0, false), (2, 0, false), (3, 0, false), (4, 0, false), (5, 0, false), (6, 0, false), (7, 0, false), (8, 0, false), (9, 0, false), (10, 0, false)]), (25, [(0, 0, false), (1, 0, false), (2, 0, false), (3, 0, false), (4, 0, false), (5, 0, false), (6, 0, false), (7, 0, false), (8, 0, false), (9, 0, false), (10, 0, false)])], false, [], noIt⟩ [.tmp 2] rfl Tryd.func61 rfl rfl rfl (by kernel_rfl) (by show 1 ≤ 95; decide) (by kernel_rfl)).trans ?_
  simp +contextual (maxSteps := 10000000) only [↓reduceIte, go_sem, Nat.reduceEqDiff, Nat.reduceAdd, Nat.reduceSub, Nat.reduceMul, Nat.reduceLeDiff, Nat.reduceLT, Nat.reduceBEq, Nat.reduceDiv, Nat.reduceMod, Int.reduceLE, Int.reduceLT, Int.reduceEq, Int.reduceBEq, Int.reduceBNe, Int.reduceAdd, Int.reduceSub, Int.reduceNeg, Int.reduceToNat, Int.reduceMul, Int.reducePow, Nat.reducePow, reduceCtorEq]
  refine lpK_inv (fun m0 f es => ∃ (i : Nat) (j : Int), j = i ∧ i + m0 = v.kids.length ∧ mayL v.kids = mayL (v.kids.drop i) ∧ f = [(1, .rp v.cs), (3, I j)] ∧ es = []) v.kids.length ⟨0, _, rfl, by omega, rfl, rfl, rfl⟩ ?_
  rintro m0 _ _ ⟨i, _, rfl, hi, hm, rfl, rfl⟩ ih
  rcases Nat.lt_or_ge i v.kids.length with hlt | hge
  · obtain ⟨x, hx⟩ := get_lt hlt
    have hlt' : decide ((i : Int) < v.kids.length) = true := by simpa using hlt
    have hcx := hc x (List.mem_of_getElem? hx)
    simp +contextual (maxSteps := 10000000) only [↓reduceIte, go_sem, Nat.reduceEqDiff, Nat.reduceAdd, Nat.reduceSub, Nat.reduceMul, Nat.reduceLeDiff, Nat.reduceLT, Nat.reduceBEq, Nat.reduceDiv, Nat.reduceMod, Int.reduceLE, Int.reduceLT, Int.reduceEq, Int.reduceBEq, Int.reduceBNe, Int.reduceAdd, Int.reduceSub, Int.reduceNeg, Int.reduceToNat, Int.reduceMul, Int.reducePow, Nat.reducePow, reduceCtorEq, hx, hcx, hlt', wrap_i64 (n := (i : Int) + 1) (by omega) (by omega)]
    refine ite_intro (fun h => ?_) (fun h => ?_)
    · rw [hm, mayL_drop hx]; simp at h; simp [h]
    · exact ih (m0 - 1) _ _ (by omega) ⟨i + 1, _, by omega, by omega, by rw [hm, mayL_drop hx]; simp at h; simp [h], rfl, rfl⟩
  · have hlt' : decide ((i : Int) < v.kids.length) = false := by simpa using hge
    clear ih
    rw [List.drop_eq_nil_of_le hge] at hm
    rw [hm, mayL, Bool.true_and]
    have hk0 : rfS v = (famS 23 v.kids && ntS v) := by rw [rfS, if_pos (by simp [hk]), hk]
    rw [hk0]
    simp +contextual (maxSteps := 10000000) only [↓reduceIte, go_sem, Nat.reduceEqDiff, Nat.reduceAdd, Nat.reduceSub, Nat.reduceMul, Nat.reduceLeDiff, Nat.reduceLT, Nat.reduceBEq, Nat.reduceDiv, Nat.reduceMod, Int.reduceLE, Int.reduceLT, Int.reduceEq, Int.reduceBEq, Int.reduceBNe, Int.reduceAdd, Int.reduceSub, Int.reduceNeg, Int.reduceToNat, Int.reduceMul, Int.reducePow, Nat.reducePow, reduceCtorEq, hlt', hk, mod21]
    refine ite_intro (fun h => ?_) (fun h => ?_)
    · have : (v.kids.length % 2 == 0) = false := by simp at h ⊢ <;> omega
      simp only [famS, this]; rfl
    · have h2 : v.kids.length % 2 = 0 := by simp at h <;> omega
      have hf : famS 23 v.kids = noSame [] (keyL v.kids) := by simp only [famS, h2]; rfl
      rw [hf]
      obtain ⟨q1, q2⟩ := keyL_len v.kids
      refine lpK_inv (fun m0 f es => ∃ (a : Nat) (j : Int), j = 2 * a ∧ 2 * a + m0 = v.kids.length ∧ noSame [] (keyL v.kids) = noSame ((keyL v.kids).take a) ((keyL v.kids).drop a) ∧ f = [(1, .rp v.cs), (4, I v.kids.length), (5, I j)] ∧ es = []) v.kids.length ⟨0, _, rfl, by omega, rfl, rfl, rfl⟩ ?_
      rintro m1 _ _ ⟨a, j, hj, ha, hn, rfl, rfl⟩ ih
      rcases Nat.lt_or_ge (2 * a) v.kids.length with hlt | hge
      · obtain ⟨x, hx⟩ := get_lt hlt
        have hx2 := hx
        rw [← keyL_at _ _ (by omega)] at hx2
        have hlt2 : decide (j < v.kids.length) = true := by simp <;> omega
        simp +contextual (maxSteps := 10000000) only [↓reduceIte, go_sem, Nat.reduceEqDiff, Nat.reduceAdd, Nat.reduceSub, Nat.reduceMul, Nat.reduceLeDiff, Nat.reduceLT, Nat.reduceBEq, Nat.reduceDiv, Nat.reduceMod, Int.reduceLE, Int.reduceLT, Int.reduceEq, Int.reduceBEq, Int.reduceBNe, Int.reduceAdd, Int.reduceSub, Int.reduceNeg, Int.reduceToNat, Int.reduceMul, Int.reducePow, Nat.reducePow, reduceCtorEq, hlt2]
        refine lpK_inv (fun m2 f es => ∃ (b : Nat) (k : Int), k = 2 * b ∧ b + m2 = a ∧ (((keyL v.kids).take a).any fun s => same s x) = ((((keyL v.kids).take a).drop b).any fun s => same s x) ∧ f = [(1, .rp v.cs), (4, I v.kids.length), (5, I j), (6, I k)] ∧ es = []) a ⟨0, _, rfl, by omega, rfl, rfl, rfl⟩ ?_
        rintro m2 _ _ ⟨b, k, hk2, hb, hn2, rfl, rfl⟩ ih2
        rcases Nat.lt_or_ge b a with hba | hba
        · obtain ⟨y, hy⟩ := get_lt (show 2 * b < v.kids.length by omega)
          have hy2 := hy
          rw [← keyL_at _ _ (by omega)] at hy2
          have hlt3 : decide (k < j) = true := by simp <;> omega
          have h32 := same32 _ x y (Nat.le_refl _) (by have := szL_in (List.mem_of_getElem? hx); omega)
          have g1 : v.kids[j.toNat]? = some x := by rw [show j.toNat = 2 * a by omega]; exact hx
          have g2 : v.kids[k.toNat]? = some y := by rw [show k.toNat = 2 * b by omega]; exact hy
          simp +contextual (maxSteps := 10000000) only [↓reduceIte, go_sem, Nat.reduceEqDiff, Nat.reduceAdd, Nat.reduceSub, Nat.reduceMul, Nat.reduceLeDiff, Nat.reduceLT, Nat.reduceBEq, Nat.reduceDiv, Nat.reduceMod, Int.reduceLE, Int.reduceLT, Int.reduceEq, Int.reduceBEq, Int.reduceBNe, Int.reduceAdd, Int.reduceSub, Int.reduceNeg, Int.reduceToNat, Int.reduceMul, Int.reducePow, Nat.reducePow, reduceCtorEq, hlt3, g1, g2, h32, show 0 ≤ j by omega, show j < v.kids.length by omega, show 0 ≤ k by omega, show k < v.kids.length by omega, wrap_i64 (n := k + 2) (by omega) (by omega)]
          refine ite_intro (fun h => ?_) (fun h => ?_)
          · rw [hn, noSame_step hx2, hn2, any_step hba hy2, same_comm y x, h]; rfl
          · have e : same y x = false := by rw [same_comm]; simpa using h
            exact ih2 (m2 - 1) _ _ (by omega) ⟨b + 1, _, by omega, by omega, by rw [hn2, any_step hba hy2, e, Bool.false_or], rfl, rfl⟩
        · have hlt3 : decide (k < j) = false := by simp <;> omega
          clear ih2
          simp +contextual (maxSteps := 10000000) only [↓reduceIte, go_sem, Nat.reduceEqDiff, Nat.reduceAdd, Nat.reduceSub, Nat.reduceMul, Nat.reduceLeDiff, Nat.reduceLT, Nat.reduceBEq, Nat.reduceDiv, Nat.reduceMod, Int.reduceLE, Int.reduceLT, Int.reduceEq, Int.reduceBEq, Int.reduceBNe, Int.reduceAdd, Int.reduceSub, Int.reduceNeg, Int.reduceToNat, Int.reduceMul, Int.reducePow, Nat.reducePow, reduceCtorEq, hlt3, wrap_i64 (n := j + 2) (by omega) (by omega)]
          have e : (((keyL v.kids).take a).any fun s => same s x) = false := by
            rw [hn2, List.drop_eq_nil_of_le (by rw [List.length_take]; omega)]; rfl
          exact ih (m1 - 2) _ _ (by omega) ⟨a + 1, _, by omega, by omega, by rw [hn, noSame_step hx2, e]; rfl, rfl, rfl⟩
      · have hlt2 : decide (j < v.kids.length) = false := by simp <;> omega
        simp +contextual (maxSteps := 10000000) only [↓reduceIte, go_sem, Nat.reduceEqDiff, Nat.reduceAdd, Nat.reduceSub, Nat.reduceMul, Nat.reduceLeDiff, Nat.reduceLT, Nat.reduceBEq, Nat.reduceDiv, Nat.reduceMod, Int.reduceLE, Int.reduceLT, Int.reduceEq, Int.reduceBEq, Int.reduceBNe, Int.reduceAdd, Int.reduceSub, Int.reduceNeg, Int.reduceToNat, Int.reduceMul, Int.reducePow, Nat.reducePow, reduceCtorEq, hlt2]
        rw [hn, List.drop_eq_nil_of_le (by omega)]
        simp only [noSame, Bool.true_and]
        rfl
set_option maxHeartbeats 2000000 in
theorem rmay24 (v : Val) (hs : v.sz ≤ 4000000) (hc : ∀ x ∈ v.kids, EV 61 [x.d] [] = some (.ret (B (mayS x)), [])) (hk : v.kind = 24) : EV 61 [v.d] [] = some (.ret (B (mayL v.kids && rfS v)), []) := by
  have hl := szL_len v.kids
  have hz := Val.sz_eq v
  refine (ev_body ⟨[1], [(0, [1, 3]), (3, [1, 4, 5]), (5, [1, 4, 5, 6]), (7, [1, 4, 7])], [(19, [(0, 0, false), (1, 0, false), (2, 0, false), (3, 0, false), (4, 0, false), (5, 0, false), (6, 0, false), (7, 0, false), (8, 0, false), (9, 0, false), (10, 0, false)]), (25, [(0, 0, false), (1, 0, false), (2, 0, false), (3, 0, false), (4, 0, false), (5, 0, false), (6, 0, false), (7, 0, false), (8, 0, false), (9, 0, false), (10, 0, false)])], false, [], noIt⟩ [.tmp 2] rfl Tryd.func61 rfl rfl rfl (by kernel_rfl) (by show 1 ≤ 95; decide) (by kernel_rfl)).trans ?_
  simp +contextual (maxSteps := 10000000) only [↓reduceIte, go_sem, Nat.reduceEqDiff, Nat.reduceAdd, Nat.reduceSub, Nat.reduceMul, Nat.reduceLeDiff, Nat.reduceLT, Nat.reduceBEq, Nat.reduceDiv, Nat.reduceMod, Int.reduceLE, Int.reduceLT, Int.reduceEq, Int.reduceBEq, Int.reduceBNe, Int.reduceAdd, Int.reduceSub, Int.reduceNeg, Int.reduceToNat, Int.reduceMul, Int.reducePow, Nat.reducePow, reduceCtorEq]
  refine lpK_inv (fun m0 f es => ∃ (i : Nat) (j : Int), j = i ∧ i + m0 = v.kids.length ∧ mayL v.kids = mayL (v.kids.drop i) ∧ f = [(1, .rp v.cs), (3, I j)] ∧ es = []) v.kids.length ⟨0, _, rfl, by omega, rfl, rfl, rfl⟩ ?_
  rintro m0 _ _ ⟨i, _, rfl, hi, hm, rfl, rfl⟩ ih
  rcases Nat.lt_or_ge i v.kids.length with hlt | hge
  · obtain ⟨x, hx⟩ := get_lt hlt
    have hlt' : decide ((i : Int) < v.kids.length) = true := by simpa using hlt
    have hcx := hc x (List.mem_of_getElem? hx)
    simp +contextual (maxSteps := 10000000) only [↓reduceIte, go_sem, Nat.reduceEqDiff, Nat.reduceAdd, Nat.reduceSub, Nat.reduceMul, Nat.reduceLeDiff, Nat.reduceLT, Nat.reduceBEq, Nat.reduceDiv, Nat.reduceMod, Int.reduceLE, Int.reduceLT, Int.reduceEq, Int.reduceBEq, Int.reduceBNe, Int.reduceAdd, Int.reduceSub, Int.reduceNeg, Int.reduceToNat, Int.reduceMul, Int.reducePow, Nat.reducePow, reduceCtorEq, hx, hcx, hlt', wrap_i64 (n := (i : Int) + 1) (by omega) (by omega)]
    refine ite_intro (fun h => ?_) (fun h => ?_)
    · rw [hm, mayL_drop hx]; simp at h; simp [h]
    · exact ih (m0 - 1) _ _ (by omega) ⟨i + 1, _, by omega, by omega, by rw [hm, mayL_drop hx]; simp at h; simp [h], rfl, rfl⟩
  · have hlt' : decide ((i : Int) < v.kids.length) = false := by simpa using hge
    clear ih
    rw [List.drop_eq_nil_of_le hge] at hm
    rw [hm, mayL, Bool.true_and]
    have hk0 : rfS v = (famS 24 v.kids && ntS v) := by rw [rfS, if_pos (by simp [hk]), hk]
    rw [hk0, fam24_eq]
    have hall : v.kids.all (arS v.kids) = (v.kids.drop 1).all (arS v.kids) := by
      cases h0 : v.kids with
      | nil => rfl
      | cons y r =>
        rw [h0] at hm
        have : mayS y = true := mayL_at hm (i := 0) rfl
        rw [List.all_cons, show arS (y :: r) y = alike y y from rfl, alike_refl this]; rfl
    rw [hall]
    simp +contextual (maxSteps := 10000000) only [↓reduceIte, go_sem, Nat.reduceEqDiff, Nat.reduceAdd, Nat.reduceSub, Nat.reduceMul, Nat.reduceLeDiff, Nat.reduceLT, Nat.reduceBEq, Nat.reduceDiv, Nat.reduceMod, Int.reduceLE, Int.reduceLT, Int.reduceEq, Int.reduceBEq, Int.reduceBNe, Int.reduceAdd, Int.reduceSub, Int.reduceNeg, Int.reduceToNat, Int.reduceMul, Int.reducePow, Nat.reducePow, reduceCtorEq, hlt', hk]
    refine lpK_inv (fun m0 f es => ∃ (i : Nat) (j : Int), j = i ∧ 1 ≤ i ∧ v.kids.length - i = m0 ∧ (v.kids.drop 1).all (arS v.kids) = (v.kids.drop i).all (arS v.kids) ∧ f = [(1, .rp v.cs), (4, I v.kids.length), (7, I j)] ∧ es = []) (v.kids.length - 1) ⟨1, _, rfl, Nat.le_refl _, rfl, rfl, rfl, rfl⟩ ?_
    rintro m1 _ _ ⟨i, j, hj, h1, hi, ha, rfl, rfl⟩ ih
    rcases Nat.lt_or_ge i v.kids.length with hlt | hge
    · obtain ⟨x, hx⟩ := get_lt hlt
      obtain ⟨y, hy⟩ := get_lt (show 0 < v.kids.length by omega)
      have hlt2 : decide (j < v.kids.length) = true := by simp <;> omega
      have hal := ralike_c _ y x (Nat.le_refl _) (by have := szL_in (List.mem_of_getElem? hy); omega) (mayL_at hm hy) (mayL_at hm hx)
      have hp : arS v.kids x = alike y x := by
        cases h0 : v.kids with
        | nil => rw [h0] at hy; cases hy
        | cons z r => rw [h0] at hy; simp only [List.getElem?_cons_zero, Option.some.injEq] at hy; subst hy; rfl
      have g1 : v.kids[j.toNat]? = some x := by rw [show j.toNat = i by omega]; exact hx
      simp +contextual (maxSteps := 10000000) only [↓reduceIte, go_sem, Nat.reduceEqDiff, Nat.reduceAdd, Nat.reduceSub, Nat.reduceMul, Nat.reduceLeDiff, Nat.reduceLT, Nat.reduceBEq, Nat.reduceDiv, Nat.reduceMod, Int.reduceLE, Int.reduceLT, Int.reduceEq, Int.reduceBEq, Int.reduceBNe, Int.reduceAdd, Int.reduceSub, Int.reduceNeg, Int.reduceToNat, Int.reduceMul, Int.reducePow, Nat.reducePow, reduceCtorEq, hlt2, g1, hy, hal, show 0 ≤ j by omega, show j < v.kids.length by omega, show (0 : Int) < v.kids.length by omega, wrap_i64 (n := j + 1) (by omega) (by omega)]
      refine ite_intro (fun h => ?_) (fun h => ?_)
      · have e : alikeF y.sz y x = false := by simpa using h
        rw [ha, all_drop hx, hp, alike, e]; rfl
      · have e : alikeF y.sz y x = true := by simpa using h
        exact ih (m1 - 1) _ _ (by omega) ⟨i + 1, _, by omega, by omega, by omega, by rw [ha, all_drop hx, hp, alike, e]; rfl, rfl, rfl⟩
    · have hlt2 : decide (j < v.kids.length) = false := by simp <;> omega
      simp +contextual (maxSteps := 10000000) only [↓reduceIte, go_sem, Nat.reduceEqDiff, Nat.reduceAdd, Nat.reduceSub, Nat.reduceMul, Nat.reduceLeDiff, Nat.reduceLT, Nat.reduceBEq, Nat.reduceDiv, Nat.reduceMod, Int.reduceLE, Int.reduceLT, Int.reduceEq, Int.reduceBEq, Int.reduceBNe, Int.reduceAdd, Int.reduceSub, Int.reduceNeg, Int.reduceToNat, Int.reduceMul, Int.reducePow, Nat.reducePow, reduceCtorEq, hlt2]
      rw [ha, List.drop_eq_nil_of_le hge]
      simp only [List.all_nil, Bool.true_and]
      rfl
set_option maxHeartbeats 2000000 in
theorem rmay25 (v : Val) (hs : v.sz ≤ 4000000) (hc : ∀ x ∈ v.kids, EV 61 [x.d] [] = some (.ret (B (mayS x)), [])) (hk : v.kind = 25) : EV 61 [v.d] [] = some (.ret (B (mayL v.kids && rfS v)), []) := by
  have hl := szL_len v.kids
  have hz := Val.sz_eq v
  refine (ev_body ⟨[1], [(0, [1, 3]), (3, [1, 4, 5]), (5, [1, 4, 5, 6]), (7, [1, 4, 7])], [(19, [(0, 0, false), (1, 0, false), (2, 0, false), (3, 0, false), (4, 0, false), (5, 0, false), (6, 0, false), (7, 0, false), (8, 0, false), (9, 0, false), (10, 0, false)]), (25, [(0, 0, false), (1, 0, false), (2, 0, false), (3, 0, false), (4, 0, false), (5, 0, false), (6, 0, false), (7, 0, false), (8, 0, false), (9, 0, false), (10, 0, false)])], false, [], noIt⟩ [.tmp 2] rfl Tryd.func61 rfl rfl rfl (by kernel_rfl) (by show 1 ≤ 95; decide) (by kernel_rfl)).trans ?_
  simp +contextual (maxSteps := 10000000) only [↓reduceIte, go_sem, Nat.reduceEqDiff, Nat.reduceAdd, Nat.reduceSub, Nat.reduceMul, Nat.reduceLeDiff, Nat.reduceLT, Nat.reduceBEq, Nat.reduceDiv, Nat.reduceMod, Int.reduceLE, Int.reduceLT, Int.reduceEq, Int.reduceBEq, Int.reduceBNe, Int.reduceAdd, Int.reduceSub, Int.reduceNeg, Int.reduceToNat, Int.reduceMul, Int.reducePow, Nat.reducePow, reduceCtorEq]
  refine lpK_inv (fun m0 f es => ∃ (i : Nat) (j : Int), j = i ∧ i + m0 = v.kids.length ∧ mayL v.kids = mayL (v.kids.drop i) ∧ f = [(1, .rp v.cs), (3, I j)] ∧ es = []) v.kids.length ⟨0, _, rfl, by omega, rfl, rfl, rfl⟩ ?_
  rintro m0 _ _ ⟨i, _, rfl, hi, hm, rfl, rfl⟩ ih
  rcases Nat.lt_or_ge i v.kids.length with hlt | hge
  · obtain ⟨x, hx⟩ := get_lt hlt
    have hlt' : decide ((i : Int) < v.kids.length) = true := by simpa using hlt
    have hcx := hc x (List.mem_of_getElem? hx)
    simp +contextual (maxSteps := 10000000) only [↓reduceIte, go_sem, Nat.reduceEqDiff, Nat.reduceAdd, Nat.reduceSub, Nat.reduceMul, Nat.reduceLeDiff, Nat.reduceLT, Nat.reduceBEq, Nat.reduceDiv, Nat.reduceMod, Int.reduceLE, Int.reduceLT, Int.reduceEq, Int.reduceBEq, Int.reduceBNe, Int.reduceAdd, Int.reduceSub, Int.reduceNeg, Int.reduceToNat, Int.reduceMul, Int.reducePow, Nat.reducePow, reduceCtorEq, hx, hcx, hlt', wrap_i64 (n := (i : Int) + 1) (by omega) (by omega)]
    refine ite_intro (fun h => ?_) (fun h => ?_)
    · rw [hm, mayL_drop hx]; simp at h; simp [h]
    · exact ih (m0 - 1) _ _ (by omega) ⟨i + 1, _, by omega, by omega, by rw [hm, mayL_drop hx]; simp at h; simp [h], rfl, rfl⟩
  · have hlt' : decide ((i : Int) < v.kids.length) = false := by simpa using hge
    clear ih
    rw [List.drop_eq_nil_of_le hge] at hm
    rw [hm, mayL, Bool.true_and]
    have hk0 : rfS v = (famS 25 v.kids && ntS v) := by rw [rfS, if_pos (by simp [hk]), hk]
    rw [hk0]
    match h0 : v.kids, hge with
    | [], hge =>
      have hlt' : decide ((i : Int) < 0) = false := by simp
      simp +contextual (maxSteps := 10000000) only [↓reduceIte, go_sem, Nat.reduceEqDiff, Nat.reduceAdd, Nat.reduceSub, Nat.reduceMul, Nat.reduceLeDiff, Nat.reduceLT, Nat.reduceBEq, Nat.reduceDiv, Nat.reduceMod, Int.reduceLE, Int.reduceLT, Int.reduceEq, Int.reduceBEq, Int.reduceBNe, Int.reduceAdd, Int.reduceSub, Int.reduceNeg, Int.reduceToNat, Int.reduceMul, Int.reducePow, Nat.reducePow, reduceCtorEq, hlt', hk, h0, famS, List.map_nil, List.length_nil, Bool.false_and]
    | [x], hge =>
      have hlt' : decide ((i : Int) < 1) = false := by simp at hge ⊢ <;> omega
      simp +contextual (maxSteps := 10000000) only [↓reduceIte, go_sem, Nat.reduceEqDiff, Nat.reduceAdd, Nat.reduceSub, Nat.reduceMul, Nat.reduceLeDiff, Nat.reduceLT, Nat.reduceBEq, Nat.reduceDiv, Nat.reduceMod, Int.reduceLE, Int.reduceLT, Int.reduceEq, Int.reduceBEq, Int.reduceBNe, Int.reduceAdd, Int.reduceSub, Int.reduceNeg, Int.reduceToNat, Int.reduceMul, Int.reducePow, Nat.reducePow, reduceCtorEq, hlt', hk, h0, famS, List.map_cons, List.map_nil, List.length_nil, List.length_cons, Bool.false_and]
    | [x, y], hge =>
      have hlt' : decide ((i : Int) < 2) = false := by simp at hge ⊢ <;> omega
      have hcl := called_c x
      cases hx : (x.kind == 6 || x.kind == 21)
      · rw [hx] at hcl
        simp +contextual (maxSteps := 10000000) only [↓reduceIte, go_sem, Nat.reduceEqDiff, Nat.reduceAdd, Nat.reduceSub, Nat.reduceMul, Nat.reduceLeDiff, Nat.reduceLT, Nat.reduceBEq, Nat.reduceDiv, Nat.reduceMod, Int.reduceLE, Int.reduceLT, Int.reduceEq, Int.reduceBEq, Int.reduceBNe, Int.reduceAdd, Int.reduceSub, Int.reduceNeg, Int.reduceToNat, Int.reduceMul, Int.reducePow, Nat.reducePow, reduceCtorEq, hlt', hk, h0, famS, List.map_cons, List.map_nil, List.length_nil, List.length_cons, hcl, hx, Bool.false_and]
      · rw [hx] at hcl
        simp +contextual (maxSteps := 10000000) only [↓reduceIte, go_sem, Nat.reduceEqDiff, Nat.reduceAdd, Nat.reduceSub, Nat.reduceMul, Nat.reduceLeDiff, Nat.reduceLT, Nat.reduceBEq, Nat.reduceDiv, Nat.reduceMod, Int.reduceLE, Int.reduceLT, Int.reduceEq, Int.reduceBEq, Int.reduceBNe, Int.reduceAdd, Int.reduceSub, Int.reduceNeg, Int.reduceToNat, Int.reduceMul, Int.reducePow, Nat.reducePow, reduceCtorEq, hlt', hk, h0, famS, List.map_cons, List.map_nil, List.length_nil, List.length_cons, hcl, hx, Bool.true_and]
        rfl
    | x :: y :: z :: r, hge =>
      have hlt' : decide ((i : Int) < (r.length : Int) + 1 + 1 + 1) = false := by simp at hge ⊢ <;> omega
      have e : ((r.length : Int) + 1 + 1 + 1 == 2) = false := by simp <;> omega
      have e' : ((r.length : Int) + 1 + 1 + 1 != 2) = true := by rw [bne, e]; rfl
      simp +contextual (maxSteps := 10000000) only [↓reduceIte, go_sem, Nat.reduceEqDiff, Nat.reduceAdd, Nat.reduceSub, Nat.reduceMul, Nat.reduceLeDiff, Nat.reduceLT, Nat.reduceBEq, Nat.reduceDiv, Nat.reduceMod, Int.reduceLE, Int.reduceLT, Int.reduceEq, Int.reduceBEq, Int.reduceBNe, Int.reduceAdd, Int.reduceSub, Int.reduceNeg, Int.reduceToNat, Int.reduceMul, Int.reducePow, Nat.reducePow, reduceCtorEq, hlt', hk, h0, famS, List.map_cons, List.length_cons, e, e', Bool.false_and]
set_option maxHeartbeats 2000000 in
theorem rmay_no (v : Val) (hs : v.sz ≤ 4000000) (hc : ∀ x ∈ v.kids, EV 61 [x.d] [] = some (.ret (B (mayS x)), [])) (h2 : v.kind ≠ 22) (h3 : v.kind ≠ 23) (h4 : v.kind ≠ 24) (h5 : v.kind ≠ 25) : EV 61 [v.d] [] = some (.ret (B (mayL v.kids && rfS v)), []) := by
  have hl := szL_len v.kids
  have hz := Val.sz_eq v
  refine (ev_body ⟨[1], [(0, [1, 3]), (3, [1, 4, 5]), (5, [1, 4, 5, 6]), (7, [1, 4, 7])], [(19, [(0, 0, false), (1, 0, false), (2, 0, false), (3, 0, false), (4, 0, false), (5, 0, false), (6, 0, false), (7, 0, false), (8, 0, false), (9, 0, false), (10, 0, false)]), (25, [(0, 0, false), (1, 0, false), (2, 0, false), (3, 0, false), (4, 0, false), (5, 0, false), (6, 0, false), (7, 0, false), (8, 0, false), (9, 0, false), (10, 0, false)])], false, [], noIt⟩ [.tmp 2] rfl Tryd.func61 rfl rfl rfl (by kernel_rfl) (by show 1 ≤ 95; decide) (by kernel_rfl)).trans ?_
  simp +contextual (maxSteps := 10000000) only [↓reduceIte, go_sem, Nat.reduceEqDiff, Nat.reduceAdd, Nat.reduceSub, Nat.reduceMul, Nat.reduceLeDiff, Nat.reduceLT, Nat.reduceBEq, Nat.reduceDiv, Nat.reduceMod, Int.reduceLE, Int.reduceLT, Int.reduceEq, Int.reduceBEq, Int.reduceBNe, Int.reduceAdd, Int.reduceSub, Int.reduceNeg, Int.reduceToNat, Int.reduceMul, Int.reducePow, Nat.reducePow, reduceCtorEq]
  refine lpK_inv (fun m0 f es => ∃ (i : Nat) (j : Int), j = i ∧ i + m0 = v.kids.length ∧ mayL v.kids = mayL (v.kids.drop i) ∧ f = [(1, .rp v.cs), (3, I j)] ∧ es = []) v.kids.length ⟨0, _, rfl, by omega, rfl, rfl, rfl⟩ ?_
  rintro m0 _ _ ⟨i, _, rfl, hi, hm, rfl, rfl⟩ ih
  rcases Nat.lt_or_ge i v.kids.length with hlt | hge
  · obtain ⟨x, hx⟩ := get_lt hlt
    have hlt' : decide ((i : Int) < v.kids.length) = true := by simpa using hlt
    have hcx := hc x (List.mem_of_getElem? hx)
    simp +contextual (maxSteps := 10000000) only [↓reduceIte, go_sem, Nat.reduceEqDiff, Nat.reduceAdd, Nat.reduceSub, Nat.reduceMul, Nat.reduceLeDiff, Nat.reduceLT, Nat.reduceBEq, Nat.reduceDiv, Nat.reduceMod, Int.reduceLE, Int.reduceLT, Int.reduceEq, Int.reduceBEq, Int.reduceBNe, Int.reduceAdd, Int.reduceSub, Int.reduceNeg, Int.reduceToNat, Int.reduceMul, Int.reducePow, Nat.reducePow, reduceCtorEq, hx, hcx, hlt', wrap_i64 (n := (i : Int) + 1) (by omega) (by omega)]
    refine ite_intro (fun h => ?_) (fun h => ?_)
    · rw [hm, mayL_drop hx]; simp at h; simp [h]
    · exact ih (m0 - 1) _ _ (by omega) ⟨i + 1, _, by omega, by omega, by rw [hm, mayL_drop hx]; simp at h; simp [h], rfl, rfl⟩
  · have hlt' : decide ((i : Int) < v.kids.length) = false := by simpa using hge
    clear ih
    rw [List.drop_eq_nil_of_le hge] at hm
    rw [hm, mayL, Bool.true_and]
    have hk0 : rfS v = (v.kids.isEmpty && plainS v.kind v.num v.text) := by rw [rfS, if_neg (by simp [h2, h3, h4, h5])]
    rw [hk0]
    simp +contextual (maxSteps := 10000000) only [↓reduceIte, go_sem, Nat.reduceEqDiff, Nat.reduceAdd, Nat.reduceSub, Nat.reduceMul, Nat.reduceLeDiff, Nat.reduceLT, Nat.reduceBEq, Nat.reduceDiv, Nat.reduceMod, Int.reduceLE, Int.reduceLT, Int.reduceEq, Int.reduceBEq, Int.reduceBNe, Int.reduceAdd, Int.reduceSub, Int.reduceNeg, Int.reduceToNat, Int.reduceMul, Int.reducePow, Nat.reducePow, reduceCtorEq, hlt', fb h2, fb h3, fb h4, fb h5, plain_c v (by omega)]
theorem rf_eq (v : Val) : (mayL v.kids && rfS v) = mayS v := by
  rw [mayS_eq, rfS]
  by_cases h : v.kind = 22 ∨ v.kind = 23 ∨ v.kind = 24 ∨ v.kind = 25
  · rw [if_pos h]
    have hn : (numS v.kind v.num && textS v.kind v.text) = ntS v := by rcases h with h | h | h | h <;> (rw [h]; rfl)
    have hr : (decide (1 ≤ v.kind) && decide (v.kind ≤ 25)) = true := by rcases h with h | h | h | h <;> (rw [h]; rfl)
    rw [hn, hr, Bool.true_and, Bool.and_comm (ntS v)]
  · rw [if_neg h]
    simp only [not_or] at h
    obtain ⟨h2, h3, h4, h5⟩ := h
    have hf : famS v.kind v.kids = v.kids.isEmpty := by simp only [famS, fb h2, fb h3, fb h4, fb h5, Bool.false_eq_true, if_false]
    have hr : decide (v.kind ≤ 21) = decide (v.kind ≤ 25) := decide_eq_decide.2 (by omega)
    rw [hf, plainS, hr]
    cases mayL v.kids <;> cases v.kids.isEmpty <;> cases (decide (1 ≤ v.kind) && decide (v.kind ≤ 25)) <;> cases numS v.kind v.num <;> cases textS v.kind v.text <;> rfl
theorem rmay_c : ∀ (n : Nat) (v : Val), v.sz ≤ n → n ≤ 4000000 → EV 61 [v.d] [] = some (.ret (B (mayS v)), [])
  | 0, .mk .., h, _ => by simp [Val.sz] at h
  | n + 1, v, hs, hn => by
    have hz := Val.sz_eq v
    have hc : ∀ x ∈ v.kids, EV 61 [x.d] [] = some (.ret (B (mayS x)), []) := fun x hx => rmay_c n x (by have := szL_in hx; omega) (by omega)
    rw [← rf_eq]
    by_cases h2 : v.kind = 22
    · exact rmay22 v (by omega) hc h2
    by_cases h3 : v.kind = 23
    · exact rmay23 v (by omega) hc h3
    by_cases h4 : v.kind = 24
    · exact rmay24 v (by omega) hc h4
    by_cases h5 : v.kind = 25
    · exact rmay25 v (by omega) hc h5
    exact rmay_no v (by omega) hc h2 h3 h4 h5
set_option maxHeartbeats 2000000 in
theorem rright_v (v : Val) (h : v.sz ≤ 4000000) : EV 43 [v.d] [] = some (.ret (B (rightS v)), []) := by
  refine (ev_body ⟨[1], [], [], false, [], noIt⟩ [.tmp 2] rfl Tryd.func43 rfl rfl rfl (by kernel_rfl) (by show 1 ≤ 15; decide) (by kernel_rfl)).trans ?_
  have h1 := rdepth_c _ v (Nat.le_refl _) (by omega)
  have h2 := ritems_c _ v (Nat.le_refl _) (by omega)
  have h3 := rmay_c _ v (Nat.le_refl _) h
  by_cases k2 : v.items ≤ 1024
  · have e2 : decide ((v.items : Int) ≤ 1024) = true := by simp <;> omega
    have f2 : decide (v.items ≤ 1024) = true := by simpa using k2
    by_cases k1 : v.depth ≤ 16
    · have e1 : decide ((v.depth : Int) ≤ 16) = true := by simp <;> omega
      have f1 : decide (v.depth ≤ 16) = true := by simpa using k1
      simp +contextual (maxSteps := 10000000) only [↓reduceIte, go_sem, Nat.reduceEqDiff, Nat.reduceAdd, Nat.reduceSub, Nat.reduceMul, Nat.reduceLeDiff, Nat.reduceLT, Nat.reduceBEq, Nat.reduceDiv, Nat.reduceMod, Int.reduceLE, Int.reduceLT, Int.reduceEq, Int.reduceBEq, Int.reduceBNe, Int.reduceAdd, Int.reduceSub, Int.reduceNeg, Int.reduceToNat, Int.reduceMul, Int.reducePow, Nat.reducePow, reduceCtorEq, h1, h2, h3, e1, e2, rightS, f1, f2, Bool.true_and]
    · have e1 : decide ((v.depth : Int) ≤ 16) = false := by simp <;> omega
      have f1 : decide (v.depth ≤ 16) = false := by simp <;> omega
      simp +contextual (maxSteps := 10000000) only [↓reduceIte, go_sem, Nat.reduceEqDiff, Nat.reduceAdd, Nat.reduceSub, Nat.reduceMul, Nat.reduceLeDiff, Nat.reduceLT, Nat.reduceBEq, Nat.reduceDiv, Nat.reduceMod, Int.reduceLE, Int.reduceLT, Int.reduceEq, Int.reduceBEq, Int.reduceBNe, Int.reduceAdd, Int.reduceSub, Int.reduceNeg, Int.reduceToNat, Int.reduceMul, Int.reducePow, Nat.reducePow, reduceCtorEq, h1, h2, e1, e2, rightS, f1, f2, Bool.true_and, Bool.false_and]
  · have e2 : decide ((v.items : Int) ≤ 1024) = false := by simp <;> omega
    have f2 : decide (v.items ≤ 1024) = false := by simp <;> omega
    simp +contextual (maxSteps := 10000000) only [↓reduceIte, go_sem, Nat.reduceEqDiff, Nat.reduceAdd, Nat.reduceSub, Nat.reduceMul, Nat.reduceLeDiff, Nat.reduceLT, Nat.reduceBEq, Nat.reduceDiv, Nat.reduceMod, Int.reduceLE, Int.reduceLT, Int.reduceEq, Int.reduceBEq, Int.reduceBNe, Int.reduceAdd, Int.reduceSub, Int.reduceNeg, Int.reduceToNat, Int.reduceMul, Int.reducePow, Nat.reducePow, reduceCtorEq, h2, e2, rightS, f2, Bool.false_and, Bool.and_false]
end Go.Bw.R1

namespace Go.Bw
set_option maxRecDepth 5000
open Go
theorem Rd.slice_cases {P : Program} {t e : TypeId} {ds : List D} (hu : P.underlying t = some (.slice e)) (h : Rd P t ds) : ds = [.nils] ∨ ∃ dss : List (List D), ds = [.ro false (dss.map fun ds => (whole ((aggB P e).getD false) ds).getD .undef)] ∧ ∀ ds ∈ dss, Rd P e ds := by
  cases h with
  | nils h => exact .inl rfl
  | ro h dss hl k =>
    rw [hu] at h
    simp only [Option.some.injEq, TypeDesc.slice.injEq] at h
    subst h
    exact .inr ⟨dss, rfl, k⟩
  | veil h n => unfold Bw.veil at h; rw [hu] at h; cases h
  | _ h => rw [hu] at h; simp at h
theorem Arg.cells {P : Program} {t : TypeId} {d : D} {ag : Bool} (ha : aggB P t = some ag) (h : Arg P t d) : ∃ cs, Rd P t cs ∧ d = (whole ag cs).getD .undef := by
  obtain ⟨cs, h1, _, h3⟩ := h
  rw [ha] at h3
  exact ⟨cs, h1, h3⟩
end Go.Bw
namespace Go.Bw.R1
open Go Go.Bw Go.Proofs
theorem ag27' : aggB Tryd.prog 27 = some true := by kernel_rfl
theorem wh56 : (fun ds => (whole ((aggB Tryd.prog 27).getD false) ds).getD .undef) = D.agg := by rw [ag27']; rfl
theorem vals_of {n : Nat} (ih : ∀ ds, Rd Tryd.prog 27 ds → D.blkL ds ≤ n → ∃ v : Val, v.wf ∧ WkL ds v.cs ∧ v.sz ≤ D.blkL ds) : ∀ dss : List (List D), (∀ ds ∈ dss, Rd Tryd.prog 27 ds) → D.blkL (dss.map D.agg) ≤ n →
    ∃ l : List Val, Val.wfL l ∧ dss.length = l.length ∧ Val.szL l ≤ D.blkL (dss.map D.agg) ∧ ∀ (j : Nat) (ds : List D) (x : Val), dss[j]? = some ds → l[j]? = some x → WkL ds x.cs
  | [], _, _ => ⟨[], trivial, rfl, Nat.le_refl _, fun j ds x h => by simp at h⟩
  | ds :: dss, hr, hn => by
    rw [List.map_cons, D.blkL, D.blk] at hn ⊢
    obtain ⟨v, h1, h2, h3⟩ := ih ds (hr ds (List.mem_cons_self ..)) (by omega)
    obtain ⟨l, k1, k2, k3, k4⟩ := vals_of ih dss (fun d hd => hr d (List.mem_cons_of_mem _ hd)) (by omega)
    refine ⟨v :: l, ⟨h1, k1⟩, by simp [k2], by simp only [Val.szL]; omega, fun j d x hd hx => ?_⟩
    cases j with
    | zero => simp at hd hx; subst hd hx; exact h2
    | succ j => exact k4 j d x (by simpa using hd) (by simpa using hx)
theorem slice_rd {n : Nat} (ih : ∀ ds, Rd Tryd.prog 27 ds → D.blkL ds ≤ n → ∃ v : Val, v.wf ∧ WkL ds v.cs ∧ v.sz ≤ D.blkL ds) {ds : List D} (h : Rd Tryd.prog 25 ds) (hn : D.blkL ds ≤ n + 1) : ∃ l : List Val, Val.wfL l ∧ WkL ds [.ro false (l.map Val.d)] ∧ Val.szL l + 1 ≤ D.blkL ds := by
  rcases Rd.slice_cases Tryd.underlying25 h with rfl | ⟨dss, rfl, k⟩
  · exact ⟨[], trivial, .cons (.nils _) .nil, by simp [Val.szL, D.blkL, D.blk]⟩
  · rw [wh56] at hn ⊢
    simp only [D.blkL, D.blk] at hn ⊢
    have hn' : D.blkL (dss.map D.agg) ≤ n := by clear ih k; omega
    obtain ⟨l, k1, k2, k3, k4⟩ := vals_of ih dss k hn'
    refine ⟨l, k1, .cons (Wk.ro (by simp [k2]) fun j e1 e2 he1 he2 => ?_) .nil, by clear ih k k4 hn; omega⟩
    simp only [List.getElem?_map, Option.map_eq_some_iff] at he1 he2
    obtain ⟨d1, hd1, rfl⟩ := he1
    obtain ⟨x1, hx1, rfl⟩ := he2
    have q := k4 j d1 x1 hd1 hx1
    rw [Val.cells]
    exact q
theorem val_rd : ∀ (n : Nat) (ds : List D), Rd Tryd.prog 27 ds → D.blkL ds ≤ n → ∃ v : Val, v.wf ∧ WkL ds v.cs ∧ v.sz ≤ D.blkL ds := by
  intro n
  induction n with
  | zero =>
    intro ds h hn
    have h := Rd.fields Tryd.underlying27 h
    obtain ⟨a0, b0, rfl, h0, h⟩ := h
    obtain ⟨x0, rfl, _, _⟩ := Rd.int_inv Tryd.underlying5 h0
    rw [D.blkL_append] at hn
    simp [D.blkL, D.blk] at hn
  | succ n ih =>
    intro ds h hn
    have h := Rd.fields Tryd.underlying27 h
    obtain ⟨a0, b0, rfl, h0, h⟩ := h
    obtain ⟨a1, b1, rfl, h1, h⟩ := h
    obtain ⟨a2, b2, rfl, h2, h⟩ := h
    obtain ⟨a3, b3, rfl, h3, h⟩ := h
    obtain rfl : b3 = [] := h
    obtain ⟨x0, rfl, l0, u0⟩ := Rd.int_inv Tryd.underlying5 h0
    obtain ⟨x1, rfl, l1, u1⟩ := Rd.int_inv Tryd.underlying24 h1
    obtain ⟨x2, rfl, s2⟩ := Rd.str_inv Tryd.underlying9 h2
    simp only [D.blkL_append, D.blkL, D.blk] at hn ⊢
    obtain ⟨l, k1, k2, k3⟩ := slice_rd ih h3 (by omega)
    refine ⟨.mk x0 x1 x2 l, ⟨?_, k1⟩, ?_, ?_⟩
    · simp [IntKind.min, IntKind.max, IntKind.signed, IntKind.bits] at l0 u0 l1 u1
      omega
    · simp only [List.cons_append, List.nil_append, List.append_nil, Val.cs, Val.kind_mk, Val.num_mk, Val.text_mk, Val.kids_mk]
      exact .cons (.refl _) (.cons (.refl _) (.cons (.refl _) k2))
    · simp only [Val.sz]; omega
theorem val_arg {d : D} (h : Arg Tryd.prog 27 d) : ∃ v : Val, v.wf ∧ Wk d v.d ∧ v.sz ≤ d.blk := by
  obtain ⟨ds, h1, h3⟩ := h.cells ag27'
  have e : d = .agg ds := h3
  subst e
  obtain ⟨v, k1, k2, k3⟩ := val_rd _ ds h1 (Nat.le_refl _)
  refine ⟨v, k1, ?_, ?_⟩
  · have := Wk.agg k2
    rw [Val.fold, Val.eta] at this
    exact this
  · rw [D.blk]; omega
theorem ag25' : aggB Tryd.prog 25 = some false := by kernel_rfl
theorem vals_arg {d : D} (h : Arg Tryd.prog 25 d) : ∃ l : List Val, Val.wfL l ∧ Wk d (.ro false (l.map Val.d)) ∧ Val.szL l ≤ d.blk := by
  obtain ⟨ds, h1, h3⟩ := h.cells ag25'
  obtain ⟨l, k1, k2, k3⟩ := slice_rd (fun ds h _ => val_rd _ ds h (Nat.le_refl _)) h1 (Nat.le_succ (D.blkL ds))
  match ds, k2.1, h3 with
  | [y], _, h3 =>
    have e : d = y := h3
    subst e
    refine ⟨l, k1, k2.2 0 d _ rfl rfl, ?_⟩
    simp only [D.blkL] at k3; omega
end Go.Bw.R1

namespace Go.Bw.R1
set_option maxRecDepth 5000
open Go Go.Bw Go.Proofs
/-- how large values are, by Large -/
def lgS : List Val → Nat
  | [] => 0
  | v :: l => v.items + v.text.size / 8 + lgS l
theorem lgS_app : ∀ a b : List Val, lgS (a ++ b) = lgS a + lgS b
  | [], b => by simp [lgS]
  | v :: a, b => by simp only [List.cons_append, lgS, lgS_app a b]; omega
theorem lgS_sz : ∀ l : List Val, lgS l ≤ 2 * Val.szL l
  | [] => Nat.le_refl _
  | v :: l => by have := items_sz v; have := lgS_sz l; have := Val.sz_eq v; simp only [lgS, Val.szL]; omega
theorem lgS_take (l : List Val) (i : Nat) : lgS (l.take i) ≤ 2 * Val.szL l := by
  have := lgS_sz l
  have e : lgS l = lgS (l.take i) + lgS (l.drop i) := by rw [← lgS_app, List.take_append_drop]
  omega
theorem lgS_step {l : List Val} {i : Nat} {x : Val} (h : l[i]? = some x) : lgS (l.take (i + 1)) = lgS (l.take i) + (x.items + x.text.size / 8) := by
  rw [take_snoc h, lgS_app]; simp [lgS]
theorem tdiv8 (n : Nat) : ((n : Int)).tdiv 8 = ((n / 8 : Nat) : Int) := by
  rw [Int.tdiv_eq_ediv_of_nonneg (by omega)]; omega
set_option maxHeartbeats 1000000 in
theorem large_c (l : List Val) (hs : Val.szL l ≤ 4000000) : EV 17 [.ro false (l.map Val.d)] [] = some (.ret (B (decide (8192 < lgS l))), []) := by
  have hl := szL_len l
  refine (ev_body ⟨[], [(0, [0, 3, 4])], [(5, [(0, 0, false), (1, 0, false), (2, 0, false), (3, 0, false), (4, 0, false), (5, 0, false), (6, 0, false), (7, 0, false), (8, 0, false), (9, 0, false), (10, 0, false), (11, 0, false), (12, 0, false), (13, 0, false), (14, 0, false), (15, 0, false)])], false, [], noIt⟩ [.tmp 2] rfl Tryd.func17 rfl rfl rfl (by kernel_rfl) (by show 1 ≤ 28; decide) (by kernel_rfl)).trans ?_
  simp +contextual (maxSteps := 10000000) only [↓reduceIte, go_sem, Nat.reduceEqDiff, Nat.reduceAdd, Nat.reduceSub, Nat.reduceMul, Nat.reduceLeDiff, Nat.reduceLT, Nat.reduceBEq, Nat.reduceDiv, Nat.reduceMod, Int.reduceLE, Int.reduceLT, Int.reduceEq, Int.reduceBEq, Int.reduceBNe, Int.reduceAdd, Int.reduceSub, Int.reduceNeg, Int.reduceToNat, Int.reduceMul, Int.reducePow, Nat.reducePow, reduceCtorEq]
  refine lpK_inv (fun m0 f es => ∃ (i : Nat) (j n : Int), j = i ∧ n = lgS (l.take i) ∧ i + m0 = l.length ∧ f = [(0, .ro false (l.map Val.d)), (3, I n), (4, I j)] ∧ es = []) l.length ⟨0, 0, 0, rfl, by simp [lgS], by omega, rfl, rfl⟩ ?_
  rintro m0 _ _ ⟨i, j, n, hj, hn, hi, rfl, rfl⟩ ih
  rcases Nat.lt_or_ge i l.length with hlt | hge
  · obtain ⟨x, hx⟩ := get_lt hlt
    have hlt' : decide (j < l.length) = true := by simp <;> omega
    have hxm := szL_in (List.mem_of_getElem? hx)
    have h1 := ritems_c _ x (Nat.le_refl _) (by omega)
    have g1 : l[j.toNat]? = some x := by rw [show j.toNat = i by omega]; exact hx
    have hstep := lgS_step hx
    have hb := lgS_take l (i + 1)
    have hz := Val.sz_eq x
    simp +contextual (maxSteps := 10000000) only [↓reduceIte, go_sem, Nat.reduceEqDiff, Nat.reduceAdd, Nat.reduceSub, Nat.reduceMul, Nat.reduceLeDiff, Nat.reduceLT, Nat.reduceBEq, Nat.reduceDiv, Nat.reduceMod, Int.reduceLE, Int.reduceLT, Int.reduceEq, Int.reduceBEq, Int.reduceBNe, Int.reduceAdd, Int.reduceSub, Int.reduceNeg, Int.reduceToNat, Int.reduceMul, Int.reducePow, Nat.reducePow, reduceCtorEq, hlt', g1, h1, tdiv8, wrap_i64 (n := ((x.text.size / 8 : Nat) : Int)) (by omega) (by omega), show 0 ≤ j by omega, show j < l.length by omega, wrap_i64 (n := j + 1) (by omega) (by omega), wrap_i64 (n := n + x.items) (by omega) (by omega), wrap_i64 (n := n + x.items + (x.text.size / 8 : Nat)) (by omega) (by omega)]
    exact ih (m0 - 1) _ _ (by omega) ⟨i + 1, _, _, by omega, by omega, by omega, rfl, rfl⟩
  · have hlt' : decide (j < l.length) = false := by simp <;> omega
    simp +contextual (maxSteps := 10000000) only [↓reduceIte, go_sem, Nat.reduceEqDiff, Nat.reduceAdd, Nat.reduceSub, Nat.reduceMul, Nat.reduceLeDiff, Nat.reduceLT, Nat.reduceBEq, Nat.reduceDiv, Nat.reduceMod, Int.reduceLE, Int.reduceLT, Int.reduceEq, Int.reduceBEq, Int.reduceBNe, Int.reduceAdd, Int.reduceSub, Int.reduceNeg, Int.reduceToNat, Int.reduceMul, Int.reducePow, Nat.reducePow, reduceCtorEq, hlt']
    have e : decide (8192 < n) = decide (8192 < lgS l) := by
      rw [List.take_of_length_le hge] at hn
      exact decide_eq_decide.2 (by omega)
    rw [e]
theorem large1 (v : Val) (hs : v.sz ≤ 4000000) : EV 17 [.ro false [v.d]] [] = some (.ret (B (decide (8192 < lgS [v]))), []) := large_c [v] (by simp only [Val.szL]; omega)
end Go.Bw.R1

/- Own: arguments. -/
namespace Go.Bw.R1
set_option maxRecDepth 5000
open Go Go.Bw Go.Proofs
theorem blk_one {d : D} {n : Nat} (h : D.blkL [d] ≤ n) : d.blk ≤ n := by simp only [D.blkL] at h; omega
theorem u64_arg {d : D} (h : Arg Tryd.prog 24 d) : ∃ n : Int, (0 ≤ n ∧ n < 18446744073709551616) ∧ Wk d (.sc (.int .u64 n)) := by
  obtain ⟨n, h, hw⟩ := Arg.one (by kernel_rfl) (fun n : Int => IntKind.u64.min ≤ n ∧ n ≤ IntKind.u64.max) (fun n => .sc (.int .u64 n)) (fun ds hd => by
    obtain ⟨n, rfl, h1, h2⟩ := Rd.int_inv Tryd.underlying24 hd
    exact ⟨n, ⟨h1, h2⟩, .refl _⟩) h
  simp [IntKind.min, IntKind.max, IntKind.signed, IntKind.bits] at h
  exact ⟨n, by omega, hw⟩
theorem str_arg {d : D} (h : Arg Tryd.prog 9 d) : ∃ s : ByteArray, Wk d (.sc (.string s)) ∧ s.size + 1 ≤ d.blk := by
  obtain ⟨s, _, hw, hb⟩ := Arg.oneW (fun s : ByteArray => s.size + 1) (by kernel_rfl) (fun _ => True) (fun s => .sc (.string s)) (fun ds hd => by
    obtain ⟨s, rfl, _⟩ := Rd.str_inv Tryd.underlying9 hd
    exact ⟨s, trivial, .refl _, by simp [D.blkL, D.blk]⟩) h
  exact ⟨s, hw, hb⟩
theorem u8_arg {d : D} (h : Arg Tryd.prog 5 d) : ∃ n : Int, (0 ≤ n ∧ n < 256) ∧ Wk d (.sc (.int .u8 n)) := by
  obtain ⟨n, h, hw⟩ := Arg.one (by kernel_rfl) (fun n : Int => IntKind.u8.min ≤ n ∧ n ≤ IntKind.u8.max) (fun n => .sc (.int .u8 n)) (fun ds hd => by
    obtain ⟨n, rfl, h1, h2⟩ := Rd.int_inv Tryd.underlying5 hd
    exact ⟨n, ⟨h1, h2⟩, .refl _⟩) h
  simp [IntKind.min, IntKind.max, IntKind.signed, IntKind.bits] at h
  exact ⟨n, by omega, hw⟩
theorem int_arg {d : D} (h : Arg Tryd.prog 3 d) : ∃ n : Int, (-9223372036854775808 ≤ n ∧ n ≤ 9223372036854775807) ∧ Wk d (.sc (.int .i64 n)) := by
  obtain ⟨n, h, hw⟩ := Arg.one (by kernel_rfl) (fun n : Int => IntKind.i64.min ≤ n ∧ n ≤ IntKind.i64.max) (fun n => .sc (.int .i64 n)) (fun ds hd => by
    obtain ⟨n, rfl, h1, h2⟩ := Rd.int_inv Tryd.underlying3 hd
    exact ⟨n, ⟨h1, h2⟩, .refl _⟩) h
  simp [IntKind.min, IntKind.max, IntKind.signed, IntKind.bits] at h
  exact ⟨n, by omega, hw⟩
end Go.Bw.R1

namespace Go.Bw.R1
set_option maxRecDepth 5000
open Go Go.Bw Go.Proofs
theorem sz_le {n k : Nat} (h : n ≤ 100000000) (hk : 100000000 ≤ k) : (n ≤ k) = True := by simp; omega
theorem fdiv1 (x : Int) : x.fdiv 1 = x := Int.fdiv_one x
theorem clone_nils : EV 101 [.nils] [] = some (.ret .nils, []) := by
  refine (ev_body ⟨[], [], [], false, [], noIt⟩ [.tmp 2] rfl Tryd.func101 rfl rfl rfl (by kernel_rfl) (by show 1 ≤ 8; decide) (by kernel_rfl)).trans ?_
  simp +contextual (maxSteps := 10000000) only [↓reduceIte, go_sem, Nat.reduceEqDiff, Nat.reduceAdd, Nat.reduceSub, Nat.reduceMul, Nat.reduceLeDiff, Nat.reduceLT, Nat.reduceBEq, Nat.reduceDiv, Nat.reduceMod, Int.reduceLE, Int.reduceLT, Int.reduceEq, Int.reduceBEq, Int.reduceBNe, Int.reduceAdd, Int.reduceSub, Int.reduceNeg, Int.reduceToNat, Int.reduceMul, Int.reducePow, Nat.reducePow, reduceCtorEq]
theorem clone_ref (b : ByteArray) (h0 : b.size ≠ 0) (h : b.size ≤ 100000000) : EV 101 [.ref 0 0 1 0 b.size] [some ⟨0, bytesD b⟩] = some (.ret (.ref 1 0 1 0 b.size), [some ⟨0, bytesD b⟩, some ⟨0, bytesD b⟩]) := by
  have h1 : (b.size = 0) = False := by simpa using h0
  refine (ev_body ⟨[], [], [], false, [], noIt⟩ [.tmp 2] rfl Tryd.func101 rfl rfl rfl (by kernel_rfl) (by show 1 ≤ 8; decide) (by kernel_rfl)).trans ?_
  simp +contextual (maxSteps := 10000000) only [↓reduceIte, go_sem, Nat.reduceEqDiff, Nat.reduceAdd, Nat.reduceSub, Nat.reduceMul, Nat.reduceLeDiff, Nat.reduceLT, Nat.reduceBEq, Nat.reduceDiv, Nat.reduceMod, Int.reduceLE, Int.reduceLT, Int.reduceEq, Int.reduceBEq, Int.reduceBNe, Int.reduceAdd, Int.reduceSub, Int.reduceNeg, Int.reduceToNat, Int.reduceMul, Int.reducePow, Nat.reducePow, reduceCtorEq, h1, sz_le h, List.length_cons]
/-- a number's lowest bytes, the highest first -/
def be : Nat → Int → ByteArray
  | 1, x => b1 (x % 256)
  | 2, x => b1 (x.fdiv 256 % 256) ++ b1 (x % 256)
  | 4, x => b1 (x.fdiv 16777216 % 256) ++ b1 (x.fdiv 65536 % 256) ++ b1 (x.fdiv 256 % 256) ++ b1 (x % 256)
  | 8, x => b1 (x.fdiv 72057594037927936 % 256) ++ b1 (x.fdiv 281474976710656 % 256) ++ b1 (x.fdiv 1099511627776 % 256) ++ b1 (x.fdiv 4294967296 % 256) ++ b1 (x.fdiv 16777216 % 256) ++ b1 (x.fdiv 65536 % 256) ++ b1 (x.fdiv 256 % 256) ++ b1 (x % 256)
  | _, _ => ⟨#[]⟩
theorem be_1 (x : Int) : be 1 x = b1 (x % 256) := rfl
theorem be_2 (x : Int) : be 2 x = b1 (x.fdiv 256 % 256) ++ b1 (x % 256) := rfl
theorem be_4 (x : Int) : be 4 x = b1 (x.fdiv 16777216 % 256) ++ b1 (x.fdiv 65536 % 256) ++ b1 (x.fdiv 256 % 256) ++ b1 (x % 256) := rfl
theorem be_8 (x : Int) : be 8 x = b1 (x.fdiv 72057594037927936 % 256) ++ b1 (x.fdiv 281474976710656 % 256) ++ b1 (x.fdiv 1099511627776 % 256) ++ b1 (x.fdiv 4294967296 % 256) ++ b1 (x.fdiv 16777216 % 256) ++ b1 (x.fdiv 65536 % 256) ++ b1 (x.fdiv 256 % 256) ++ b1 (x % 256) := rfl
def wOk (w : Nat) : Prop := w = 1 ∨ w = 2 ∨ w = 4 ∨ w = 8
theorem be_size {w : Nat} (h : wOk w) (x : Int) : (be w x).size = w := by
  rcases h with rfl | rfl | rfl | rfl
  · rfl
  · rw [be_2]; simp only [ByteArray.size_append, b1_size]
  · rw [be_4]; simp only [ByteArray.size_append, b1_size]
  · rw [be_8]; simp only [ByteArray.size_append, b1_size]
theorem lay_ref (w : Nat) (hw : wOk w) (b : ByteArray) (x : Int) (h0 : b.size ≠ 0) (h : b.size ≤ 100000000) : EV 78 [.ref 0 0 1 0 b.size, .sc (.int .u64 x), I w] [some ⟨0, bytesD b⟩] = some (.ret (.ref 1 0 1 0 (b.size + w)), [some ⟨0, bytesD b⟩, some ⟨0, bytesD (b ++ be w x)⟩]) := by
  refine (ev_body ⟨[], [(0, [1, 7, 8])], [], false, [], noIt⟩ [.tmp 6] rfl Tryd.func78 rfl rfl rfl (by kernel_rfl) (by show 3 ≤ 29; decide) (by kernel_rfl)).trans ?_
  rcases hw with rfl | rfl | rfl | rfl
  · simp +contextual (maxSteps := 10000000) only [↓reduceIte, go_sem, Nat.reduceEqDiff, Nat.reduceAdd, Nat.reduceSub, Nat.reduceMul, Nat.reduceLeDiff, Nat.reduceLT, Nat.reduceBEq, Nat.reduceDiv, Nat.reduceMod, Int.reduceLE, Int.reduceLT, Int.reduceEq, Int.reduceBEq, Int.reduceBNe, Int.reduceAdd, Int.reduceSub, Int.reduceNeg, Int.reduceToNat, Int.reduceMul, Int.reducePow, Nat.reducePow, reduceCtorEq, clone_ref b h0 h, lpK_go, one_b1, sz_le h, fdiv1, be_1]
  · simp +contextual (maxSteps := 10000000) only [↓reduceIte, go_sem, Nat.reduceEqDiff, Nat.reduceAdd, Nat.reduceSub, Nat.reduceMul, Nat.reduceLeDiff, Nat.reduceLT, Nat.reduceBEq, Nat.reduceDiv, Nat.reduceMod, Int.reduceLE, Int.reduceLT, Int.reduceEq, Int.reduceBEq, Int.reduceBNe, Int.reduceAdd, Int.reduceSub, Int.reduceNeg, Int.reduceToNat, Int.reduceMul, Int.reducePow, Nat.reducePow, reduceCtorEq, clone_ref b h0 h, lpK_go, one_b1, sz_le h, fdiv1, be_2, ByteArray.append_assoc, Nat.add_assoc]
  · simp +contextual (maxSteps := 10000000) only [↓reduceIte, go_sem, Nat.reduceEqDiff, Nat.reduceAdd, Nat.reduceSub, Nat.reduceMul, Nat.reduceLeDiff, Nat.reduceLT, Nat.reduceBEq, Nat.reduceDiv, Nat.reduceMod, Int.reduceLE, Int.reduceLT, Int.reduceEq, Int.reduceBEq, Int.reduceBNe, Int.reduceAdd, Int.reduceSub, Int.reduceNeg, Int.reduceToNat, Int.reduceMul, Int.reducePow, Nat.reducePow, reduceCtorEq, clone_ref b h0 h, lpK_go, one_b1, sz_le h, fdiv1, be_4, ByteArray.append_assoc, Nat.add_assoc]
  · simp +contextual (maxSteps := 10000000) only [↓reduceIte, go_sem, Nat.reduceEqDiff, Nat.reduceAdd, Nat.reduceSub, Nat.reduceMul, Nat.reduceLeDiff, Nat.reduceLT, Nat.reduceBEq, Nat.reduceDiv, Nat.reduceMod, Int.reduceLE, Int.reduceLT, Int.reduceEq, Int.reduceBEq, Int.reduceBNe, Int.reduceAdd, Int.reduceSub, Int.reduceNeg, Int.reduceToNat, Int.reduceMul, Int.reducePow, Nat.reducePow, reduceCtorEq, clone_ref b h0 h, lpK_go, one_b1, sz_le h, fdiv1, be_8, ByteArray.append_assoc, Nat.add_assoc]
theorem lay_nils (w : Nat) (hw : wOk w) (x : Int) : EV 78 [.nils, .sc (.int .u64 x), I w] [] = some (.ret (.ref 0 0 1 0 w), [some ⟨0, bytesD (be w x)⟩]) := by
  refine (ev_body ⟨[], [(0, [1, 7, 8])], [], false, [], noIt⟩ [.tmp 6] rfl Tryd.func78 rfl rfl rfl (by kernel_rfl) (by show 3 ≤ 29; decide) (by kernel_rfl)).trans ?_
  rcases hw with rfl | rfl | rfl | rfl
  · simp +contextual (maxSteps := 10000000) only [↓reduceIte, go_sem, Nat.reduceEqDiff, Nat.reduceAdd, Nat.reduceSub, Nat.reduceMul, Nat.reduceLeDiff, Nat.reduceLT, Nat.reduceBEq, Nat.reduceDiv, Nat.reduceMod, Int.reduceLE, Int.reduceLT, Int.reduceEq, Int.reduceBEq, Int.reduceBNe, Int.reduceAdd, Int.reduceSub, Int.reduceNeg, Int.reduceToNat, Int.reduceMul, Int.reducePow, Nat.reducePow, reduceCtorEq, clone_nils, lpK_go, one_b1, fdiv1, be_1]
  · simp +contextual (maxSteps := 10000000) only [↓reduceIte, go_sem, Nat.reduceEqDiff, Nat.reduceAdd, Nat.reduceSub, Nat.reduceMul, Nat.reduceLeDiff, Nat.reduceLT, Nat.reduceBEq, Nat.reduceDiv, Nat.reduceMod, Int.reduceLE, Int.reduceLT, Int.reduceEq, Int.reduceBEq, Int.reduceBNe, Int.reduceAdd, Int.reduceSub, Int.reduceNeg, Int.reduceToNat, Int.reduceMul, Int.reducePow, Nat.reducePow, reduceCtorEq, clone_nils, lpK_go, one_b1, fdiv1, be_2, ByteArray.append_assoc, Nat.add_assoc]
  · simp +contextual (maxSteps := 10000000) only [↓reduceIte, go_sem, Nat.reduceEqDiff, Nat.reduceAdd, Nat.reduceSub, Nat.reduceMul, Nat.reduceLeDiff, Nat.reduceLT, Nat.reduceBEq, Nat.reduceDiv, Nat.reduceMod, Int.reduceLE, Int.reduceLT, Int.reduceEq, Int.reduceBEq, Int.reduceBNe, Int.reduceAdd, Int.reduceSub, Int.reduceNeg, Int.reduceToNat, Int.reduceMul, Int.reducePow, Nat.reducePow, reduceCtorEq, clone_nils, lpK_go, one_b1, fdiv1, be_4, ByteArray.append_assoc, Nat.add_assoc]
  · simp +contextual (maxSteps := 10000000) only [↓reduceIte, go_sem, Nat.reduceEqDiff, Nat.reduceAdd, Nat.reduceSub, Nat.reduceMul, Nat.reduceLeDiff, Nat.reduceLT, Nat.reduceBEq, Nat.reduceDiv, Nat.reduceMod, Int.reduceLE, Int.reduceLT, Int.reduceEq, Int.reduceBEq, Int.reduceBNe, Int.reduceAdd, Int.reduceSub, Int.reduceNeg, Int.reduceToNat, Int.reduceMul, Int.reducePow, Nat.reducePow, reduceCtorEq, clone_nils, lpK_go, one_b1, fdiv1, be_8, ByteArray.append_assoc, Nat.add_assoc]
end Go.Bw.R1

namespace Go.Bw.R1
set_option maxRecDepth 5000
open Go Go.Bw Go.Proofs
theorem wmay_1 (n : Int) : EV 102 [I 1, .sc (.int .u64 n)] [] = some (.ret (B (decide (n ≤ 255))), []) := by
  refine (ev_body ⟨[], [], [], false, [], noIt⟩ [.tmp 4] rfl Tryd.func102 rfl rfl rfl (by kernel_rfl) (by show 2 ≤ 14; decide) (by kernel_rfl)).trans ?_
  simp +contextual (maxSteps := 10000000) only [↓reduceIte, go_sem, Nat.reduceEqDiff, Nat.reduceAdd, Nat.reduceSub, Nat.reduceMul, Nat.reduceLeDiff, Nat.reduceLT, Nat.reduceBEq, Nat.reduceDiv, Nat.reduceMod, Int.reduceLE, Int.reduceLT, Int.reduceEq, Int.reduceBEq, Int.reduceBNe, Int.reduceAdd, Int.reduceSub, Int.reduceNeg, Int.reduceToNat, Int.reduceMul, Int.reducePow, Nat.reducePow, reduceCtorEq]
theorem wmay_4 (n : Int) : EV 102 [I 4, .sc (.int .u64 n)] [] = some (.ret (B (decide (n ≤ 2147483647))), []) := by
  refine (ev_body ⟨[], [], [], false, [], noIt⟩ [.tmp 4] rfl Tryd.func102 rfl rfl rfl (by kernel_rfl) (by show 2 ≤ 14; decide) (by kernel_rfl)).trans ?_
  simp +contextual (maxSteps := 10000000) only [↓reduceIte, go_sem, Nat.reduceEqDiff, Nat.reduceAdd, Nat.reduceSub, Nat.reduceMul, Nat.reduceLeDiff, Nat.reduceLT, Nat.reduceBEq, Nat.reduceDiv, Nat.reduceMod, Int.reduceLE, Int.reduceLT, Int.reduceEq, Int.reduceBEq, Int.reduceBNe, Int.reduceAdd, Int.reduceSub, Int.reduceNeg, Int.reduceToNat, Int.reduceMul, Int.reducePow, Nat.reducePow, reduceCtorEq]
theorem layp_ref (w : Nat) (b p : ByteArray) (h0 : b.size ≠ 0) (h : b.size ≤ 49000000) (hp : p.size ≤ 49000000) (hw : w = 1 ∧ p.size ≤ 255 ∨ w = 4) :
    EV 79 [.ref 0 0 1 0 b.size, .ref 1 0 1 0 p.size, I w] [some ⟨0, bytesD b⟩, some ⟨0, bytesD p⟩] = some (.ret (.tup [.ref 2 0 1 0 (b.size + w + p.size), I 0]), [some ⟨0, bytesD b⟩, some ⟨0, bytesD p⟩, some ⟨0, bytesD (b ++ be w p.size ++ p)⟩]) := by
  have hw0 : wOk w := by rcases hw with ⟨rfl, _⟩ | rfl <;> simp [wOk]
  have hl := lay_ref w hw0 b p.size h0 (by omega)
  have e1 : IntKind.u64.wrap (p.size : Int) = p.size := fit_u64 (by omega) (by omega)
  have hq : b.size + w + p.size ≤ 100000000 := by rcases hw with ⟨rfl, _⟩ | rfl <;> omega
  have hs : b.size + w = (b ++ be w p.size).size := by rw [ByteArray.size_append, be_size hw0]
  refine (ev_body ⟨[], [], [], false, [], noIt⟩ [.tmp 6, .tmp 7] rfl Tryd.func79 rfl rfl rfl (by kernel_rfl) (by show 3 ≤ 21; decide) (by kernel_rfl)).trans ?_
  by_cases hz : p.size = 0
  · have hp0 : p = ⟨#[]⟩ := by
      apply ByteArray.ext; exact Array.eq_empty_of_size_eq_zero hz
    subst hp0
    rcases hw with ⟨rfl, _⟩ | rfl
    · simp only [show ((⟨#[]⟩ : ByteArray).size) = 0 from rfl, Int.natCast_zero, Int.cast_ofNat_Int, Nat.add_zero] at hl e1 ⊢
      simp +contextual (maxSteps := 10000000) only [↓reduceIte, go_sem, Nat.reduceEqDiff, Nat.reduceAdd, Nat.reduceSub, Nat.reduceMul, Nat.reduceLeDiff, Nat.reduceLT, Nat.reduceBEq, Nat.reduceDiv, Nat.reduceMod, Int.reduceLE, Int.reduceLT, Int.reduceEq, Int.reduceBEq, Int.reduceBNe, Int.reduceAdd, Int.reduceSub, Int.reduceNeg, Int.reduceToNat, Int.reduceMul, Int.reducePow, Nat.reducePow, reduceCtorEq, hl, e1, wmay_1, wmay_4]
      rw [bytes_nil (s := ⟨#[]⟩) rfl]
    · simp only [show ((⟨#[]⟩ : ByteArray).size) = 0 from rfl, Int.natCast_zero, Int.cast_ofNat_Int, Nat.add_zero] at hl e1 ⊢
      simp +contextual (maxSteps := 10000000) only [↓reduceIte, go_sem, Nat.reduceEqDiff, Nat.reduceAdd, Nat.reduceSub, Nat.reduceMul, Nat.reduceLeDiff, Nat.reduceLT, Nat.reduceBEq, Nat.reduceDiv, Nat.reduceMod, Int.reduceLE, Int.reduceLT, Int.reduceEq, Int.reduceBEq, Int.reduceBNe, Int.reduceAdd, Int.reduceSub, Int.reduceNeg, Int.reduceToNat, Int.reduceMul, Int.reducePow, Nat.reducePow, reduceCtorEq, hl, e1, wmay_1, wmay_4]
      rw [bytes_nil (s := ⟨#[]⟩) rfl]
  · rcases hw with ⟨rfl, h1⟩ | rfl
    · have hd : decide ((p.size : Int) ≤ 255) = true := by simp; omega
      simp only [Int.cast_ofNat_Int] at hl
      rw [hs] at hl hq ⊢
      rw [ByteArray.size_append] at hq
      simp +contextual (maxSteps := 10000000) only [↓reduceIte, go_sem, Nat.reduceEqDiff, Nat.reduceAdd, Nat.reduceSub, Nat.reduceMul, Nat.reduceLeDiff, Nat.reduceLT, Nat.reduceBEq, Nat.reduceDiv, Nat.reduceMod, Int.reduceLE, Int.reduceLT, Int.reduceEq, Int.reduceBEq, Int.reduceBNe, Int.reduceAdd, Int.reduceSub, Int.reduceNeg, Int.reduceToNat, Int.reduceMul, Int.reducePow, Nat.reducePow, reduceCtorEq, hl, e1, wmay_1, wmay_4, hz, sz_le hq, hd]
    · have hd : decide ((p.size : Int) ≤ 2147483647) = true := by simp; omega
      simp only [Int.cast_ofNat_Int] at hl
      rw [hs] at hl hq ⊢
      rw [ByteArray.size_append] at hq
      simp +contextual (maxSteps := 10000000) only [↓reduceIte, go_sem, Nat.reduceEqDiff, Nat.reduceAdd, Nat.reduceSub, Nat.reduceMul, Nat.reduceLeDiff, Nat.reduceLT, Nat.reduceBEq, Nat.reduceDiv, Nat.reduceMod, Int.reduceLE, Int.reduceLT, Int.reduceEq, Int.reduceBEq, Int.reduceBNe, Int.reduceAdd, Int.reduceSub, Int.reduceNeg, Int.reduceToNat, Int.reduceMul, Int.reducePow, Nat.reducePow, reduceCtorEq, hl, e1, wmay_1, wmay_4, hz, sz_le hq, hd]
end Go.Bw.R1

namespace Go.Bw.R1
set_option maxRecDepth 5000
open Go Go.Bw Go.Proofs
mutual
/-- what a value is, whatever it is called -/
def bareV : Val → Val
  | .mk k n t l => if k = 25 then bareL l else .mk k n t l
def bareL : List Val → Val
  | [] => .mk 0 0 ⟨#[]⟩ []
  | _ :: r => bareH r
def bareH : List Val → Val
  | [] => .mk 0 0 ⟨#[]⟩ []
  | x :: _ => bareV x
end
theorem bare_ne {v : Val} (h : v.kind ≠ 25) : bareV v = v := by cases v; simp only [bareV, Val.kind_mk] at h ⊢; rw [if_neg h]
theorem bare_desc {v a x : Val} (h : v.kind = 25) (hk : v.kids = [a, x]) : bareV v = bareV x := by
  cases v; simp only [Val.kind_mk, Val.kids_mk] at h hk; subst h hk; simp only [bareV, bareL, bareH, if_true]
/-- the second kid -/
def sndV (v : Val) : Val := match v.kids with | [_, x] => x | _ => v
theorem snd_of {v a x : Val} (hk : v.kids = [a, x]) : sndV v = x := by unfold sndV; rw [hk]
/-- noughts behind values -/
def zV : List D := [.sc (.int .u8 0), .sc (.int .u64 0), .sc (.string ⟨#[]⟩), .nils]
def rowZ (l : List Val) (m : Nat) : List D := rowE Val.d l ++ repD zV m
theorem repD_len (m : Nat) : (repD zV m).length = m * 4 := by
  induction m with
  | zero => rfl
  | succ m ih => simp only [repD, List.length_append, ih]; simp [zV]; omega
theorem rowZ_len (l : List Val) (m : Nat) : (rowZ l m).length = (l.length + m) * 4 := by
  unfold rowZ
  rw [List.length_append, rowV_len, repD_len]; omega
theorem repD_refs (m : Nat) : D.refsL (repD zV m) = [] := by
  induction m with
  | zero => rfl
  | succ m ih => simp only [repD, refsL_append, ih]; rfl
theorem rowZ_refs (l : List Val) (m : Nat) : D.refsL (rowZ l m) = [] := by
  unfold rowZ
  rw [refsL_append, rowV_refs, repD_refs]; rfl
theorem rowZ_set (l : List Val) (m : Nat) (x : Val) : (rowZ l (m + 1)).take (l.length * 4) ++ [.sc (.int .u8 x.kind), .sc (.int .u64 x.num), .sc (.string x.text), .ro false (x.kids.map Val.d)] ++ (rowZ l (m + 1)).drop (l.length * 4 + 4) = rowZ (l ++ [x]) m := by
  rw [List.append_assoc]
  have h := rowV_len l
  unfold rowZ
  rw [List.take_append_of_le_length (by omega), List.take_of_length_le (by omega), List.drop_append, List.drop_of_length_le (by omega), List.nil_append, h, show l.length * 4 + 4 - l.length * 4 = 4 by omega]
  simp only [repD]
  rw [List.drop_append_of_le_length (by simp [zV]), show zV.drop 4 = [] from rfl, List.nil_append, ← List.append_assoc, rowV_snoc]
theorem rowZ_end (l : List Val) : rowZ l 0 = rowE Val.d l := by unfold rowZ; simp only [repD, List.append_nil]
theorem mk_vals {es : Sto} {n : Nat} (hn : n ≤ 4000000) : makeSliceD Tryd.prog (stL es) 25 (I n) (I n) = some (.ref es.length 0 4 0 n, stL (es ++ [some ⟨0, rowZ [] n⟩])) := by
  simp only [makeSliceD, el25, ze27, by27, List.length_cons, List.length_nil, Int.toNat_natCast, stL_next, stL_new]
  rw [if_pos ⟨trivial, by omega, by omega, by omega, by omega, by omega⟩]
  rfl
theorem fsE_vals {es : Sto} {F : Nat → Bool} {n i v len : Nat} {l : List Val} (hl : l.length = len) : fsE es F n i v 4 0 len true (some ⟨v, rowE Val.d l⟩) = .ro false (l.map Val.d) := fsE_rowE valOk hl
/-- values that are called alike -/
def Al (l : List Val) : Prop := ∃ v ∈ l.head?, (∀ x ∈ l, mayS x = true ∧ ∃ n, alikeF n v x = true)
theorem al_snd {l : List Val} (h : Al l) {v : Val} (hv : v ∈ l.head?) (hk : v.kind = 25) : (∀ x ∈ l, x.kind = 25 ∧ ∃ a y, x.kids = [a, y] ∧ sndV x = y) ∧ Al (l.map sndV) := by
  obtain ⟨v', hv', h⟩ := h
  obtain rfl : v' = v := by rw [Option.mem_def] at hv hv'; rw [hv] at hv'; exact (Option.some.inj hv').symm
  have key : ∀ x ∈ l, x.kind = 25 ∧ (∃ a y, x.kids = [a, y] ∧ sndV x = y) ∧ mayS (sndV x) = true ∧ ∃ n, alikeF n (sndV v') (sndV x) = true := by
    intro x hx
    obtain ⟨hm, n, hn⟩ := h x hx
    obtain ⟨hmv, _⟩ := h v' (List.mem_of_mem_head? hv)
    cases n with
    | zero => simp [alikeF] at hn
    | succ n =>
      have hx25 : x.kind = 25 := by
        unfold alikeF at hn
        rw [hk] at hn
        by_cases hxk : x.kind = 25
        · exact hxk
        · have : (x.kind != 25) = true := by simpa using hxk
          simp only [this, Bool.or_true, if_true, beq_iff_eq] at hn
          exact hn.symm
      obtain ⟨a, y, q1, q2, q3⟩ := may_desc hm hx25
      obtain ⟨a', y', p1, p2, p3⟩ := may_desc hmv hk
      refine ⟨hx25, ⟨a, y, q1, snd_of q1⟩, by rw [snd_of q1]; exact q3, n, ?_⟩
      unfold alikeF at hn
      rw [hk, hx25, p1, q1] at hn
      simp only [bne_self_eq_false, Bool.or_self, Bool.false_eq_true, if_false, Bool.and_eq_true] at hn
      rw [snd_of p1, snd_of q1]; exact hn.2
  refine ⟨fun x hx => ⟨(key x hx).1, (key x hx).2.1⟩, sndV v', ?_, fun y hy => ?_⟩
  · rw [Option.mem_def, List.head?_map]; rw [Option.mem_def] at hv; rw [hv]; rfl
  · obtain ⟨x, hx, rfl⟩ := List.mem_map.1 hy
    exact ⟨(key x hx).2.2.1, (key x hx).2.2.2⟩
theorem snd_sz {v : Val} (h : ∃ a y, v.kids = [a, y] ∧ sndV v = y) : (sndV v).sz < v.sz := by
  obtain ⟨a, y, h1, h2⟩ := h
  rw [Val.sz_eq v, h1, h2]
  simp only [Val.szL]; omega
theorem al_bare : ∀ (n : Nat) (l : List Val), Al l → (∀ v ∈ l.head?, v.sz ≤ n) → ∀ v ∈ l.head?, v.kind ≠ 25 → l.map bareV = l := by
  intro n l h _ v hv hk
  obtain ⟨v', hv', h⟩ := h
  obtain rfl : v' = v := by rw [Option.mem_def] at hv hv'; rw [hv] at hv'; exact (Option.some.inj hv').symm
  conv => rhs; rw [← List.map_id l]
  refine List.map_congr_left fun x hx => ?_
  obtain ⟨_, n, hn⟩ := h x hx
  cases n with
  | zero => simp [alikeF] at hn
  | succ n =>
    refine bare_ne fun hx25 => hk ?_
    unfold alikeF at hn
    have : (v'.kind != 25) = true := by simpa using hk
    simp only [this, Bool.true_or, if_true, beq_iff_eq] at hn
    rw [hn, hx25]
set_option maxHeartbeats 2000000 in
theorem strip_c (l : List Val) (hl : l.length ≤ 4000000) (hA : Al l) : EV 56 [.ro false (l.map Val.d)] [] = some (.ret (.ro false ((l.map bareV).map Val.d)), []) := by
  have hA0 := hA
  obtain ⟨v0, hv0, _⟩ := hA0
  refine (ev_body ⟨[], [(0, [0]), (2, [3, 14, 15, 16])], [], true, [(8, [0])], noIt⟩ [.tmp 2] rfl Tryd.func56 rfl rfl rfl (by kernel_rfl) (by show 1 ≤ 31; decide) (by kernel_rfl)).trans ?_
  simp +contextual (maxSteps := 10000000) only [↓reduceIte, go_sem, Nat.reduceEqDiff, Nat.reduceAdd, Nat.reduceSub, Nat.reduceMul, Nat.reduceLeDiff, Nat.reduceLT, Nat.reduceBEq, Nat.reduceDiv, Nat.reduceMod, Int.reduceLE, Int.reduceLT, Int.reduceEq, Int.reduceBEq, Int.reduceBNe, Int.reduceAdd, Int.reduceSub, Int.reduceNeg, Int.reduceToNat, Int.reduceMul, Int.reducePow, Nat.reducePow, reduceCtorEq]
  refine lpK_inv (fun m f es => ∃ (q : List Val) (v : Val), Al q ∧ v ∈ q.head? ∧ m = v.sz ∧ q.length = l.length ∧ q.map bareV = l.map bareV ∧ f = [(0, .ro false (q.map Val.d))] ∧ es = []) v0.sz ⟨l, v0, hA, hv0, rfl, rfl, rfl, rfl, rfl⟩ ?_
  rintro _ _ _ ⟨q, v, hq, hv, rfl, hlen, hb, rfl, rfl⟩ ih
  obtain ⟨r, hr⟩ : ∃ r, q = v :: r := by
    cases q with
    | nil => simp at hv
    | cons a r => simp only [List.head?_cons, Option.mem_def, Option.some.injEq] at hv; subst hv; exact ⟨r, rfl⟩
  have h0 : (q.map Val.d)[0]? = some v.d := by rw [hr]; rfl
  by_cases hk : v.kind = 25
  · obtain ⟨s1, s2⟩ := al_snd hq hv hk
    have hbd : (q.map sndV).map bareV = l.map bareV := by
      rw [← hb, List.map_map]
      refine List.map_congr_left fun x hx => ?_
      obtain ⟨p1, a, y, p2, p3⟩ := s1 x hx
      rw [Function.comp, p3, bare_desc p1 p2]
    have hsz := snd_sz (s1 v (by rw [hr]; exact List.mem_cons_self ..)).2
    have hmk : ∀ es, makeSliceD Tryd.prog (stL es) 25 (I q.length) (I q.length) = _ := fun es => mk_vals (es := es) (n := q.length) (by omega)
    simp +contextual (maxSteps := 10000000) only [↓reduceIte, go_sem, Nat.reduceEqDiff, Nat.reduceAdd, Nat.reduceSub, Nat.reduceMul, Nat.reduceLeDiff, Nat.reduceLT, Nat.reduceBEq, Nat.reduceDiv, Nat.reduceMod, Int.reduceLE, Int.reduceLT, Int.reduceEq, Int.reduceBEq, Int.reduceBNe, Int.reduceAdd, Int.reduceSub, Int.reduceNeg, Int.reduceToNat, Int.reduceMul, Int.reducePow, Nat.reducePow, reduceCtorEq, h0, hk, hmk, rowZ_refs]
    refine lpK_inv (fun m f es => ∃ (i : Nat) (j : Int), j = i ∧ m + i = q.length ∧ f = [(3, .ref 0 0 4 0 q.length), (14, .ro false (q.map Val.d)), (15, I q.length), (16, I j)] ∧ es = [some ⟨0, rowZ ((q.take i).map sndV) m⟩]) q.length ⟨0, _, rfl, by omega, rfl, rfl⟩ ?_
    rintro m _ _ ⟨i, _, rfl, hi, rfl, rfl⟩ ih2
    cases m with
    | succ m =>
      obtain ⟨x, hx⟩ := get_lt (l := q) (i := i) (by omega)
      obtain ⟨x1, a, y, x2, x3⟩ := s1 x (List.mem_of_getElem? hx)
      have hlt : decide ((i : Int) < q.length) = true := by simp; omega
      have hix : (q.map Val.d)[i]? = some x.d := by rw [List.getElem?_map, hx]; rfl
      have hti : ((q.take i).map sndV).length = i := by simp; omega
      have hset := rowZ_set ((q.take i).map sndV) m y
      rw [hti] at hset
      have hlz := rowZ_len ((q.take i).map sndV) (m + 1)
      rw [hti] at hlz
      have hle : i * 4 + 4 ≤ (i + (m + 1)) * 4 := by omega
      have hnx : (q.take i).map sndV ++ [y] = (q.take (i + 1)).map sndV := by rw [take_snoc hx, List.map_append, List.map_singleton, x3]
      rw [hnx] at hset
      have hlt2 : i < q.length := by omega
      have hlt3 : (i : Int) < (q.length : Int) := by omega
      simp +contextual (maxSteps := 10000000) only [↓reduceIte, go_sem, Nat.reduceEqDiff, Nat.reduceAdd, Nat.reduceSub, Nat.reduceMul, Nat.reduceLeDiff, Nat.reduceLT, Nat.reduceBEq, Nat.reduceDiv, Nat.reduceMod, Int.reduceLE, Int.reduceLT, Int.reduceEq, Int.reduceBEq, Int.reduceBNe, Int.reduceAdd, Int.reduceSub, Int.reduceNeg, Int.reduceToNat, Int.reduceMul, Int.reducePow, Nat.reducePow, reduceCtorEq, hix, x2, hlt, wrap_i64 (n := (i : Int) + 1) (by omega) (by omega), List.map_cons, List.map_nil, hlz, hle, hset, hlt2, hlt3, rowZ_refs]
      exact ih2 m _ _ (by omega) ⟨i + 1, (i : Int) + 1, by omega, by omega, rfl, rfl⟩
    | zero =>
      have hlt : decide ((i : Int) < q.length) = false := by simp; omega
      obtain rfl : i = q.length := by omega
      have hsl : (q.map sndV).length = q.length := by simp
      simp +contextual (maxSteps := 10000000) only [↓reduceIte, go_sem, Nat.reduceEqDiff, Nat.reduceAdd, Nat.reduceSub, Nat.reduceMul, Nat.reduceLeDiff, Nat.reduceLT, Nat.reduceBEq, Nat.reduceDiv, Nat.reduceMod, Int.reduceLE, Int.reduceLT, Int.reduceEq, Int.reduceBEq, Int.reduceBNe, Int.reduceAdd, Int.reduceSub, Int.reduceNeg, Int.reduceToNat, Int.reduceMul, Int.reducePow, Nat.reducePow, reduceCtorEq, hlt, List.take_length, rowZ_end, fsE_vals hsl]
      exact ih _ _ _ hsz ⟨q.map sndV, sndV v, s2, by rw [hr]; rfl, rfl, by simp [hlen], hbd, rfl, rfl⟩
  · have hkf : (v.kind == 25) = false := by simpa using hk
    have e := al_bare v.sz q hq (fun x hx => by rw [Option.mem_def] at hx hv; rw [hv] at hx; cases hx; exact Nat.le_refl _) v hv hk
    rw [e] at hb
    simp +contextual (maxSteps := 10000000) only [↓reduceIte, go_sem, Nat.reduceEqDiff, Nat.reduceAdd, Nat.reduceSub, Nat.reduceMul, Nat.reduceLeDiff, Nat.reduceLT, Nat.reduceBEq, Nat.reduceDiv, Nat.reduceMod, Int.reduceLE, Int.reduceLT, Int.reduceEq, Int.reduceBEq, Int.reduceBNe, Int.reduceAdd, Int.reduceSub, Int.reduceNeg, Int.reduceToNat, Int.reduceMul, Int.reducePow, Nat.reducePow, reduceCtorEq, h0, hkf]
    rw [hb]
end Go.Bw.R1

namespace Go.Bw.R1
set_option maxRecDepth 5000
open Go Go.Bw Go.Proofs
/-- a value, as its bytes tell it: what it is, and what stands inside -/
structure Sh where
  kind : Int
  num : Int
  text : ByteArray
  cnt : Nat
  ins : ByteArray
  deriving Inhabited
def e0 : ByteArray := ⟨#[]⟩
def codesOf (k : Int) : List Int :=
  if k = 2 then [65, 66, 86] else if k = 5 then [67, 82, 112] else if k = 6 then [68, 83, 128] else if k = 9 then [84, 113] else if k = 10 then [85, 129] else if k = 19 then [160, 176] else if k = 20 then [161, 177]
  else if k = 21 then [163, 179] else if k = 22 then [69, 192, 208] else if k = 23 then [193, 209] else if k = 24 then [224, 240] else [codeK k]
def sgn8 (n : Int) : Bool := IntKind.i8.wrap n == IntKind.i64.wrap n
def fitS (c : Int) (s : Sh) : Bool :=
  if c = 65 then s.num == 1 else if c = 66 ∨ c = 67 ∨ c = 68 then s.num == 0 else if c = 69 then decide (s.cnt = 0) else if c = 82 ∨ c = 83 then decide (s.num ≤ 255) else if c = 84 ∨ c = 85 then sgn8 s.num
  else if c = 160 ∨ c = 161 ∨ c = 163 then decide (s.text.size ≤ 255) else if c = 192 ∨ c = 193 ∨ c = 224 then decide (s.cnt ≤ 255) && decide (s.ins.size < 255) else true
/-- the first code of a kind that can tell all -/
def codeOf (ls : List Sh) : Int := ((codesOf (ls.headD default).kind).find? fun c => ls.all (fitS c)).getD 0
def widQ (q : Int) : Nat := if q = 5 then 1 else if q = 6 then 2 else if q = 7 then 4 else 8
def dataS (c : Int) (s : Sh) : ByteArray :=
  if c.fdiv 16 = 4 then e0 else if c.fdiv 16 = 5 ∨ c.fdiv 16 = 6 ∨ c.fdiv 16 = 7 ∨ c.fdiv 16 = 8 then (if s.text = e0 then be (widQ (c.fdiv 16)) s.num else s.text)
  else if c.fdiv 16 = 9 then s.text else if c.fdiv 16 = 10 then be 1 s.text.size ++ s.text else if c.fdiv 16 = 11 then be 4 s.text.size ++ s.text
  else if c.fdiv 16 = 12 ∨ c.fdiv 16 = 14 then be 1 (1 + s.ins.size : Nat) ++ (be 1 s.cnt ++ s.ins) else be 4 (4 + s.ins.size : Nat) ++ (be 4 s.cnt ++ s.ins)
def Wd (s : Sh) (h : ByteArray) : ByteArray := h ++ b1 (codeOf [s]) ++ dataS (codeOf [s]) s
def catW : List (Sh × ByteArray) → ByteArray
  | [] => e0
  | e :: r => Wd e.1 e.2 ++ catW r
def catD (c : Int) : List Sh → ByteArray
  | [] => e0
  | s :: r => dataS c s ++ catD c r
def arrS : List (Sh × ByteArray) → ByteArray
  | [] => b1 64
  | e :: r => e.2 ++ b1 (codeOf ((e :: r).map Prod.fst)) ++ catD (codeOf ((e :: r).map Prod.fst)) ((e :: r).map Prod.fst)
def encF (k n : Int) (t : ByteArray) (es : List (Sh × ByteArray)) : Sh × ByteArray :=
  if k = 25 then (match es with | [a, x] => (x.1, b1 0 ++ Wd a.1 a.2 ++ x.2) | _ => default) else (⟨k, n, t, es.length, if k = 24 then arrS es else catW es⟩, e0)
mutual
def encV : Val → Sh × ByteArray
  | .mk k n t l => encF k n t (encL l)
def encL : List Val → List (Sh × ByteArray)
  | [] => []
  | v :: l => encV v :: encL l
end
theorem encL_map : ∀ l, encL l = l.map encV
  | [] => rfl
  | v :: l => by rw [encL, encL_map l]; rfl
theorem encV_eq (v : Val) : encV v = encF v.kind v.num v.text (v.kids.map encV) := by cases v; rw [encV, encL_map]; rfl
def shV (v : Val) : Sh := (encV v).1
def hdV (v : Val) : ByteArray := (encV v).2
/-- a value's bytes -/
def wrV (v : Val) : ByteArray := Wd (shV v) (hdV v)
def insS (v : Val) : ByteArray := if v.kind = 24 then arrS (v.kids.map encV) else catW (v.kids.map encV)
theorem sh_ne {v : Val} (h : v.kind ≠ 25) : shV v = ⟨v.kind, v.num, v.text, v.kids.length, insS v⟩ := by
  unfold shV insS; rw [encV_eq]; unfold encF; rw [if_neg h]; simp only [List.length_map]
theorem hd_ne {v : Val} (h : v.kind ≠ 25) : hdV v = e0 := by unfold hdV; rw [encV_eq]; unfold encF; rw [if_neg h]
theorem enc_desc {v a x : Val} (h : v.kind = 25) (hk : v.kids = [a, x]) : shV v = shV x ∧ hdV v = b1 0 ++ wrV a ++ hdV x := by
  unfold shV hdV wrV shV hdV; rw [encV_eq v]; unfold encF; rw [if_pos h, hk]; exact ⟨rfl, rfl⟩
theorem catW_app : ∀ a b, catW (a ++ b) = catW a ++ catW b
  | [], b => by simp only [List.nil_append, catW]; exact (ByteArray.empty_append).symm
  | e :: a, b => by simp only [List.cons_append, catW, catW_app a b, ByteArray.append_assoc]
theorem catD_app (c : Int) : ∀ a b, catD c (a ++ b) = catD c a ++ catD c b
  | [], b => by simp only [List.nil_append, catD]; exact (ByteArray.empty_append).symm
  | e :: a, b => by simp only [List.cons_append, catD, catD_app c a b, ByteArray.append_assoc]
theorem e0_app (a : ByteArray) : e0 ++ a = a := ByteArray.empty_append
theorem app_e0 (a : ByteArray) : a ++ e0 = a := ByteArray.append_empty
theorem e0_size : e0.size = 0 := rfl
theorem wOk_wid (q : Int) : wOk (widQ q) := by unfold widQ wOk; repeat' split
                                               all_goals simp
theorem wid_le (q : Int) : widQ q ≤ 8 := by unfold widQ; repeat' split
                                            all_goals omega
theorem dataS_size (c : Int) (s : Sh) : (dataS c s).size ≤ 8 + s.text.size + s.ins.size := by
  unfold dataS
  repeat' split
  all_goals try simp only [ByteArray.size_append, e0_size, be_size (wOk_wid _), be_size (w := 1) (by simp [wOk]), be_size (w := 4) (by simp [wOk])]
  all_goals first | omega | (have := wid_le (c.fdiv 16); omega)
/-- so many bytes a value may have at most -/
def mxS (e : Sh × ByteArray) : Nat := e.2.size + 9 + e.1.text.size + e.1.ins.size
theorem Wd_size (s : Sh) (h : ByteArray) : (Wd s h).size ≤ mxS (s, h) := by
  have := dataS_size (codeOf [s]) s
  unfold Wd mxS
  simp only [ByteArray.size_append, b1_size]; omega
theorem catW_size : ∀ es : List (Sh × ByteArray), (catW es).size ≤ (es.map mxS).sum
  | [] => by simp [catW, e0_size]
  | e :: r => by have := catW_size r; have h : (Wd e.1 e.2).size ≤ mxS e := Wd_size e.1 e.2; simp only [catW, ByteArray.size_append, List.map_cons, List.sum_cons]; omega
theorem catD_size (c : Int) : ∀ es : List (Sh × ByteArray), (catD c (es.map Prod.fst)).size + es.length ≤ (es.map mxS).sum
  | [] => by simp [catD, e0_size]
  | e :: r => by
    have := catD_size c r; have := dataS_size c e.1
    simp only [List.map_cons, catD, ByteArray.size_append, List.sum_cons, List.length_cons]
    unfold mxS at *; omega
theorem catD_size2 (c : Int) (e : Sh × ByteArray) (r : List (Sh × ByteArray)) : e.2.size + 1 + (catD c ((e :: r).map Prod.fst)).size ≤ ((e :: r).map mxS).sum := by
  have := catD_size c r; have := dataS_size c e.1
  simp only [List.map_cons, catD, ByteArray.size_append, List.sum_cons]
  unfold mxS at *; omega
theorem arrS_size (es : List (Sh × ByteArray)) : (arrS es).size ≤ 1 + (es.map mxS).sum := by
  cases es with
  | nil => simp [arrS, b1_size]
  | cons e r =>
    have := catD_size2 (codeOf ((e :: r).map Prod.fst)) e r
    simp only [arrS, ByteArray.size_append, b1_size]; omega
theorem encF_size (k n : Int) (t : ByteArray) (es : List (Sh × ByteArray)) : mxS (encF k n t es) ≤ 10 + t.size + (es.map mxS).sum := by
  unfold encF
  split
  · split
    · rename_i a x
      have := Wd_size a.1 a.2
      simp only [List.map_cons, List.map_nil, List.sum_cons, List.sum_nil]
      have e : mxS (x.1, b1 0 ++ Wd a.1 a.2 ++ x.2) = 1 + (Wd a.1 a.2).size + mxS x := by unfold mxS; simp only [ByteArray.size_append, b1_size]; omega
      rw [e]
      have : mxS (a.1, a.2) = mxS a := rfl
      omega
    · show mxS default ≤ _
      have : mxS default = 9 := rfl
      omega
  · have key : ∀ z : ByteArray, mxS (⟨k, n, t, es.length, z⟩, e0) = 0 + 9 + t.size + z.size := fun z => rfl
    rw [key]
    split
    · have := arrS_size es; omega
    · have := catW_size es; omega
mutual
theorem mx_sz : ∀ v : Val, mxS (encV v) ≤ 10 * v.sz
  | .mk k n t l => by
    have h1 := encF_size k n t (encL l); have h2 := mx_szL l
    have e : encV (.mk k n t l) = encF k n t (encL l) := by rw [encV]
    rw [e, Val.sz]; omega
theorem mx_szL : ∀ l : List Val, ((encL l).map mxS).sum ≤ 10 * Val.szL l
  | [] => by rw [encL]; exact Nat.zero_le _
  | v :: l => by have h1 := mx_sz v; have h2 := mx_szL l; rw [encL, List.map_cons, List.sum_cons, Val.szL]; omega
end
theorem wr_sz (v : Val) : (wrV v).size ≤ 10 * v.sz := by
  have h1 := Wd_size (shV v) (hdV v); have h2 := mx_sz v
  exact Nat.le_trans h1 h2
theorem ins_sz (v : Val) : (shV v).ins.size + (shV v).text.size + (hdV v).size + 9 ≤ 10 * v.sz := by
  have h2 := mx_sz v
  unfold mxS at h2; unfold shV hdV; omega
theorem wr_pos (v : Val) : 0 < (wrV v).size := by unfold wrV Wd; simp only [ByteArray.size_append, b1_size]; omega
theorem sh_bare : ∀ (n : Nat) (v : Val), v.sz ≤ n → mayS v = true → shV (bareV v) = shV v ∧ (bareV v).kind ≠ 25 ∧ mayS (bareV v) = true ∧ (bareV v).sz ≤ v.sz
  | 0, .mk .., h, _ => by simp [Val.sz] at h
  | n + 1, v, hn, hm => by
    by_cases hk : v.kind = 25
    · obtain ⟨a, x, h1, h2, h3⟩ := may_desc hm hk
      have hs : x.sz < v.sz := by rw [Val.sz_eq v, h1]; simp only [Val.szL]; omega
      obtain ⟨i1, i2, i3, i4⟩ := sh_bare n x (by omega) h3
      rw [bare_desc hk h1, (enc_desc hk h1).1]
      exact ⟨i1, i2, i3, by omega⟩
    · rw [bare_ne hk]; exact ⟨rfl, hk, hm, Nat.le_refl _⟩
end Go.Bw.R1

namespace Go.Bw.R1
set_option maxRecDepth 5000
open Go Go.Bw Go.Proofs
theorem mapT : MapT Tryd.prog 77 := ⟨5, 5, by rw [Tryd.underlying77], by rw [Tryd.underlying5], ze5, by kernel_rfl, by kernel_rfl⟩
theorem gl_codes : gl0 1 = .rp [codesD] := nr rfl
def fnOf (c : Int) : FuncId :=
  if c = 65 then 103 else if c = 66 ∨ c = 67 ∨ c = 68 then 104 else if c = 69 then 109 else if c = 82 ∨ c = 83 then 106 else if c = 84 ∨ c = 85 then 107
  else if c = 160 ∨ c = 161 ∨ c = 163 then 108 else if c = 192 ∨ c = 193 ∨ c = 224 then 110 else 105
/-- a code, and what says whether it can tell a value -/
def chD (c : Int) : D := .agg [.sc (.int .u8 c), .fn (.func (fnOf c)) [] []]
def codeE (k : Int) : D := .agg [.sc (.int .u8 (codeK k)), .fn (.func 105) [] []]
theorem choices_2 : EV 81 [.sc (.int .u8 2)] [] = some (.ret (.ro false ((codesOf 2).map chD)), []) := by
  refine (ev_body ⟨[], [], [], true, [], noIt⟩ [.tmp 2] rfl Tryd.func81 rfl rfl rfl (by kernel_rfl) (by show 1 ≤ 68; decide) (by kernel_rfl)).trans ?_
  simp +contextual (maxSteps := 10000000) only [↓reduceIte, go_sem, Nat.reduceEqDiff, Nat.reduceAdd, Nat.reduceSub, Nat.reduceMul, Nat.reduceLeDiff, Nat.reduceLT, Nat.reduceBEq, Nat.reduceDiv, Nat.reduceMod, Int.reduceLE, Int.reduceLT, Int.reduceEq, Int.reduceBEq, Int.reduceBNe, Int.reduceAdd, Int.reduceSub, Int.reduceNeg, Int.reduceToNat, Int.reduceMul, Int.reducePow, Nat.reducePow, reduceCtorEq]
  rfl
theorem choices_5 : EV 81 [.sc (.int .u8 5)] [] = some (.ret (.ro false ((codesOf 5).map chD)), []) := by
  refine (ev_body ⟨[], [], [], true, [], noIt⟩ [.tmp 2] rfl Tryd.func81 rfl rfl rfl (by kernel_rfl) (by show 1 ≤ 68; decide) (by kernel_rfl)).trans ?_
  simp +contextual (maxSteps := 10000000) only [↓reduceIte, go_sem, Nat.reduceEqDiff, Nat.reduceAdd, Nat.reduceSub, Nat.reduceMul, Nat.reduceLeDiff, Nat.reduceLT, Nat.reduceBEq, Nat.reduceDiv, Nat.reduceMod, Int.reduceLE, Int.reduceLT, Int.reduceEq, Int.reduceBEq, Int.reduceBNe, Int.reduceAdd, Int.reduceSub, Int.reduceNeg, Int.reduceToNat, Int.reduceMul, Int.reducePow, Nat.reducePow, reduceCtorEq]
  rfl
theorem choices_6 : EV 81 [.sc (.int .u8 6)] [] = some (.ret (.ro false ((codesOf 6).map chD)), []) := by
  refine (ev_body ⟨[], [], [], true, [], noIt⟩ [.tmp 2] rfl Tryd.func81 rfl rfl rfl (by kernel_rfl) (by show 1 ≤ 68; decide) (by kernel_rfl)).trans ?_
  simp +contextual (maxSteps := 10000000) only [↓reduceIte, go_sem, Nat.reduceEqDiff, Nat.reduceAdd, Nat.reduceSub, Nat.reduceMul, Nat.reduceLeDiff, Nat.reduceLT, Nat.reduceBEq, Nat.reduceDiv, Nat.reduceMod, Int.reduceLE, Int.reduceLT, Int.reduceEq, Int.reduceBEq, Int.reduceBNe, Int.reduceAdd, Int.reduceSub, Int.reduceNeg, Int.reduceToNat, Int.reduceMul, Int.reducePow, Nat.reducePow, reduceCtorEq]
  rfl
theorem choices_9 : EV 81 [.sc (.int .u8 9)] [] = some (.ret (.ro false ((codesOf 9).map chD)), []) := by
  refine (ev_body ⟨[], [], [], true, [], noIt⟩ [.tmp 2] rfl Tryd.func81 rfl rfl rfl (by kernel_rfl) (by show 1 ≤ 68; decide) (by kernel_rfl)).trans ?_
  simp +contextual (maxSteps := 10000000) only [↓reduceIte, go_sem, Nat.reduceEqDiff, Nat.reduceAdd, Nat.reduceSub, Nat.reduceMul, Nat.reduceLeDiff, Nat.reduceLT, Nat.reduceBEq, Nat.reduceDiv, Nat.reduceMod, Int.reduceLE, Int.reduceLT, Int.reduceEq, Int.reduceBEq, Int.reduceBNe, Int.reduceAdd, Int.reduceSub, Int.reduceNeg, Int.reduceToNat, Int.reduceMul, Int.reducePow, Nat.reducePow, reduceCtorEq]
  rfl
theorem choices_10 : EV 81 [.sc (.int .u8 10)] [] = some (.ret (.ro false ((codesOf 10).map chD)), []) := by
  refine (ev_body ⟨[], [], [], true, [], noIt⟩ [.tmp 2] rfl Tryd.func81 rfl rfl rfl (by kernel_rfl) (by show 1 ≤ 68; decide) (by kernel_rfl)).trans ?_
  simp +contextual (maxSteps := 10000000) only [↓reduceIte, go_sem, Nat.reduceEqDiff, Nat.reduceAdd, Nat.reduceSub, Nat.reduceMul, Nat.reduceLeDiff, Nat.reduceLT, Nat.reduceBEq, Nat.reduceDiv, Nat.reduceMod, Int.reduceLE, Int.reduceLT, Int.reduceEq, Int.reduceBEq, Int.reduceBNe, Int.reduceAdd, Int.reduceSub, Int.reduceNeg, Int.reduceToNat, Int.reduceMul, Int.reducePow, Nat.reducePow, reduceCtorEq]
  rfl
theorem choices_19 : EV 81 [.sc (.int .u8 19)] [] = some (.ret (.ro false ((codesOf 19).map chD)), []) := by
  refine (ev_body ⟨[], [], [], true, [], noIt⟩ [.tmp 2] rfl Tryd.func81 rfl rfl rfl (by kernel_rfl) (by show 1 ≤ 68; decide) (by kernel_rfl)).trans ?_
  simp +contextual (maxSteps := 10000000) only [↓reduceIte, go_sem, Nat.reduceEqDiff, Nat.reduceAdd, Nat.reduceSub, Nat.reduceMul, Nat.reduceLeDiff, Nat.reduceLT, Nat.reduceBEq, Nat.reduceDiv, Nat.reduceMod, Int.reduceLE, Int.reduceLT, Int.reduceEq, Int.reduceBEq, Int.reduceBNe, Int.reduceAdd, Int.reduceSub, Int.reduceNeg, Int.reduceToNat, Int.reduceMul, Int.reducePow, Nat.reducePow, reduceCtorEq]
  rfl
theorem choices_20 : EV 81 [.sc (.int .u8 20)] [] = some (.ret (.ro false ((codesOf 20).map chD)), []) := by
  refine (ev_body ⟨[], [], [], true, [], noIt⟩ [.tmp 2] rfl Tryd.func81 rfl rfl rfl (by kernel_rfl) (by show 1 ≤ 68; decide) (by kernel_rfl)).trans ?_
  simp +contextual (maxSteps := 10000000) only [↓reduceIte, go_sem, Nat.reduceEqDiff, Nat.reduceAdd, Nat.reduceSub, Nat.reduceMul, Nat.reduceLeDiff, Nat.reduceLT, Nat.reduceBEq, Nat.reduceDiv, Nat.reduceMod, Int.reduceLE, Int.reduceLT, Int.reduceEq, Int.reduceBEq, Int.reduceBNe, Int.reduceAdd, Int.reduceSub, Int.reduceNeg, Int.reduceToNat, Int.reduceMul, Int.reducePow, Nat.reducePow, reduceCtorEq]
  rfl
theorem choices_21 : EV 81 [.sc (.int .u8 21)] [] = some (.ret (.ro false ((codesOf 21).map chD)), []) := by
  refine (ev_body ⟨[], [], [], true, [], noIt⟩ [.tmp 2] rfl Tryd.func81 rfl rfl rfl (by kernel_rfl) (by show 1 ≤ 68; decide) (by kernel_rfl)).trans ?_
  simp +contextual (maxSteps := 10000000) only [↓reduceIte, go_sem, Nat.reduceEqDiff, Nat.reduceAdd, Nat.reduceSub, Nat.reduceMul, Nat.reduceLeDiff, Nat.reduceLT, Nat.reduceBEq, Nat.reduceDiv, Nat.reduceMod, Int.reduceLE, Int.reduceLT, Int.reduceEq, Int.reduceBEq, Int.reduceBNe, Int.reduceAdd, Int.reduceSub, Int.reduceNeg, Int.reduceToNat, Int.reduceMul, Int.reducePow, Nat.reducePow, reduceCtorEq]
  rfl
theorem choices_22 : EV 81 [.sc (.int .u8 22)] [] = some (.ret (.ro false ((codesOf 22).map chD)), []) := by
  refine (ev_body ⟨[], [], [], true, [], noIt⟩ [.tmp 2] rfl Tryd.func81 rfl rfl rfl (by kernel_rfl) (by show 1 ≤ 68; decide) (by kernel_rfl)).trans ?_
  simp +contextual (maxSteps := 10000000) only [↓reduceIte, go_sem, Nat.reduceEqDiff, Nat.reduceAdd, Nat.reduceSub, Nat.reduceMul, Nat.reduceLeDiff, Nat.reduceLT, Nat.reduceBEq, Nat.reduceDiv, Nat.reduceMod, Int.reduceLE, Int.reduceLT, Int.reduceEq, Int.reduceBEq, Int.reduceBNe, Int.reduceAdd, Int.reduceSub, Int.reduceNeg, Int.reduceToNat, Int.reduceMul, Int.reducePow, Nat.reducePow, reduceCtorEq]
  rfl
theorem choices_23 : EV 81 [.sc (.int .u8 23)] [] = some (.ret (.ro false ((codesOf 23).map chD)), []) := by
  refine (ev_body ⟨[], [], [], true, [], noIt⟩ [.tmp 2] rfl Tryd.func81 rfl rfl rfl (by kernel_rfl) (by show 1 ≤ 68; decide) (by kernel_rfl)).trans ?_
  simp +contextual (maxSteps := 10000000) only [↓reduceIte, go_sem, Nat.reduceEqDiff, Nat.reduceAdd, Nat.reduceSub, Nat.reduceMul, Nat.reduceLeDiff, Nat.reduceLT, Nat.reduceBEq, Nat.reduceDiv, Nat.reduceMod, Int.reduceLE, Int.reduceLT, Int.reduceEq, Int.reduceBEq, Int.reduceBNe, Int.reduceAdd, Int.reduceSub, Int.reduceNeg, Int.reduceToNat, Int.reduceMul, Int.reducePow, Nat.reducePow, reduceCtorEq]
  rfl
theorem choices_24 : EV 81 [.sc (.int .u8 24)] [] = some (.ret (.ro false ((codesOf 24).map chD)), []) := by
  refine (ev_body ⟨[], [], [], true, [], noIt⟩ [.tmp 2] rfl Tryd.func81 rfl rfl rfl (by kernel_rfl) (by show 1 ≤ 68; decide) (by kernel_rfl)).trans ?_
  simp +contextual (maxSteps := 10000000) only [↓reduceIte, go_sem, Nat.reduceEqDiff, Nat.reduceAdd, Nat.reduceSub, Nat.reduceMul, Nat.reduceLeDiff, Nat.reduceLT, Nat.reduceBEq, Nat.reduceDiv, Nat.reduceMod, Int.reduceLE, Int.reduceLT, Int.reduceEq, Int.reduceBEq, Int.reduceBNe, Int.reduceAdd, Int.reduceSub, Int.reduceNeg, Int.reduceToNat, Int.reduceMul, Int.reducePow, Nat.reducePow, reduceCtorEq]
  rfl
theorem tabS_mem : ∀ (l : List (Int × Int)) (k : Int), tabS l k = 0 ∨ ∃ p ∈ l, p.1 = k ∧ tabS l k = p.2
  | [], k => .inl rfl
  | (a, b) :: r, k => by
    unfold tabS
    by_cases h : a = k
    · rw [if_pos h]; exact .inr ⟨(a, b), List.mem_cons_self .., h, rfl⟩
    · rw [if_neg h]
      rcases tabS_mem r k with h2 | ⟨p, h2, h3⟩
      · exact .inl h2
      · exact .inr ⟨p, List.mem_cons_of_mem _ h2, h3⟩
theorem codeK_fn (k : Int) : fnOf (codeK k) = 105 := by
  rcases tabS_mem codesTab k with h | ⟨p, h1, h2, h3⟩
  · show fnOf (tabS codesTab k) = _; rw [h]; rfl
  · show fnOf (tabS codesTab k) = _; rw [h3]
    have : ∀ p ∈ codesTab, fnOf p.2 = 105 := by decide
    exact this p h1
theorem choices_e (k : Int) (h2 : k ≠ 2) (h5 : k ≠ 5) (h6 : k ≠ 6) (h9 : k ≠ 9) (h10 : k ≠ 10) (h19 : k ≠ 19) (h20 : k ≠ 20) (h21 : k ≠ 21) (h22 : k ≠ 22) (h23 : k ≠ 23) (h24 : k ≠ 24) : EV 81 [.sc (.int .u8 k)] [] = some (.ret (.ro false ((codesOf k).map chD)), []) := by
  have e : codesOf k = [codeK k] := by unfold codesOf; simp only [h2, h5, h6, h9, h10, h19, h20, h21, h22, h23, h24, if_false]
  have b2 : (k == 2) = false := by simpa using h2
  have b5 : (k == 5) = false := by simpa using h5
  have b6 : (k == 6) = false := by simpa using h6
  have b9 : (k == 9) = false := by simpa using h9
  have b10 : (k == 10) = false := by simpa using h10
  have b19 : (k == 19) = false := by simpa using h19
  have b20 : (k == 20) = false := by simpa using h20
  have b21 : (k == 21) = false := by simpa using h21
  have b22 : (k == 22) = false := by simpa using h22
  have b23 : (k == 23) = false := by simpa using h23
  have b24 : (k == 24) = false := by simpa using h24
  rw [e, List.map_cons, List.map_nil, chD, codeK_fn]
  refine (ev_body ⟨[], [], [], true, [], noIt⟩ [.tmp 2] rfl Tryd.func81 rfl rfl rfl (by kernel_rfl) (by show 1 ≤ 68; decide) (by kernel_rfl)).trans ?_
  simp +contextual (maxSteps := 10000000) only [↓reduceIte, go_sem, Nat.reduceEqDiff, Nat.reduceAdd, Nat.reduceSub, Nat.reduceMul, Nat.reduceLeDiff, Nat.reduceLT, Nat.reduceBEq, Nat.reduceDiv, Nat.reduceMod, Int.reduceLE, Int.reduceLT, Int.reduceEq, Int.reduceBEq, Int.reduceBNe, Int.reduceAdd, Int.reduceSub, Int.reduceNeg, Int.reduceToNat, Int.reduceMul, Int.reducePow, Nat.reducePow, reduceCtorEq, b2, b5, b6, b9, b10, b19, b20, b21, b22, b23, b24, look_codes mapT, gl_codes]
theorem choices_c (k : Int) : EV 81 [.sc (.int .u8 k)] [] = some (.ret (.ro false ((codesOf k).map chD)), []) := by
  by_cases h2 : k = 2
  · subst h2; exact choices_2
  by_cases h5 : k = 5
  · subst h5; exact choices_5
  by_cases h6 : k = 6
  · subst h6; exact choices_6
  by_cases h9 : k = 9
  · subst h9; exact choices_9
  by_cases h10 : k = 10
  · subst h10; exact choices_10
  by_cases h19 : k = 19
  · subst h19; exact choices_19
  by_cases h20 : k = 20
  · subst h20; exact choices_20
  by_cases h21 : k = 21
  · subst h21; exact choices_21
  by_cases h22 : k = 22
  · subst h22; exact choices_22
  by_cases h23 : k = 23
  · subst h23; exact choices_23
  by_cases h24 : k = 24
  · subst h24; exact choices_24
  exact choices_e k h2 h5 h6 h9 h10 h19 h20 h21 h22 h23 h24
theorem f_one (v : Val) : EV 103 [v.d] [] = some (.ret (B (v.num == 1)), []) := by
  refine (ev_body ⟨[1], [], [], false, [], noIt⟩ [.tmp 2] rfl Tryd.func103 rfl rfl rfl (by kernel_rfl) (by show 1 ≤ 6; decide) (by kernel_rfl)).trans ?_
  simp +contextual (maxSteps := 10000000) only [↓reduceIte, go_sem, Nat.reduceEqDiff, Nat.reduceAdd, Nat.reduceSub, Nat.reduceMul, Nat.reduceLeDiff, Nat.reduceLT, Nat.reduceBEq, Nat.reduceDiv, Nat.reduceMod, Int.reduceLE, Int.reduceLT, Int.reduceEq, Int.reduceBEq, Int.reduceBNe, Int.reduceAdd, Int.reduceSub, Int.reduceNeg, Int.reduceToNat, Int.reduceMul, Int.reducePow, Nat.reducePow, reduceCtorEq]
theorem f_nought (v : Val) : EV 104 [v.d] [] = some (.ret (B (v.num == 0)), []) := by
  refine (ev_body ⟨[1], [], [], false, [], noIt⟩ [.tmp 2] rfl Tryd.func104 rfl rfl rfl (by kernel_rfl) (by show 1 ≤ 6; decide) (by kernel_rfl)).trans ?_
  simp +contextual (maxSteps := 10000000) only [↓reduceIte, go_sem, Nat.reduceEqDiff, Nat.reduceAdd, Nat.reduceSub, Nat.reduceMul, Nat.reduceLeDiff, Nat.reduceLT, Nat.reduceBEq, Nat.reduceDiv, Nat.reduceMod, Int.reduceLE, Int.reduceLT, Int.reduceEq, Int.reduceBEq, Int.reduceBNe, Int.reduceAdd, Int.reduceSub, Int.reduceNeg, Int.reduceToNat, Int.reduceMul, Int.reducePow, Nat.reducePow, reduceCtorEq]
theorem f_all (v : Val) : EV 105 [v.d] [] = some (.ret (B true), []) := by
  refine (ev_body ⟨[1], [], [], false, [], noIt⟩ [.tmp 2] rfl Tryd.func105 rfl rfl rfl (by kernel_rfl) (by show 1 ≤ 3; decide) (by kernel_rfl)).trans ?_
  simp +contextual (maxSteps := 10000000) only [↓reduceIte, go_sem, Nat.reduceEqDiff, Nat.reduceAdd, Nat.reduceSub, Nat.reduceMul, Nat.reduceLeDiff, Nat.reduceLT, Nat.reduceBEq, Nat.reduceDiv, Nat.reduceMod, Int.reduceLE, Int.reduceLT, Int.reduceEq, Int.reduceBEq, Int.reduceBNe, Int.reduceAdd, Int.reduceSub, Int.reduceNeg, Int.reduceToNat, Int.reduceMul, Int.reducePow, Nat.reducePow, reduceCtorEq]
theorem f_byte (v : Val) : EV 106 [v.d] [] = some (.ret (B (decide (v.num ≤ 255))), []) := by
  refine (ev_body ⟨[1], [], [], false, [], noIt⟩ [.tmp 2] rfl Tryd.func106 rfl rfl rfl (by kernel_rfl) (by show 1 ≤ 6; decide) (by kernel_rfl)).trans ?_
  simp +contextual (maxSteps := 10000000) only [↓reduceIte, go_sem, Nat.reduceEqDiff, Nat.reduceAdd, Nat.reduceSub, Nat.reduceMul, Nat.reduceLeDiff, Nat.reduceLT, Nat.reduceBEq, Nat.reduceDiv, Nat.reduceMod, Int.reduceLE, Int.reduceLT, Int.reduceEq, Int.reduceBEq, Int.reduceBNe, Int.reduceAdd, Int.reduceSub, Int.reduceNeg, Int.reduceToNat, Int.reduceMul, Int.reducePow, Nat.reducePow, reduceCtorEq]
theorem f_signed (v : Val) : EV 107 [v.d] [] = some (.ret (B (sgn8 v.num)), []) := by
  refine (ev_body ⟨[1], [], [], false, [], noIt⟩ [.tmp 2] rfl Tryd.func107 rfl rfl rfl (by kernel_rfl) (by show 1 ≤ 11; decide) (by kernel_rfl)).trans ?_
  have e : IntKind.i64.wrap (IntKind.i8.wrap v.num) = IntKind.i8.wrap v.num := by
    have := wrap_i8_eq v.num
    apply wrap_i64 <;> (rw [this]; split <;> omega)
  simp +contextual (maxSteps := 10000000) only [↓reduceIte, go_sem, Nat.reduceEqDiff, Nat.reduceAdd, Nat.reduceSub, Nat.reduceMul, Nat.reduceLeDiff, Nat.reduceLT, Nat.reduceBEq, Nat.reduceDiv, Nat.reduceMod, Int.reduceLE, Int.reduceLT, Int.reduceEq, Int.reduceBEq, Int.reduceBNe, Int.reduceAdd, Int.reduceSub, Int.reduceNeg, Int.reduceToNat, Int.reduceMul, Int.reducePow, Nat.reducePow, reduceCtorEq, e, sgn8]
theorem f_short (v : Val) : EV 108 [v.d] [] = some (.ret (B (decide (v.text.size ≤ 255))), []) := by
  have e : decide ((v.text.size : Int) ≤ 255) = decide (v.text.size ≤ 255) := decide_eq_decide.2 (by omega)
  refine (ev_body ⟨[1], [], [], false, [], noIt⟩ [.tmp 2] rfl Tryd.func108 rfl rfl rfl (by kernel_rfl) (by show 1 ≤ 7; decide) (by kernel_rfl)).trans ?_
  simp +contextual (maxSteps := 10000000) only [↓reduceIte, go_sem, Nat.reduceEqDiff, Nat.reduceAdd, Nat.reduceSub, Nat.reduceMul, Nat.reduceLeDiff, Nat.reduceLT, Nat.reduceBEq, Nat.reduceDiv, Nat.reduceMod, Int.reduceLE, Int.reduceLT, Int.reduceEq, Int.reduceBEq, Int.reduceBNe, Int.reduceAdd, Int.reduceSub, Int.reduceNeg, Int.reduceToNat, Int.reduceMul, Int.reducePow, Nat.reducePow, reduceCtorEq, e]
theorem f_none (v : Val) : EV 109 [v.d] [] = some (.ret (B (decide (v.kids.length = 0))), []) := by
  have e : ((v.kids.length : Int) == 0) = decide (v.kids.length = 0) := by rw [Bool.eq_iff_iff]; simp only [beq_iff_eq, decide_eq_true_eq]; omega
  refine (ev_body ⟨[1], [], [], false, [], noIt⟩ [.tmp 2] rfl Tryd.func109 rfl rfl rfl (by kernel_rfl) (by show 1 ≤ 7; decide) (by kernel_rfl)).trans ?_
  simp +contextual (maxSteps := 10000000) only [↓reduceIte, go_sem, Nat.reduceEqDiff, Nat.reduceAdd, Nat.reduceSub, Nat.reduceMul, Nat.reduceLeDiff, Nat.reduceLT, Nat.reduceBEq, Nat.reduceDiv, Nat.reduceMod, Int.reduceLE, Int.reduceLT, Int.reduceEq, Int.reduceBEq, Int.reduceBNe, Int.reduceAdd, Int.reduceSub, Int.reduceNeg, Int.reduceToNat, Int.reduceMul, Int.reducePow, Nat.reducePow, reduceCtorEq, e]
theorem of_c (p n : Int) : EV 118 [I p, I n] [] = some (.ret (.sc (.complex .f64 (FloatKind.f64.nearest p) (FloatKind.f64.nearest n))), []) := by
  refine (ev_body ⟨[], [], [], false, [], noIt⟩ [.tmp 4] rfl Tryd.func118 rfl rfl rfl (by kernel_rfl) (by show 2 ≤ 10; decide) (by kernel_rfl)).trans ?_
  simp +contextual (maxSteps := 10000000) only [↓reduceIte, go_sem, Nat.reduceEqDiff, Nat.reduceAdd, Nat.reduceSub, Nat.reduceMul, Nat.reduceLeDiff, Nat.reduceLT, Nat.reduceBEq, Nat.reduceDiv, Nat.reduceMod, Int.reduceLE, Int.reduceLT, Int.reduceEq, Int.reduceBEq, Int.reduceBNe, Int.reduceAdd, Int.reduceSub, Int.reduceNeg, Int.reduceToNat, Int.reduceMul, Int.reducePow, Nat.reducePow, reduceCtorEq, conv_i2f Tryd.underlying3 Tryd.underlying122, complex_b]
theorem cmp_lt (n m : Int) : (some (compare n m) == some Ordering.lt) = decide (n < m) := by
  simp only [compare, compareOfLessAndEq]
  by_cases h : n < m
  · simp [h]
  · by_cases h2 : n = m
    · simp [h, h2]
    · simp [h, h2]
theorem cmp_le (n m : Int) : (some (compare n m) == some Ordering.lt || some (compare n m) == some Ordering.eq) = decide (n ≤ m) := by
  simp only [compare, compareOfLessAndEq]
  by_cases h : n < m
  · simp [h]; omega
  · by_cases h2 : n = m
    · simp [h2]
    · simp [h, h2]; omega
theorem small_c (p n : Int) (h0 : 0 ≤ p) (h1 : p < 9007199254740992) (k0 : 0 ≤ n) (k1 : n < 9007199254740992) : EV 119 [.sc (.complex .f64 (FloatKind.f64.nearest p) (FloatKind.f64.nearest n))] [] = some (.ret (B (decide (p ≤ 255) && decide (n < 255))), []) := by
  have a1 := order_near p 255 h0 h1 (by omega) (by omega)
  have a2 := order_near n 255 k0 k1 (by omega) (by omega)
  rw [near_255] at a1 a2
  have c1 := cmp_le p 255
  have c2 := cmp_lt n 255
  rw [← a1] at c1
  rw [← a2] at c2
  refine (ev_body ⟨[], [], [], false, [], noIt⟩ [.tmp 2] rfl Tryd.func119 rfl rfl rfl (by kernel_rfl) (by show 1 ≤ 11; decide) (by kernel_rfl)).trans ?_
  simp +contextual (maxSteps := 10000000) only [↓reduceIte, go_sem, Nat.reduceEqDiff, Nat.reduceAdd, Nat.reduceSub, Nat.reduceMul, Nat.reduceLeDiff, Nat.reduceLT, Nat.reduceBEq, Nat.reduceDiv, Nat.reduceMod, Int.reduceLE, Int.reduceLT, Int.reduceEq, Int.reduceBEq, Int.reduceBNe, Int.reduceAdd, Int.reduceSub, Int.reduceNeg, Int.reduceToNat, Int.reduceMul, Int.reducePow, Nat.reducePow, reduceCtorEq, real_b, imag_b, fleq_b Tryd.underlying122, flss_b Tryd.underlying122, c1, c2, pick_and]
/-- what stands inside, as it is handed back -/
def insR (s : ByteArray) : R × Sto := if s.size = 0 then (.ret .nils, []) else (.ret (.ref 0 0 1 0 s.size), [some ⟨0, bytesD s⟩])
/-- what inside answers: bytes in new memory, or a constant byte -/
def InsC (v : Val) (s : ByteArray) : Prop := EV 80 [v.d] [] = some (insR s) ∨ EV 80 [v.d] [] = some (.ret (.ro true (bytesD s)), [])
theorem f_few (v : Val) (s : ByteArray) (hs : s.size ≤ 45000000) (hk : v.kids.length ≤ 4000000) (h : InsC v s) : EV 110 [v.d] [] = some (.ret (B (decide (v.kids.length ≤ 255) && decide (s.size < 255))), []) := by
  have hc := small_c v.kids.length s.size (by omega) (by omega) (by omega) (by omega)
  have e1 : decide ((v.kids.length : Int) ≤ 255) = decide (v.kids.length ≤ 255) := decide_eq_decide.2 (by omega)
  have e2 : decide ((s.size : Int) < 255) = decide (s.size < 255) := decide_eq_decide.2 (by omega)
  rw [e1, e2] at hc
  refine (ev_body ⟨[1], [], [(1, [(3, 0, false), (4, 0, true), (0, 0, false), (1, 0, false), (2, 0, false), (5, 1, false), (6, 1, false), (7, 0, false), (8, 1, false)])], false, [], noIt⟩ [.tmp 2] rfl Tryd.func110 rfl rfl rfl (by kernel_rfl) (by show 1 ≤ 11; decide) (by kernel_rfl)).trans ?_
  rcases h with h | h
  · unfold insR at h
    by_cases h0 : s.size = 0
    · rw [if_pos h0] at h
      rw [h0] at hc
      simp only [Int.natCast_zero, Int.cast_ofNat_Int] at hc
      simp +contextual (maxSteps := 10000000) only [↓reduceIte, go_sem, Nat.reduceEqDiff, Nat.reduceAdd, Nat.reduceSub, Nat.reduceMul, Nat.reduceLeDiff, Nat.reduceLT, Nat.reduceBEq, Nat.reduceDiv, Nat.reduceMod, Int.reduceLE, Int.reduceLT, Int.reduceEq, Int.reduceBEq, Int.reduceBNe, Int.reduceAdd, Int.reduceSub, Int.reduceNeg, Int.reduceToNat, Int.reduceMul, Int.reducePow, Nat.reducePow, reduceCtorEq, h, of_c, hc, h0]
    · rw [if_neg h0] at h
      simp +contextual (maxSteps := 10000000) only [↓reduceIte, go_sem, Nat.reduceEqDiff, Nat.reduceAdd, Nat.reduceSub, Nat.reduceMul, Nat.reduceLeDiff, Nat.reduceLT, Nat.reduceBEq, Nat.reduceDiv, Nat.reduceMod, Int.reduceLE, Int.reduceLT, Int.reduceEq, Int.reduceBEq, Int.reduceBNe, Int.reduceAdd, Int.reduceSub, Int.reduceNeg, Int.reduceToNat, Int.reduceMul, Int.reducePow, Nat.reducePow, reduceCtorEq, h, of_c, hc]
  · simp +contextual (maxSteps := 10000000) only [↓reduceIte, go_sem, Nat.reduceEqDiff, Nat.reduceAdd, Nat.reduceSub, Nat.reduceMul, Nat.reduceLeDiff, Nat.reduceLT, Nat.reduceBEq, Nat.reduceDiv, Nat.reduceMod, Int.reduceLE, Int.reduceLT, Int.reduceEq, Int.reduceBEq, Int.reduceBNe, Int.reduceAdd, Int.reduceSub, Int.reduceNeg, Int.reduceToNat, Int.reduceMul, Int.reducePow, Nat.reducePow, reduceCtorEq, h, of_c, hc]
end Go.Bw.R1

namespace Go.Bw.R1
set_option maxRecDepth 5000
open Go Go.Bw Go.Proofs
theorem fit_c (v : Val) (hv : v.sz ≤ 4000000) (hk : v.kind ≠ 25) (c : Int) (hin : c = 192 ∨ c = 193 ∨ c = 224 → InsC v (insS v)) : EV (fnOf c) [v.d] [] = some (.ret (B (fitS c (shV v))), []) := by
  have hl := szL_len v.kids
  have hz := Val.sz_eq v
  have hi := ins_sz v
  rw [sh_ne hk] at hi ⊢
  simp only at hi
  unfold fnOf fitS
  simp only
  by_cases h1 : c = 65
  · rw [if_pos h1, if_pos h1]; exact f_one v
  rw [if_neg h1, if_neg h1]
  by_cases h2 : c = 66 ∨ c = 67 ∨ c = 68
  · rw [if_pos h2, if_pos h2]; exact f_nought v
  rw [if_neg h2, if_neg h2]
  by_cases h3 : c = 69
  · rw [if_pos h3, if_pos h3]; exact f_none v
  rw [if_neg h3, if_neg h3]
  by_cases h4 : c = 82 ∨ c = 83
  · rw [if_pos h4, if_pos h4]; exact f_byte v
  rw [if_neg h4, if_neg h4]
  by_cases h5 : c = 84 ∨ c = 85
  · rw [if_pos h5, if_pos h5]; exact f_signed v
  rw [if_neg h5, if_neg h5]
  by_cases h6 : c = 160 ∨ c = 161 ∨ c = 163
  · rw [if_pos h6, if_pos h6]; exact f_short v
  rw [if_neg h6, if_neg h6]
  by_cases h7 : c = 192 ∨ c = 193 ∨ c = 224
  · rw [if_pos h7, if_pos h7]; exact f_few v _ (by omega) (by omega) (hin h7)
  rw [if_neg h7, if_neg h7]; exact f_all v
theorem all_take {α : Type} {p : α → Bool} {l : List α} {i : Nat} {x : α} (h : l[i]? = some x) : (l.take (i + 1)).all p = ((l.take i).all p && p x) := by
  rw [take_snoc h, List.all_append]; simp
theorem codesOf_len (k : Int) : (codesOf k).length ≤ 3 := by unfold codesOf; repeat' split
                                                             all_goals simp
theorem ch_refs (cs : List Int) : D.refsL (cs.map chD) = [] := refsL_map (fun _ => rfl) cs
theorem ch_can (cs : List Int) : D.canL (cs.map chD) = cs.map chD := by
  rw [D.canL_map, List.map_map]; rfl
attribute [go_sem] ch_refs ch_can
set_option maxHeartbeats 2000000 in
theorem code_c (l : List Val) (v : Val) (hv : l[0]? = some v) (hl : l.length ≤ 4000000) (hf : ∀ x ∈ l, ∀ c ∈ codesOf v.kind, EV (fnOf c) [x.d] [] = some (.ret (B (fitS c (shV x))), [])) (hk : v.kind ≠ 25) : EV 59 [.ro false (l.map Val.d)] [] = some (.ret (.sc (.int .u8 (codeOf (l.map shV)))), []) := by
  have h0 : (l.map Val.d)[0]? = some v.d := by rw [List.getElem?_map, hv]; rfl
  have hkd : (List.headD (l.map shV) default).kind = v.kind := by
    cases l with
    | nil => simp at hv
    | cons a r => simp at hv; subst hv; show (shV a).kind = _; rw [sh_ne hk]
  have hco : codeOf (l.map shV) = ((codesOf v.kind).find? fun c => (l.map shV).all (fitS c)).getD 0 := by unfold codeOf; rw [hkd]
  rw [hco]
  obtain ⟨cs, hcs⟩ : ∃ cs, cs = codesOf v.kind := ⟨_, rfl⟩
  have hlen := codesOf_len v.kind
  have hch := choices_c v.kind
  rw [← hcs] at hf hlen hch ⊢
  refine (ev_body ⟨[], [(0, [0, 12, 13, 14]), (2, [0, 4, 5, 12, 13, 14, 18, 19, 20])], [], false, [], noIt⟩ [.tmp 2] rfl Tryd.func59 rfl rfl rfl (by kernel_rfl) (by show 1 ≤ 36; decide) (by kernel_rfl)).trans ?_
  simp +contextual (maxSteps := 10000000) only [↓reduceIte, go_sem, Nat.reduceEqDiff, Nat.reduceAdd, Nat.reduceSub, Nat.reduceMul, Nat.reduceLeDiff, Nat.reduceLT, Nat.reduceBEq, Nat.reduceDiv, Nat.reduceMod, Int.reduceLE, Int.reduceLT, Int.reduceEq, Int.reduceBEq, Int.reduceBNe, Int.reduceAdd, Int.reduceSub, Int.reduceNeg, Int.reduceToNat, Int.reduceMul, Int.reducePow, Nat.reducePow, reduceCtorEq, h0, hch]
  refine lpK_inv (fun m f es => ∃ (i : Nat) (j : Int), j = i ∧ m + i = cs.length ∧ (cs.find? fun c => (l.map shV).all (fitS c)).getD 0 = ((cs.drop i).find? fun c => (l.map shV).all (fitS c)).getD 0 ∧ f = [(0, .ro false (l.map Val.d)), (12, .ro false (cs.map chD)), (13, I cs.length), (14, I j)] ∧ es = []) cs.length ⟨0, _, rfl, by omega, rfl, rfl, rfl⟩ ?_
  rintro m _ _ ⟨i, _, rfl, hi, hfi, rfl, rfl⟩ ih
  cases m with
  | zero =>
    have hlt : decide ((i : Int) < cs.length) = false := by simp; omega
    obtain rfl : i = cs.length := by omega
    rw [List.drop_length] at hfi
    simp +contextual (maxSteps := 10000000) only [↓reduceIte, go_sem, Nat.reduceEqDiff, Nat.reduceAdd, Nat.reduceSub, Nat.reduceMul, Nat.reduceLeDiff, Nat.reduceLT, Nat.reduceBEq, Nat.reduceDiv, Nat.reduceMod, Int.reduceLE, Int.reduceLT, Int.reduceEq, Int.reduceBEq, Int.reduceBNe, Int.reduceAdd, Int.reduceSub, Int.reduceNeg, Int.reduceToNat, Int.reduceMul, Int.reducePow, Nat.reducePow, reduceCtorEq, hlt]
    rw [hfi]; rfl
  | succ m =>
    obtain ⟨c, hc⟩ := get_lt (l := cs) (i := i) (by omega)
    have hcm := List.mem_of_getElem? hc
    have hlt : decide ((i : Int) < cs.length) = true := by simp; omega
    have hix : (cs.map chD)[i]? = some (.agg [.sc (.int .u8 c), .fn (.func (fnOf c)) [] []]) := by rw [List.getElem?_map, hc]; rfl
    have hdr : cs.drop i = c :: cs.drop (i + 1) := by
      obtain ⟨p, q⟩ := List.getElem?_eq_some_iff.1 hc
      rw [List.drop_eq_getElem_cons p, q]
    rw [hdr] at hfi
    simp +contextual (maxSteps := 10000000) only [↓reduceIte, go_sem, Nat.reduceEqDiff, Nat.reduceAdd, Nat.reduceSub, Nat.reduceMul, Nat.reduceLeDiff, Nat.reduceLT, Nat.reduceBEq, Nat.reduceDiv, Nat.reduceMod, Int.reduceLE, Int.reduceLT, Int.reduceEq, Int.reduceBEq, Int.reduceBNe, Int.reduceAdd, Int.reduceSub, Int.reduceNeg, Int.reduceToNat, Int.reduceMul, Int.reducePow, Nat.reducePow, reduceCtorEq, hix, hlt]
    refine lpK_inv (fun m f es => ∃ (p : Nat) (j : Int) (b : Bool), j = p ∧ m + p = l.length ∧ b = ((l.take p).map shV).all (fitS c) ∧ f = [(0, .ro false (l.map Val.d)), (4, .ptr 0 0 0), (5, B b), (12, .ro false (cs.map chD)), (13, I cs.length), (14, I i), (18, .ro false (l.map Val.d)), (19, I l.length), (20, I j)] ∧ es = [some ⟨0, [.sc (.int .u8 c), .fn (.func (fnOf c)) [] []]⟩]) l.length ⟨0, _, _, rfl, by omega, rfl, rfl, rfl⟩ ?_
    rintro q _ _ ⟨p, _, _, rfl, hp, rfl, rfl, rfl⟩ ih2
    cases q with
    | succ q =>
      obtain ⟨x, hx⟩ := get_lt (l := l) (i := p) (by omega)
      have hlt2 : decide ((p : Int) < l.length) = true := by simp; omega
      have hpx : (l.map Val.d)[p]? = some x.d := by rw [List.getElem?_map, hx]; rfl
      have hfx := hf x (List.mem_of_getElem? hx) c hcm
      have hnx : ((l.take (p + 1)).map shV).all (fitS c) = (((l.take p).map shV).all (fitS c) && fitS c (shV x)) := by
        rw [List.map_take, all_take (x := shV x) (by rw [List.getElem?_map, hx]; rfl), List.map_take]
      generalize ((l.take p).map shV).all (fitS c) = b at hnx ⊢
      cases b with
      | true =>
        simp +contextual (maxSteps := 10000000) only [↓reduceIte, go_sem, Nat.reduceEqDiff, Nat.reduceAdd, Nat.reduceSub, Nat.reduceMul, Nat.reduceLeDiff, Nat.reduceLT, Nat.reduceBEq, Nat.reduceDiv, Nat.reduceMod, Int.reduceLE, Int.reduceLT, Int.reduceEq, Int.reduceBEq, Int.reduceBNe, Int.reduceAdd, Int.reduceSub, Int.reduceNeg, Int.reduceToNat, Int.reduceMul, Int.reducePow, Nat.reducePow, reduceCtorEq, hpx, hlt2, hfx, wrap_i64 (n := (p : Int) + 1) (by omega) (by omega)]
        exact ih2 q _ _ (by omega) ⟨p + 1, (p : Int) + 1, _, by omega, by omega, by rw [hnx]; rfl, rfl, rfl⟩
      | false =>
        simp +contextual (maxSteps := 10000000) only [↓reduceIte, go_sem, Nat.reduceEqDiff, Nat.reduceAdd, Nat.reduceSub, Nat.reduceMul, Nat.reduceLeDiff, Nat.reduceLT, Nat.reduceBEq, Nat.reduceDiv, Nat.reduceMod, Int.reduceLE, Int.reduceLT, Int.reduceEq, Int.reduceBEq, Int.reduceBNe, Int.reduceAdd, Int.reduceSub, Int.reduceNeg, Int.reduceToNat, Int.reduceMul, Int.reducePow, Nat.reducePow, reduceCtorEq, hpx, hlt2, wrap_i64 (n := (p : Int) + 1) (by omega) (by omega)]
        exact ih2 q _ _ (by omega) ⟨p + 1, (p : Int) + 1, _, by omega, by omega, by rw [hnx]; rfl, rfl, rfl⟩
    | zero =>
      have hlt2 : decide ((p : Int) < l.length) = false := by simp; omega
      obtain rfl : p = l.length := by omega
      rw [List.take_length]
      cases hb : (l.map shV).all (fitS c) with
      | true =>
        simp only [List.find?_cons, hb] at hfi
        simp +contextual (maxSteps := 10000000) only [↓reduceIte, go_sem, Nat.reduceEqDiff, Nat.reduceAdd, Nat.reduceSub, Nat.reduceMul, Nat.reduceLeDiff, Nat.reduceLT, Nat.reduceBEq, Nat.reduceDiv, Nat.reduceMod, Int.reduceLE, Int.reduceLT, Int.reduceEq, Int.reduceBEq, Int.reduceBNe, Int.reduceAdd, Int.reduceSub, Int.reduceNeg, Int.reduceToNat, Int.reduceMul, Int.reducePow, Nat.reducePow, reduceCtorEq, hlt2]
        rw [hfi]; rfl
      | false =>
        simp only [List.find?_cons, hb] at hfi
        simp +contextual (maxSteps := 10000000) only [↓reduceIte, go_sem, Nat.reduceEqDiff, Nat.reduceAdd, Nat.reduceSub, Nat.reduceMul, Nat.reduceLeDiff, Nat.reduceLT, Nat.reduceBEq, Nat.reduceDiv, Nat.reduceMod, Int.reduceLE, Int.reduceLT, Int.reduceEq, Int.reduceBEq, Int.reduceBNe, Int.reduceAdd, Int.reduceSub, Int.reduceNeg, Int.reduceToNat, Int.reduceMul, Int.reducePow, Nat.reducePow, reduceCtorEq, hlt2, wrap_i64 (n := (i : Int) + 1) (by omega) (by omega)]
        exact ih m _ _ (by omega) ⟨i + 1, (i : Int) + 1, by omega, by omega, hfi, rfl, rfl⟩
end Go.Bw.R1

namespace Go.Bw.R1
set_option maxRecDepth 5000
open Go Go.Bw Go.Proofs
theorem and1_4 : andB .u8 4 1 = 0 := by decide
theorem and1_5 : andB .u8 5 1 = 1 := by decide
theorem and1_6 : andB .u8 6 1 = 0 := by decide
theorem and1_7 : andB .u8 7 1 = 1 := by decide
theorem and1_8 : andB .u8 8 1 = 0 := by decide
theorem and1_9 : andB .u8 9 1 = 1 := by decide
theorem and1_10 : andB .u8 10 1 = 0 := by decide
theorem and1_11 : andB .u8 11 1 = 1 := by decide
theorem and1_12 : andB .u8 12 1 = 0 := by decide
theorem and1_13 : andB .u8 13 1 = 1 := by decide
theorem and1_14 : andB .u8 14 1 = 0 := by decide
theorem and1_15 : andB .u8 15 1 = 1 := by decide
attribute [go_sem] and1_4 and1_5 and1_6 and1_7 and1_8 and1_9 and1_10 and1_11 and1_12 and1_13 and1_14 and1_15
section
variable (b : ByteArray) (c : Int) (v : Val)
theorem data_4 (hq : c.fdiv 16 = 4) : EV 57 [.ref 0 0 1 0 b.size, .sc (.int .u8 c), v.d] [some ⟨0, bytesD b⟩] = some (.ret (.ref 0 1 1 0 b.size), [some ⟨1, bytesD b⟩]) := by
  refine (ev_body ⟨[5], [(4000000, [])], [], false, [], noIt⟩ [.tmp 6] rfl Tryd.func57 rfl rfl rfl (by kernel_rfl) (by show 3 ≤ 78; decide) (by kernel_rfl)).trans ?_
  simp +contextual (maxSteps := 10000000) only [↓reduceIte, go_sem, Nat.reduceEqDiff, Nat.reduceAdd, Nat.reduceSub, Nat.reduceMul, Nat.reduceLeDiff, Nat.reduceLT, Nat.reduceBEq, Nat.reduceDiv, Nat.reduceMod, Int.reduceLE, Int.reduceLT, Int.reduceEq, Int.reduceBEq, Int.reduceBNe, Int.reduceAdd, Int.reduceSub, Int.reduceNeg, Int.reduceToNat, Int.reduceMul, Int.reducePow, Nat.reducePow, reduceCtorEq, hq]
theorem data_n (h0 : b.size ≠ 0) (q : Int) (w : Nat) (hqw : q = 5 ∧ w = 1 ∨ q = 6 ∧ w = 2 ∨ q = 7 ∧ w = 4 ∨ q = 8 ∧ w = 8) (hb : b.size ≤ 45000000) (hq : c.fdiv 16 = q) (ht : v.text = ⟨#[]⟩) : EV 57 [.ref 0 0 1 0 b.size, .sc (.int .u8 c), v.d] [some ⟨0, bytesD b⟩] = some (.ret (.ref 0 1 1 0 (b.size + w)), [some ⟨1, bytesD (b ++ be w v.num)⟩]) := by
  have hw : wOk w := by unfold wOk; omega
  have hl := lay_ref w hw b v.num h0 (by omega)
  refine (ev_body ⟨[5], [(4000000, [])], [], false, [], noIt⟩ [.tmp 6] rfl Tryd.func57 rfl rfl rfl (by kernel_rfl) (by show 3 ≤ 78; decide) (by kernel_rfl)).trans ?_
  rcases hqw with ⟨rfl, rfl⟩ | ⟨rfl, rfl⟩ | ⟨rfl, rfl⟩ | ⟨rfl, rfl⟩
  all_goals simp only [Int.cast_ofNat_Int] at hl
  all_goals simp +contextual (maxSteps := 10000000) only [↓reduceIte, go_sem, Nat.reduceEqDiff, Nat.reduceAdd, Nat.reduceSub, Nat.reduceMul, Nat.reduceLeDiff, Nat.reduceLT, Nat.reduceBEq, Nat.reduceDiv, Nat.reduceMod, Int.reduceLE, Int.reduceLT, Int.reduceEq, Int.reduceBEq, Int.reduceBNe, Int.reduceAdd, Int.reduceSub, Int.reduceNeg, Int.reduceToNat, Int.reduceMul, Int.reducePow, Nat.reducePow, reduceCtorEq, hq, ht, hl]
theorem data_t (q : Int) (hqw : q = 5 ∨ q = 6 ∨ q = 7 ∨ q = 8 ∨ q = 9) (hb : b.size + v.text.size ≤ 100000000) (hq : c.fdiv 16 = q) (ht : ¬ v.text = ⟨#[]⟩) : EV 57 [.ref 0 0 1 0 b.size, .sc (.int .u8 c), v.d] [some ⟨0, bytesD b⟩] = some (.ret (.ref 0 1 1 0 (b.size + v.text.size)), [some ⟨1, bytesD (b ++ v.text)⟩]) := by
  have hz : (v.text.size = 0) = False := by
    simp only [eq_iff_iff, iff_false]; intro h
    exact ht (ByteArray.ext (Array.eq_empty_of_size_eq_zero h))
  refine (ev_body ⟨[5], [(4000000, [])], [], false, [], noIt⟩ [.tmp 6] rfl Tryd.func57 rfl rfl rfl (by kernel_rfl) (by show 3 ≤ 78; decide) (by kernel_rfl)).trans ?_
  rcases hqw with rfl | rfl | rfl | rfl | rfl
  all_goals simp +contextual (maxSteps := 10000000) only [↓reduceIte, go_sem, Nat.reduceEqDiff, Nat.reduceAdd, Nat.reduceSub, Nat.reduceMul, Nat.reduceLeDiff, Nat.reduceLT, Nat.reduceBEq, Nat.reduceDiv, Nat.reduceMod, Int.reduceLE, Int.reduceLT, Int.reduceEq, Int.reduceBEq, Int.reduceBNe, Int.reduceAdd, Int.reduceSub, Int.reduceNeg, Int.reduceToNat, Int.reduceMul, Int.reducePow, Nat.reducePow, reduceCtorEq, hq, ht, hz, sz_le hb, bytesD_one]
theorem data_p (h0 : b.size ≠ 0) (q : Int) (w : Nat) (hqw : q = 10 ∧ w = 1 ∧ v.text.size ≤ 255 ∨ q = 11 ∧ w = 4) (hb : b.size ≤ 49000000) (ht : v.text.size ≤ 49000000) (hq : c.fdiv 16 = q) : EV 57 [.ref 0 0 1 0 b.size, .sc (.int .u8 c), v.d] [some ⟨0, bytesD b⟩] = some (.ret (.ref 0 1 1 0 (b.size + w + v.text.size)), [some ⟨1, bytesD (b ++ be w v.text.size ++ v.text)⟩]) := by
  have hl := layp_ref w b v.text h0 hb ht (by omega)
  refine (ev_body ⟨[5], [(4000000, [])], [], false, [], noIt⟩ [.tmp 6] rfl Tryd.func57 rfl rfl rfl (by kernel_rfl) (by show 3 ≤ 78; decide) (by kernel_rfl)).trans ?_
  rcases hqw with ⟨rfl, rfl, hs⟩ | ⟨rfl, rfl⟩
  all_goals simp only [Int.cast_ofNat_Int] at hl
  all_goals simp +contextual (maxSteps := 10000000) only [↓reduceIte, go_sem, Nat.reduceEqDiff, Nat.reduceAdd, Nat.reduceSub, Nat.reduceMul, Nat.reduceLeDiff, Nat.reduceLT, Nat.reduceBEq, Nat.reduceDiv, Nat.reduceMod, Int.reduceLE, Int.reduceLT, Int.reduceEq, Int.reduceBEq, Int.reduceBNe, Int.reduceAdd, Int.reduceSub, Int.reduceNeg, Int.reduceToNat, Int.reduceMul, Int.reducePow, Nat.reducePow, reduceCtorEq, hq, hl]
theorem lenW {n : Nat} (h : n ≤ 4000000) : IntKind.u64.wrap (n : Int) = n := fit_u64 (by omega) (by omega)
theorem data_k (h0 : b.size ≠ 0) (q : Int) (w : Nat) (hqw : q = 12 ∧ w = 1 ∨ q = 13 ∧ w = 4 ∨ q = 14 ∧ w = 1 ∨ q = 15 ∧ w = 4) (s : ByteArray) (hin : InsC v s) (hb : b.size ≤ 45000000) (hs : s.size ≤ 45000000) (h1 : w = 1 → s.size < 255)
    (hk : v.kids.length ≤ 4000000) (hq : c.fdiv 16 = q) : EV 57 [.ref 0 0 1 0 b.size, .sc (.int .u8 c), v.d] [some ⟨0, bytesD b⟩] = some (.ret (.ref 0 1 1 0 (b.size + w + (w + s.size))), [some ⟨1, bytesD (b ++ be w (w + s.size : Nat) ++ (be w v.kids.length ++ s))⟩]) := by
  have hw : wOk w := by unfold wOk; omega
  have hn := lay_nils w hw v.kids.length
  have hsz : (be w v.kids.length ++ s).size = w + s.size := by rw [ByteArray.size_append, be_size hw]
  have hl := layp_ref w b (be w v.kids.length ++ s) h0 (by omega) (by omega) (by omega)
  have hlw := lenW hk
  have hbs := be_size hw v.kids.length
  have hq2 : w + s.size ≤ 100000000 := by omega
  rw [hsz] at hl
  refine (ev_body ⟨[5], [(4000000, [])], [], false, [], noIt⟩ [.tmp 6] rfl Tryd.func57 rfl rfl rfl (by kernel_rfl) (by show 3 ≤ 78; decide) (by kernel_rfl)).trans ?_
  rcases hin with hin | hin
  case inr =>
    by_cases hz : s.size = 0
    · have hs0 : be w v.kids.length ++ s = be w v.kids.length := bytes_nil hz _
      rw [hs0, hz] at hl ⊢
      rcases hqw with ⟨rfl, rfl⟩ | ⟨rfl, rfl⟩ | ⟨rfl, rfl⟩ | ⟨rfl, rfl⟩
      all_goals simp only [Int.cast_ofNat_Int, Nat.add_zero] at hl hn ⊢
      all_goals simp +contextual (maxSteps := 10000000) only [↓reduceIte, go_sem, Nat.reduceEqDiff, Nat.reduceAdd, Nat.reduceSub, Nat.reduceMul, Nat.reduceLeDiff, Nat.reduceLT, Nat.reduceBEq, Nat.reduceDiv, Nat.reduceMod, Int.reduceLE, Int.reduceLT, Int.reduceEq, Int.reduceBEq, Int.reduceBNe, Int.reduceAdd, Int.reduceSub, Int.reduceNeg, Int.reduceToNat, Int.reduceMul, Int.reducePow, Nat.reducePow, reduceCtorEq, hq, hn, hin, hl, hlw, hz]
    · have hz' : (s.size = 0) = False := by simpa using hz
      rcases hqw with ⟨rfl, rfl⟩ | ⟨rfl, rfl⟩ | ⟨rfl, rfl⟩ | ⟨rfl, rfl⟩
      all_goals simp only [Int.cast_ofNat_Int] at hl hn ⊢
      all_goals simp +contextual (maxSteps := 10000000) only [↓reduceIte, go_sem, Nat.reduceEqDiff, Nat.reduceAdd, Nat.reduceSub, Nat.reduceMul, Nat.reduceLeDiff, Nat.reduceLT, Nat.reduceBEq, Nat.reduceDiv, Nat.reduceMod, Int.reduceLE, Int.reduceLT, Int.reduceEq, Int.reduceBEq, Int.reduceBNe, Int.reduceAdd, Int.reduceSub, Int.reduceNeg, Int.reduceToNat, Int.reduceMul, Int.reducePow, Nat.reducePow, reduceCtorEq, hq, hn, hin, hl, hlw, hz', sz_le hq2, hbs, bytesD_one]
  unfold insR at hin
  by_cases hz : s.size = 0
  · rw [if_pos hz] at hin
    have hs0 : be w v.kids.length ++ s = be w v.kids.length := bytes_nil hz _
    rw [hs0, hz] at hl ⊢
    rcases hqw with ⟨rfl, rfl⟩ | ⟨rfl, rfl⟩ | ⟨rfl, rfl⟩ | ⟨rfl, rfl⟩
    all_goals simp only [Int.cast_ofNat_Int, Nat.add_zero] at hl hn ⊢
    all_goals simp +contextual (maxSteps := 10000000) only [↓reduceIte, go_sem, Nat.reduceEqDiff, Nat.reduceAdd, Nat.reduceSub, Nat.reduceMul, Nat.reduceLeDiff, Nat.reduceLT, Nat.reduceBEq, Nat.reduceDiv, Nat.reduceMod, Int.reduceLE, Int.reduceLT, Int.reduceEq, Int.reduceBEq, Int.reduceBNe, Int.reduceAdd, Int.reduceSub, Int.reduceNeg, Int.reduceToNat, Int.reduceMul, Int.reducePow, Nat.reducePow, reduceCtorEq, hq, hn, hin, hl, hlw]
  · rw [if_neg hz] at hin
    have hz' : (s.size = 0) = False := by simpa using hz
    rcases hqw with ⟨rfl, rfl⟩ | ⟨rfl, rfl⟩ | ⟨rfl, rfl⟩ | ⟨rfl, rfl⟩
    all_goals simp only [Int.cast_ofNat_Int] at hl hn ⊢
    all_goals simp +contextual (maxSteps := 10000000) only [↓reduceIte, go_sem, Nat.reduceEqDiff, Nat.reduceAdd, Nat.reduceSub, Nat.reduceMul, Nat.reduceLeDiff, Nat.reduceLT, Nat.reduceBEq, Nat.reduceDiv, Nat.reduceMod, Int.reduceLE, Int.reduceLT, Int.reduceEq, Int.reduceBEq, Int.reduceBNe, Int.reduceAdd, Int.reduceSub, Int.reduceNeg, Int.reduceToNat, Int.reduceMul, Int.reducePow, Nat.reducePow, reduceCtorEq, hq, hn, hin, hl, hlw, hz', sz_le hq2, hbs]
end
end Go.Bw.R1

namespace Go.Bw.R1
set_option maxRecDepth 5000
open Go Go.Bw Go.Proofs
def kindL : List Int := [1, 2, 3, 4, 5, 6, 7, 8, 9, 10, 11, 12, 13, 14, 15, 16, 17, 18, 19, 20, 21, 22, 23, 24]
def qOk (k c : Int) : Bool :=
  decide (0 ≤ c) && decide (c ≤ 255) && (c.fdiv 16 == 4 || c.fdiv 16 == 5 || c.fdiv 16 == 6 || c.fdiv 16 == 7 || c.fdiv 16 == 8 || (c.fdiv 16 == 9 && (k == 15 || k == 18)) || (c.fdiv 16 == 10 && (c == 160 || c == 161 || c == 163)) || c.fdiv 16 == 11
    || (c.fdiv 16 == 12 && (c == 192 || c == 193)) || c.fdiv 16 == 13 || (c.fdiv 16 == 14 && c == 224) || c.fdiv 16 == 15)
def noFit (c : Int) : Bool := !(c == 65 || c == 66 || c == 67 || c == 68 || c == 69 || c == 82 || c == 83 || c == 84 || c == 85 || c == 160 || c == 161 || c == 163 || c == 192 || c == 193 || c == 224)
theorem codes_q : ∀ k ∈ kindL, ∀ c ∈ codesOf k, qOk k c = true := by decide
theorem codes_last : ∀ k ∈ kindL, (codesOf k).any noFit = true := by decide
theorem fit_any {c : Int} (h : noFit c = true) (s : Sh) : fitS c s = true := by
  unfold noFit at h
  simp only [Bool.not_eq_true', Bool.or_eq_false_iff, beq_eq_false_iff_ne, ne_eq] at h
  obtain ⟨⟨⟨⟨⟨⟨⟨⟨⟨⟨⟨⟨⟨⟨a1, a2⟩, a3⟩, a4⟩, a5⟩, a6⟩, a7⟩, a8⟩, a9⟩, a10⟩, a11⟩, a12⟩, a13⟩, a14⟩, a15⟩ := h
  unfold fitS
  rw [if_neg a1, if_neg (by omega), if_neg a5, if_neg (by omega), if_neg (by omega), if_neg (by omega), if_neg (by omega)]
theorem kind_in {v : Val} (hm : mayS v = true) (hk : v.kind ≠ 25) : v.kind ∈ kindL := by
  rw [mayS_eq] at hm
  simp only [Bool.and_eq_true, decide_eq_true_eq] at hm
  obtain ⟨⟨⟨h1, h2⟩, _⟩, _⟩ := hm
  have : v.kind = 1 ∨ v.kind = 2 ∨ v.kind = 3 ∨ v.kind = 4 ∨ v.kind = 5 ∨ v.kind = 6 ∨ v.kind = 7 ∨ v.kind = 8 ∨ v.kind = 9 ∨ v.kind = 10 ∨ v.kind = 11 ∨ v.kind = 12 ∨ v.kind = 13 ∨ v.kind = 14 ∨ v.kind = 15 ∨ v.kind = 16 ∨ v.kind = 17 ∨ v.kind = 18 ∨ v.kind = 19 ∨ v.kind = 20 ∨ v.kind = 21 ∨ v.kind = 22 ∨ v.kind = 23 ∨ v.kind = 24 := by omega
  simp only [kindL, List.mem_cons, List.not_mem_nil, or_false]
  exact this
theorem codeOf_ok {ls : List Sh} {k : Int} (hk : (ls.headD default).kind = k) (hin : k ∈ kindL) : codeOf ls ∈ codesOf k ∧ ls.all (fitS (codeOf ls)) = true := by
  unfold codeOf
  rw [hk]
  have h1 := codes_last k hin
  rw [List.any_eq_true] at h1
  obtain ⟨c, hc, hn⟩ := h1
  cases hf : (codesOf k).find? fun c => ls.all (fitS c) with
  | none =>
    rw [List.find?_eq_none] at hf
    exact absurd (List.all_eq_true.2 fun s _ => fit_any hn s) (hf c hc)
  | some x => exact ⟨List.mem_of_find?_eq_some hf, by have := List.find?_some hf; exact this⟩
theorem text_16 {v : Val} (hm : mayS v = true) (hk : v.kind = 15 ∨ v.kind = 18) : ¬ v.text = ⟨#[]⟩ := by
  rw [mayS_eq] at hm
  simp only [Bool.and_eq_true] at hm
  obtain ⟨_, ⟨_, h⟩, _⟩ := hm
  intro ht
  rw [ht] at h
  rcases hk with hk | hk <;> (rw [hk] at h; revert h; decide)
theorem dq {c q : Int} (h : c.fdiv 16 = q) (s : Sh) : dataS c s = if q = 4 then e0 else if q = 5 ∨ q = 6 ∨ q = 7 ∨ q = 8 then (if s.text = e0 then be (widQ q) s.num else s.text)
  else if q = 9 then s.text else if q = 10 then be 1 s.text.size ++ s.text else if q = 11 then be 4 s.text.size ++ s.text
  else if q = 12 ∨ q = 14 then be 1 (1 + s.ins.size : Nat) ++ (be 1 s.cnt ++ s.ins) else be 4 (4 + s.ins.size : Nat) ++ (be 4 s.cnt ++ s.ins) := by unfold dataS; rw [h]
/-- the bytes of a value told by a code, behind bytes -/
theorem data_c (b : ByteArray) (v : Val) (c : Int) (h0 : b.size ≠ 0) (hb : b.size ≤ 45000000) (hv : v.sz ≤ 4000000) (hm : mayS v = true) (hk : v.kind ≠ 25) (hc : c ∈ codesOf v.kind) (hf : fitS c (shV v) = true) (hin : InsC v (insS v)) :
    EV 57 [.ref 0 0 1 0 b.size, .sc (.int .u8 c), v.d] [some ⟨0, bytesD b⟩] = some (.ret (.ref 0 1 1 0 (b.size + (dataS c (shV v)).size)), [some ⟨1, bytesD (b ++ dataS c (shV v))⟩]) := by
  have hq := codes_q _ (kind_in hm hk) c hc
  have hl := szL_len v.kids
  have hz := Val.sz_eq v
  have hi := ins_sz v
  rw [sh_ne hk] at hi hf ⊢
  simp only at hi hf
  unfold qOk at hq
  simp only [Bool.and_eq_true, Bool.or_eq_true, decide_eq_true_eq, beq_iff_eq] at hq
  obtain ⟨_, hq⟩ := hq
  have hkk : v.kids.length ≤ 4000000 := by omega
  have hn : ∀ (q : Int) (w : Nat), (q = 5 ∧ w = 1 ∨ q = 6 ∧ w = 2 ∨ q = 7 ∧ w = 4 ∨ q = 8 ∧ w = 8) → c.fdiv 16 = q → EV 57 [.ref 0 0 1 0 b.size, .sc (.int .u8 c), v.d] [some ⟨0, bytesD b⟩] = some (.ret (.ref 0 1 1 0 (b.size + (dataS c ⟨v.kind, v.num, v.text, v.kids.length, insS v⟩).size)), [some ⟨1, bytesD (b ++ dataS c ⟨v.kind, v.num, v.text, v.kids.length, insS v⟩)⟩]) := by
    intro q w hqw h
    have hwd : widQ q = w := by rcases hqw with ⟨rfl, rfl⟩ | ⟨rfl, rfl⟩ | ⟨rfl, rfl⟩ | ⟨rfl, rfl⟩ <;> rfl
    have hw : wOk w := by unfold wOk; omega
    rw [dq h, if_neg (by omega), if_pos (by omega), hwd]
    dsimp only
    by_cases ht : v.text = e0
    · rw [if_pos ht, be_size hw]; exact data_n b c v h0 q w hqw (by omega) h ht
    · rw [if_neg ht]; exact data_t b c v q (by omega) (by omega) h ht
  rcases hq with ((((((((((h | h) | h) | h) | h) | ⟨h, h2⟩) | ⟨h, h2⟩) | h) | ⟨h, h2⟩) | h) | ⟨h, h2⟩) | h
  · rw [dq h, if_pos rfl, app_e0, e0_size, Nat.add_zero]; exact data_4 b c v h
  · exact hn 5 1 (by omega) h
  · exact hn 6 2 (by omega) h
  · exact hn 7 4 (by omega) h
  · exact hn 8 8 (by omega) h
  · rw [dq h, if_neg (by omega), if_neg (by omega), if_pos rfl]; exact data_t b c v 9 (by omega) (by omega) h (text_16 hm h2)
  · have hs : v.text.size ≤ 255 := by
      unfold fitS at hf
      rw [if_neg (by omega), if_neg (by omega), if_neg (by omega), if_neg (by omega), if_neg (by omega), if_pos (by omega)] at hf
      simpa using hf
    have := data_p b c v h0 10 1 (by omega) (by omega) (by omega) h
    rw [dq h, if_neg (by omega), if_neg (by omega), if_neg (by omega), if_pos rfl, ByteArray.size_append, be_size (w := 1) (by simp [wOk]), ← ByteArray.append_assoc, ← Nat.add_assoc]; exact this
  · have := data_p b c v h0 11 4 (by omega) (by omega) (by omega) h
    rw [dq h, if_neg (by omega), if_neg (by omega), if_neg (by omega), if_neg (by omega), if_pos rfl, ByteArray.size_append, be_size (w := 4) (by simp [wOk]), ← ByteArray.append_assoc, ← Nat.add_assoc]; exact this
  · have hs : (insS v).size < 255 := by
      unfold fitS at hf
      rw [if_neg (by omega), if_neg (by omega), if_neg (by omega), if_neg (by omega), if_neg (by omega), if_neg (by omega), if_pos (by omega)] at hf
      simp only [Bool.and_eq_true, decide_eq_true_eq] at hf; exact hf.2
    have := data_k b c v h0 12 1 (by omega) _ hin (by omega) (by omega) (fun _ => hs) hkk h
    rw [dq h, if_neg (by omega), if_neg (by omega), if_neg (by omega), if_neg (by omega), if_neg (by omega), if_pos (by omega), ByteArray.size_append, ByteArray.size_append, be_size (w := 1) (by simp [wOk]), be_size (w := 1) (by simp [wOk]), ← ByteArray.append_assoc, ← Nat.add_assoc]; exact this
  · have := data_k b c v h0 13 4 (by omega) _ hin (by omega) (by omega) (by omega) hkk h
    rw [dq h, if_neg (by omega), if_neg (by omega), if_neg (by omega), if_neg (by omega), if_neg (by omega), if_neg (by omega), ByteArray.size_append, ByteArray.size_append, be_size (w := 4) (by simp [wOk]), be_size (w := 4) (by simp [wOk]), ← ByteArray.append_assoc, ← Nat.add_assoc]; exact this
  · have hs : (insS v).size < 255 := by
      unfold fitS at hf
      rw [if_neg (by omega), if_neg (by omega), if_neg (by omega), if_neg (by omega), if_neg (by omega), if_neg (by omega), if_pos (by omega)] at hf
      simp only [Bool.and_eq_true, decide_eq_true_eq] at hf; exact hf.2
    have := data_k b c v h0 14 1 (by omega) _ hin (by omega) (by omega) (fun _ => hs) hkk h
    rw [dq h, if_neg (by omega), if_neg (by omega), if_neg (by omega), if_neg (by omega), if_neg (by omega), if_pos (by omega), ByteArray.size_append, ByteArray.size_append, be_size (w := 1) (by simp [wOk]), be_size (w := 1) (by simp [wOk]), ← ByteArray.append_assoc, ← Nat.add_assoc]; exact this
  · have := data_k b c v h0 15 4 (by omega) _ hin (by omega) (by omega) (by omega) hkk h
    rw [dq h, if_neg (by omega), if_neg (by omega), if_neg (by omega), if_neg (by omega), if_neg (by omega), if_neg (by omega), ByteArray.size_append, ByteArray.size_append, be_size (w := 4) (by simp [wOk]), be_size (w := 4) (by simp [wOk]), ← ByteArray.append_assoc, ← Nat.add_assoc]; exact this
end Go.Bw.R1

namespace Go.Bw.R1
set_option maxRecDepth 5000
open Go Go.Bw Go.Proofs
def PutOk (n : Nat) : Prop := ∀ v : Val, v.sz ≤ n → mayS v = true →
  (EV 42 [.nils, v.d] [] = some (.ret (.ref 0 0 1 0 (wrV v).size), [some ⟨0, bytesD (wrV v)⟩])) ∧
  ∀ b : ByteArray, b.size ≠ 0 → b.size + 10 * v.sz ≤ 45000000 → EV 42 [.ref 0 0 1 0 b.size, v.d] [some ⟨0, bytesD b⟩] = some (.ret (.ref 0 1 1 0 (b.size + (wrV v).size)), [some ⟨1, bytesD (b ++ wrV v)⟩])
def InsOk (n : Nat) : Prop := ∀ v : Val, v.sz ≤ n → mayS v = true → v.kind ≠ 25 → InsC v (insS v)
theorem code_range {k c : Int} (hk : k ∈ kindL) (hc : c ∈ codesOf k) : 0 ≤ c ∧ c ≤ 255 := by
  have := codes_q k hk c hc
  unfold qOk at this
  simp only [Bool.and_eq_true, decide_eq_true_eq] at this
  exact this.1
theorem desc_sz {v a x : Val} (h : v.kids = [a, x]) : a.sz + x.sz + 1 ≤ v.sz := by
  rw [Val.sz_eq v, h]; simp only [Val.szL]; omega
set_option maxHeartbeats 4000000 in
theorem cons_ref {n : Nat} (hp : PutOk n) (l : List Val) (v : Val) (hv : l[0]? = some v) (hA : Al l) (hl : l.length ≤ 4000000) (hn : v.sz ≤ n + 1) (C : Int) (hC0 : 0 ≤ C) (hC1 : C ≤ 255)
    (hcode : EV 59 [.ro false ((l.map bareV).map Val.d)] [] = some (.ret (.sc (.int .u8 C)), [])) (b : ByteArray) (h0 : b.size ≠ 0) (hb : b.size + 10 * v.sz ≤ 45000000) :
    EV 58 [.ref 0 0 1 0 b.size, .ro false (l.map Val.d)] [some ⟨0, bytesD b⟩] = some (.ret (.ref 0 1 1 0 (b.size + (hdV v).size + 1)), [some ⟨1, bytesD (b ++ hdV v ++ b1 C)⟩]) := by
  have hstrip := strip_c l hl hA
  have hmv : mayS v = true := by
    obtain ⟨w, hw, h⟩ := hA
    exact (h v (List.mem_of_getElem? hv)).1
  have hlv : (l.map Val.d)[0]? = some v.d := by rw [List.getElem?_map, hv]; rfl
  refine (ev_body ⟨[], [(0, [0, 1, 5]), (4000000, [])], [(4, [(0, 0, false), (1, 0, false), (2, 0, true), (3, 0, false), (4, 0, false), (5, 0, false), (6, 0, false), (7, 0, true), (8, 2, false)])], false, [], noIt⟩ [.tmp 4] rfl Tryd.func58 rfl rfl rfl (by kernel_rfl) (by show 2 ≤ 31; decide) (by kernel_rfl)).trans ?_
  simp +contextual (maxSteps := 10000000) only [↓reduceIte, go_sem, Nat.reduceEqDiff, Nat.reduceAdd, Nat.reduceSub, Nat.reduceMul, Nat.reduceLeDiff, Nat.reduceLT, Nat.reduceBEq, Nat.reduceDiv, Nat.reduceMod, Int.reduceLE, Int.reduceLT, Int.reduceEq, Int.reduceBEq, Int.reduceBNe, Int.reduceAdd, Int.reduceSub, Int.reduceNeg, Int.reduceToNat, Int.reduceMul, Int.reducePow, Nat.reducePow, reduceCtorEq, hlv]
  refine lpK_inv (fun m f es => ∃ (x : Val) (acc : ByteArray) (u : Nat), m = x.sz ∧ x.sz ≤ n + 1 ∧ mayS x = true ∧ acc.size ≠ 0 ∧ acc ++ hdV x = b ++ hdV v ∧ acc.size + 10 * x.sz ≤ 45000000 ∧ f = [(0, .ref 0 u 1 0 acc.size), (1, .ro false (l.map Val.d)), (5, .ptr 1 0 0)] ∧ es = [some ⟨u, bytesD acc⟩, some ⟨0, x.cs⟩]) v.sz ⟨v, b, 0, rfl, hn, hmv, h0, rfl, hb, rfl, rfl⟩ ?_
  rintro _ _ _ ⟨x, acc, u, rfl, hxn, hmx, ha0, hac, hab, rfl, rfl⟩ ih
  by_cases hk : x.kind = 25
  · obtain ⟨a, y, h1, h2, h3⟩ := may_desc hmx hk
    have hds := desc_sz h1
    have hws := wr_sz a
    have hput := (hp a (by omega) h2).2 (acc ++ b1 0) (by rw [ByteArray.size_append, b1_size]; omega) (by rw [ByteArray.size_append, b1_size]; omega)
    simp only [ByteArray.size_append, b1_size] at hput
    have hle : acc.size + 1 ≤ 100000000 := by omega
    have hle2 : acc.size ≤ 100000000 := by omega
    simp +contextual (maxSteps := 10000000) only [↓reduceIte, go_sem, Nat.reduceEqDiff, Nat.reduceAdd, Nat.reduceSub, Nat.reduceMul, Nat.reduceLeDiff, Nat.reduceLT, Nat.reduceBEq, Nat.reduceDiv, Nat.reduceMod, Int.reduceLE, Int.reduceLT, Int.reduceEq, Int.reduceBEq, Int.reduceBNe, Int.reduceAdd, Int.reduceSub, Int.reduceNeg, Int.reduceToNat, Int.reduceMul, Int.reducePow, Nat.reducePow, reduceCtorEq, hk, h1, List.map_cons, List.map_nil, one_b1, sz_le hle, sz_le hle2, hput]
    refine ih y.sz _ _ (by omega) ?_
    refine ⟨y, acc ++ b1 0 ++ wrV a, u + 1 + 1, rfl, by omega, h3, ?_, ?_, ?_, ?_, rfl⟩
    · simp only [ByteArray.size_append, b1_size]; omega
    · rw [← hac, (enc_desc hk h1).2]; simp only [ByteArray.append_assoc]
    · simp only [ByteArray.size_append, b1_size]; omega
    · simp only [ByteArray.size_append, b1_size]
  · have hkf : (x.kind == 25) = false := by simpa using hk
    have hd := hd_ne hk
    rw [hd, app_e0] at hac
    subst hac
    have hsz : (b ++ hdV v).size + 1 ≤ 100000000 := by omega
    have hsz2 : (b ++ hdV v).size ≤ 100000000 := by omega
    rw [ByteArray.size_append] at hsz hsz2
    simp +contextual (maxSteps := 10000000) only [↓reduceIte, go_sem, Nat.reduceEqDiff, Nat.reduceAdd, Nat.reduceSub, Nat.reduceMul, Nat.reduceLeDiff, Nat.reduceLT, Nat.reduceBEq, Nat.reduceDiv, Nat.reduceMod, Int.reduceLE, Int.reduceLT, Int.reduceEq, Int.reduceBEq, Int.reduceBNe, Int.reduceAdd, Int.reduceSub, Int.reduceNeg, Int.reduceToNat, Int.reduceMul, Int.reducePow, Nat.reducePow, reduceCtorEq, hkf, hstrip, hcode, one_b1 hC0 hC1, sz_le hsz, sz_le hsz2]
set_option maxHeartbeats 4000000 in
theorem cons_nils {n : Nat} (hp : PutOk n) (l : List Val) (v : Val) (hv : l[0]? = some v) (hA : Al l) (hl : l.length ≤ 4000000) (hn : v.sz ≤ n + 1) (C : Int) (hC0 : 0 ≤ C) (hC1 : C ≤ 255)
    (hcode : EV 59 [.ro false ((l.map bareV).map Val.d)] [] = some (.ret (.sc (.int .u8 C)), [])) (hb : 10 * v.sz ≤ 45000000) :
    EV 58 [.nils, .ro false (l.map Val.d)] [] = some (.ret (.ref 0 0 1 0 ((hdV v).size + 1)), [some ⟨0, bytesD (hdV v ++ b1 C)⟩]) := by
  have hstrip := strip_c l hl hA
  have hmv : mayS v = true := by
    obtain ⟨w, hw, h⟩ := hA
    exact (h v (List.mem_of_getElem? hv)).1
  have hlv : (l.map Val.d)[0]? = some v.d := by rw [List.getElem?_map, hv]; rfl
  refine (ev_body ⟨[], [(0, [0, 1, 5]), (4000000, [])], [(4, [(0, 0, false), (1, 0, false), (2, 0, true), (3, 0, false), (4, 0, false), (5, 0, false), (6, 0, false), (7, 0, true), (8, 2, false)])], false, [], noIt⟩ [.tmp 4] rfl Tryd.func58 rfl rfl rfl (by kernel_rfl) (by show 2 ≤ 31; decide) (by kernel_rfl)).trans ?_
  simp +contextual (maxSteps := 10000000) only [↓reduceIte, go_sem, Nat.reduceEqDiff, Nat.reduceAdd, Nat.reduceSub, Nat.reduceMul, Nat.reduceLeDiff, Nat.reduceLT, Nat.reduceBEq, Nat.reduceDiv, Nat.reduceMod, Int.reduceLE, Int.reduceLT, Int.reduceEq, Int.reduceBEq, Int.reduceBNe, Int.reduceAdd, Int.reduceSub, Int.reduceNeg, Int.reduceToNat, Int.reduceMul, Int.reducePow, Nat.reducePow, reduceCtorEq, hlv]
  rw [lpK_go]
  by_cases hkv : v.kind = 25
  case neg =>
    have hkf : (v.kind == 25) = false := by simpa using hkv
    have hd := hd_ne hkv
    rw [hd, e0_app, e0_size, Nat.zero_add]
    simp +contextual (maxSteps := 10000000) only [↓reduceIte, go_sem, Nat.reduceEqDiff, Nat.reduceAdd, Nat.reduceSub, Nat.reduceMul, Nat.reduceLeDiff, Nat.reduceLT, Nat.reduceBEq, Nat.reduceDiv, Nat.reduceMod, Int.reduceLE, Int.reduceLT, Int.reduceEq, Int.reduceBEq, Int.reduceBNe, Int.reduceAdd, Int.reduceSub, Int.reduceNeg, Int.reduceToNat, Int.reduceMul, Int.reducePow, Nat.reducePow, reduceCtorEq, hkf, hstrip, hcode, one_b1 hC0 hC1]
  obtain ⟨a, y, h1, h2, h3⟩ := may_desc hmv hkv
  have hds := desc_sz h1
  have hws := wr_sz a
  have hput := (hp a (by omega) h2).2 (b1 0) (by rw [b1_size]; omega) (by rw [b1_size]; omega)
  rw [b1_size] at hput
  simp +contextual (maxSteps := 10000000) only [↓reduceIte, go_sem, Nat.reduceEqDiff, Nat.reduceAdd, Nat.reduceSub, Nat.reduceMul, Nat.reduceLeDiff, Nat.reduceLT, Nat.reduceBEq, Nat.reduceDiv, Nat.reduceMod, Int.reduceLE, Int.reduceLT, Int.reduceEq, Int.reduceBEq, Int.reduceBNe, Int.reduceAdd, Int.reduceSub, Int.reduceNeg, Int.reduceToNat, Int.reduceMul, Int.reducePow, Nat.reducePow, reduceCtorEq, hkv, h1, List.map_cons, List.map_nil, one_b1, hput]
  refine lpK_inv (fun m f es => ∃ (x : Val) (acc : ByteArray), m = x.sz ∧ x.sz ≤ n + 1 ∧ mayS x = true ∧ acc.size ≠ 0 ∧ acc ++ hdV x = hdV v ∧ acc.size + 10 * x.sz ≤ 45000000 ∧ f = [(0, .ref 0 0 1 0 acc.size), (1, .ro false (l.map Val.d)), (5, .ptr 1 0 0)] ∧ es = [some ⟨0, bytesD acc⟩, some ⟨0, x.cs⟩]) y.sz ?_ ?_
  · refine ⟨y, b1 0 ++ wrV a, rfl, by omega, h3, ?_, ?_, ?_, ?_, rfl⟩
    · rw [ByteArray.size_append, b1_size]; omega
    · rw [(enc_desc hkv h1).2]
    · rw [ByteArray.size_append, b1_size]; omega
    · rw [ByteArray.size_append, b1_size]
  clear hput hws hds h1 h2 h3 y a
  rintro _ _ _ ⟨x, acc, rfl, hxn, hmx, ha0, hac, hab, rfl, rfl⟩ ih
  by_cases hk : x.kind = 25
  · obtain ⟨a, y, h1, h2, h3⟩ := may_desc hmx hk
    have hds := desc_sz h1
    have hws := wr_sz a
    have hput := (hp a (by omega) h2).2 (acc ++ b1 0) (by rw [ByteArray.size_append, b1_size]; omega) (by rw [ByteArray.size_append, b1_size]; omega)
    simp only [ByteArray.size_append, b1_size] at hput
    have hle : acc.size + 1 ≤ 100000000 := by omega
    have hle2 : acc.size ≤ 100000000 := by omega
    simp +contextual (maxSteps := 10000000) only [↓reduceIte, go_sem, Nat.reduceEqDiff, Nat.reduceAdd, Nat.reduceSub, Nat.reduceMul, Nat.reduceLeDiff, Nat.reduceLT, Nat.reduceBEq, Nat.reduceDiv, Nat.reduceMod, Int.reduceLE, Int.reduceLT, Int.reduceEq, Int.reduceBEq, Int.reduceBNe, Int.reduceAdd, Int.reduceSub, Int.reduceNeg, Int.reduceToNat, Int.reduceMul, Int.reducePow, Nat.reducePow, reduceCtorEq, hk, h1, List.map_cons, List.map_nil, one_b1, sz_le hle, sz_le hle2, hput]
    refine ih y.sz _ _ (by omega) ?_
    refine ⟨y, acc ++ b1 0 ++ wrV a, rfl, by omega, h3, ?_, ?_, ?_, ?_, rfl⟩
    · simp only [ByteArray.size_append, b1_size]; omega
    · rw [← hac, (enc_desc hk h1).2]; simp only [ByteArray.append_assoc]
    · simp only [ByteArray.size_append, b1_size]; omega
    · simp only [ByteArray.size_append, b1_size]
  · have hkf : (x.kind == 25) = false := by simpa using hk
    have hd := hd_ne hk
    rw [hd, app_e0] at hac
    subst hac
    have hsz : (hdV v).size + 1 ≤ 100000000 := by omega
    have hsz2 : (hdV v).size ≤ 100000000 := by omega
    simp +contextual (maxSteps := 10000000) only [↓reduceIte, go_sem, Nat.reduceEqDiff, Nat.reduceAdd, Nat.reduceSub, Nat.reduceMul, Nat.reduceLeDiff, Nat.reduceLT, Nat.reduceBEq, Nat.reduceDiv, Nat.reduceMod, Int.reduceLE, Int.reduceLT, Int.reduceEq, Int.reduceBEq, Int.reduceBNe, Int.reduceAdd, Int.reduceSub, Int.reduceNeg, Int.reduceToNat, Int.reduceMul, Int.reducePow, Nat.reducePow, reduceCtorEq, hkf, hstrip, hcode, one_b1 hC0 hC1, sz_le hsz, sz_le hsz2]
/-- what code answers, of values that are called alike -/
theorem code_al {n : Nat} (hi : InsOk n) (l : List Val) (v : Val) (hv : l[0]? = some v) (hA : Al l) (hl : l.length ≤ 4000000) (hs : ∀ x ∈ l, x.sz ≤ n ∧ x.sz ≤ 4000000) :
    EV 59 [.ro false ((l.map bareV).map Val.d)] [] = some (.ret (.sc (.int .u8 (codeOf (l.map shV)))), []) := by
  have hm : ∀ x ∈ l, mayS x = true := by obtain ⟨w, hw, h⟩ := hA; exact fun x hx => (h x hx).1
  have hsh : (l.map bareV).map shV = l.map shV := by
    rw [List.map_map]
    exact List.map_congr_left fun x hx => (sh_bare _ x (Nat.le_refl _) (hm x hx)).1
  have hvm := List.mem_of_getElem? hv
  obtain ⟨q1, q2, q3, q4⟩ := sh_bare _ v (Nat.le_refl _) (hm v hvm)
  rw [← hsh]
  refine code_c (l.map bareV) (bareV v) (by rw [List.getElem?_map, hv]; rfl) (by simpa using hl) (fun x hx c hc => ?_) q2
  obtain ⟨y, hy, rfl⟩ := List.mem_map.1 hx
  obtain ⟨p1, p2, p3, p4⟩ := sh_bare _ y (Nat.le_refl _) (hm y hy)
  have := hs y hy
  exact fit_c (bareV y) (by omega) p2 c fun _ => hi (bareV y) (by omega) p3 p2
theorem codeOf_of {l : List Val} {v : Val} (hv : l[0]? = some v) (hm : mayS v = true) : codeOf (l.map shV) ∈ codesOf (bareV v).kind ∧ (∀ x ∈ l, fitS (codeOf (l.map shV)) (shV x) = true) ∧ (bareV v).kind ∈ kindL := by
  obtain ⟨q1, q2, q3, q4⟩ := sh_bare _ v (Nat.le_refl _) hm
  have hk := kind_in q3 q2
  have hh : (List.headD (l.map shV) default).kind = (bareV v).kind := by
    cases l with
    | nil => simp at hv
    | cons a r => simp at hv; subst hv; show (shV a).kind = _; rw [← q1, sh_ne q2]
  obtain ⟨c1, c2⟩ := codeOf_ok hh hk
  refine ⟨c1, fun x hx => ?_, hk⟩
  rw [List.all_eq_true] at c2
  exact c2 _ (List.mem_map.2 ⟨x, hx, rfl⟩)
theorem alike_bare : ∀ (n : Nat) (a b : Val), alikeF n a b = true → mayS a = true → mayS b = true → (bareV b).kind = (bareV a).kind
  | 0, a, b, h, _, _ => by simp [alikeF] at h
  | n + 1, a, b, h, ha, hb => by
    unfold alikeF at h
    by_cases hk : a.kind = 25
    · by_cases hk2 : b.kind = 25
      · obtain ⟨a1, a2, a3, a4, a5⟩ := may_desc ha hk
        obtain ⟨b1, b2, b3, b4, b5⟩ := may_desc hb hk2
        rw [hk, hk2, a3, b3] at h
        simp only [bne_self_eq_false, Bool.or_self, Bool.false_eq_true, if_false, Bool.and_eq_true] at h
        rw [bare_desc hk a3, bare_desc hk2 b3]
        exact alike_bare n a2 b2 h.2 a5 b5
      · have : (b.kind != 25) = true := by simpa using hk2
        simp only [this, Bool.or_true, if_true, beq_iff_eq] at h
        exact absurd (h.symm.trans hk) hk2
    · have : (a.kind != 25) = true := by simpa using hk
      simp only [this, Bool.true_or, if_true, beq_iff_eq] at h
      rw [bare_ne hk, bare_ne (by rw [← h]; exact hk), h]
theorem al_kind {l : List Val} (hA : Al l) {v : Val} (hv : l[0]? = some v) : ∀ y ∈ l, (bareV y).kind = (bareV v).kind := by
  obtain ⟨w, hw, h⟩ := hA
  have : w = v := by
    rw [Option.mem_def, List.head?_eq_getElem?, hv] at hw
    exact (Option.some.inj hw).symm
  subst this
  intro y hy
  obtain ⟨h1, n, h2⟩ := h y hy
  exact alike_bare n w y h2 (h w (List.mem_of_getElem? hv)).1 h1
theorem al_one {v : Val} (hm : mayS v = true) : Al [v] := ⟨v, rfl, fun x hx => by
  obtain rfl : x = v := by simpa using hx
  exact ⟨hm, _, alikeF_refl _ x (Nat.le_refl _) hm⟩⟩
set_option maxHeartbeats 4000000 in
theorem put_step {n : Nat} (hi : InsOk (n + 1)) (hp : PutOk n) (hn : n + 1 ≤ 4000000) : PutOk (n + 1) := by
  intro v hv hm
  have hA := al_one hm
  have hstrip := strip_c [v] (by simp) hA
  have hcode := code_al hi [v] v rfl hA (by simp) (fun x hx => by obtain rfl : x = v := by simpa using hx
                                                                  omega)
  obtain ⟨c1, c2, c3⟩ := codeOf_of (l := [v]) (v := v) rfl hm
  have c4 := c2 v (List.mem_singleton.2 rfl)
  obtain ⟨q1, q2, q3, q4⟩ := sh_bare _ v (Nat.le_refl _) hm
  have hr := code_range c3 c1
  have hws := wr_sz v
  have hins := hi (bareV v) (by omega) q3 q2
  have hmx : (hdV v).size + 1 ≤ 10 * v.sz := by have := ins_sz v; omega
  have hW : ∀ b : ByteArray, b ++ hdV v ++ b1 (codeOf [shV v]) ++ dataS (codeOf [shV v]) (shV v) = b ++ wrV v := fun b => by unfold wrV Wd; simp only [ByteArray.append_assoc]
  have hWs : ∀ k, k + (hdV v).size + 1 + (dataS (codeOf [shV v]) (shV v)).size = k + (wrV v).size := fun k => by unfold wrV Wd; simp only [ByteArray.size_append, b1_size]; omega
  simp only [List.map_cons, List.map_nil] at hstrip hcode c1 c2 c4 hr
  refine ⟨?_, fun b h0 hb => ?_⟩
  · have hcons := cons_nils hp [v] v rfl hA (by simp) hv (codeOf [shV v]) hr.1 hr.2 (by simpa using hcode) (by omega)
    have hdata := data_c (hdV v ++ b1 (codeOf [shV v])) (bareV v) (codeOf [shV v]) (by rw [ByteArray.size_append, b1_size]; omega) (by rw [ByteArray.size_append, b1_size]; omega) (by omega) q3 q2 c1 (by rw [q1]; exact c4) hins
    rw [q1] at hdata
    simp only [ByteArray.size_append, b1_size] at hdata
    simp only [List.map_cons, List.map_nil] at hcons
    have e1 := hW e0
    have e2 := hWs 0
    rw [e0_app, e0_app] at e1
    rw [Nat.zero_add, Nat.zero_add] at e2
    rw [e1, e2] at hdata
    refine (ev_body ⟨[3], [(4000000, [])], [(3, [(0, 0, false), (1, 0, false), (2, 0, true), (3, 0, false), (4, 1, false), (5, 0, false), (6, 0, false), (7, 0, false), (8, 0, true), (9, 2, false)])], false, [], noIt⟩ [.tmp 4] rfl Tryd.func42 rfl rfl rfl (by kernel_rfl) (by show 2 ≤ 20; decide) (by kernel_rfl)).trans ?_
    simp +contextual (maxSteps := 10000000) only [↓reduceIte, go_sem, Nat.reduceEqDiff, Nat.reduceAdd, Nat.reduceSub, Nat.reduceMul, Nat.reduceLeDiff, Nat.reduceLT, Nat.reduceBEq, Nat.reduceDiv, Nat.reduceMod, Int.reduceLE, Int.reduceLT, Int.reduceEq, Int.reduceBEq, Int.reduceBNe, Int.reduceAdd, Int.reduceSub, Int.reduceNeg, Int.reduceToNat, Int.reduceMul, Int.reducePow, Nat.reducePow, reduceCtorEq, hstrip, hcons, hcode, hdata]
  · have hcons := cons_ref hp [v] v rfl hA (by simp) hv (codeOf [shV v]) hr.1 hr.2 (by simpa using hcode) b h0 hb
    have hdata := data_c (b ++ hdV v ++ b1 (codeOf [shV v])) (bareV v) (codeOf [shV v]) (by simp only [ByteArray.size_append, b1_size]; omega) (by simp only [ByteArray.size_append, b1_size]; omega) (by omega) q3 q2 c1 (by rw [q1]; exact c4) hins
    rw [q1] at hdata
    simp only [ByteArray.size_append, b1_size] at hdata
    simp only [List.map_cons, List.map_nil] at hcons
    rw [hW b, hWs] at hdata
    refine (ev_body ⟨[3], [(4000000, [])], [(3, [(0, 0, false), (1, 0, false), (2, 0, true), (3, 0, false), (4, 1, false), (5, 0, false), (6, 0, false), (7, 0, false), (8, 0, true), (9, 2, false)])], false, [], noIt⟩ [.tmp 4] rfl Tryd.func42 rfl rfl rfl (by kernel_rfl) (by show 2 ≤ 20; decide) (by kernel_rfl)).trans ?_
    simp +contextual (maxSteps := 10000000) only [↓reduceIte, go_sem, Nat.reduceEqDiff, Nat.reduceAdd, Nat.reduceSub, Nat.reduceMul, Nat.reduceLeDiff, Nat.reduceLT, Nat.reduceBEq, Nat.reduceDiv, Nat.reduceMod, Int.reduceLE, Int.reduceLT, Int.reduceEq, Int.reduceBEq, Int.reduceBNe, Int.reduceAdd, Int.reduceSub, Int.reduceNeg, Int.reduceToNat, Int.reduceMul, Int.reducePow, Nat.reducePow, reduceCtorEq, hstrip, hcons, hcode, hdata]
end Go.Bw.R1

namespace Go.Bw.R1
set_option maxRecDepth 5000
open Go Go.Bw Go.Proofs
theorem catW_one (x : Val) : catW [encV x] = wrV x := by simp only [catW]; rw [app_e0]; rfl
theorem catD_one (c : Int) (s : Sh) : catD c [s] = dataS c s := by simp only [catD]; rw [app_e0]
theorem al_fam {v : Val} (hm : mayS v = true) (hk : v.kind = 24) {x : Val} (hx : v.kids[0]? = some x) : Al v.kids := by
  rw [mayS_eq] at hm
  simp only [Bool.and_eq_true] at hm
  obtain ⟨⟨_, h1⟩, _, h2⟩ := hm
  rw [mayL_all, List.all_eq_true] at h1
  rw [hk] at h2
  have h2 : (v.kids.all fun x => match v.kids with | [] => true | y :: _ => alike y x) = true := h2
  rw [List.all_eq_true] at h2
  cases hl : v.kids with
  | nil => rw [hl] at hx; simp at hx
  | cons y r =>
    refine ⟨y, rfl, fun z hz => ⟨h1 z (by rw [hl]; exact hz), y.sz, ?_⟩⟩
    have := h2 z (by rw [hl]; exact hz)
    rw [hl] at this
    exact this
set_option maxHeartbeats 4000000 in
theorem ins_step {n : Nat} (hi : InsOk n) (hp : PutOk n) (hn : n + 1 ≤ 4000000) : InsOk (n + 1) := by
  intro v hv hm hk25
  have hl := szL_len v.kids
  have hz := Val.sz_eq v
  have hms : ∀ x ∈ v.kids, mayS x = true := by
    rw [mayS_eq] at hm
    simp only [Bool.and_eq_true] at hm
    have := hm.1.2
    rw [mayL_all, List.all_eq_true] at this
    exact this
  have hbnd : ∀ i, (catW ((v.kids.take i).map encV)).size ≤ 10 * Val.szL (v.kids.take i) := fun i => by
    have h1 := catW_size ((v.kids.take i).map encV)
    have h2 := mx_szL (v.kids.take i)
    rw [encL_map] at h2; omega
  by_cases hk : v.kind = 24
  case neg =>
    have hkt : (v.kind != 24) = true := by simpa using hk
    refine .inl ?_
    refine (ev_body ⟨[1], [(1, [2, 14, 15, 16]), (3, [2, 6, 40, 41, 42])], [], false, [], noIt⟩ [.tmp 2] rfl Tryd.func80 rfl rfl rfl (by kernel_rfl) (by show 1 ≤ 52; decide) (by kernel_rfl)).trans ?_
    unfold insS
    rw [if_neg hk]
    simp +contextual (maxSteps := 10000000) only [↓reduceIte, go_sem, Nat.reduceEqDiff, Nat.reduceAdd, Nat.reduceSub, Nat.reduceMul, Nat.reduceLeDiff, Nat.reduceLT, Nat.reduceBEq, Nat.reduceDiv, Nat.reduceMod, Int.reduceLE, Int.reduceLT, Int.reduceEq, Int.reduceBEq, Int.reduceBNe, Int.reduceAdd, Int.reduceSub, Int.reduceNeg, Int.reduceToNat, Int.reduceMul, Int.reducePow, Nat.reducePow, reduceCtorEq, hkt]
    refine lpK_inv (fun m f es => ∃ (i : Nat) (j : Int), j = i ∧ m + i = v.kids.length ∧ ((i = 0 ∧ f = [(2, .nils), (14, .ro false (v.kids.map Val.d)), (15, I v.kids.length), (16, I j)] ∧ es = []) ∨
      (0 < i ∧ f = [(2, .ref 0 0 1 0 (catW ((v.kids.take i).map encV)).size), (14, .ro false (v.kids.map Val.d)), (15, I v.kids.length), (16, I j)] ∧ es = [some ⟨0, bytesD (catW ((v.kids.take i).map encV))⟩]))) v.kids.length ⟨0, _, rfl, by omega, .inl ⟨rfl, rfl, rfl⟩⟩ ?_
    rintro m _ _ ⟨i, _, rfl, hmi, hst⟩ ih
    cases m with
    | succ m =>
      obtain ⟨x, hx⟩ := get_lt (l := v.kids) (i := i) (by omega)
      have hxm := List.mem_of_getElem? hx
      have hxs := szL_mem hx
      have hlt : decide ((i : Int) < v.kids.length) = true := by simp; omega
      have hix : (v.kids.map Val.d)[i]? = some x.d := by rw [List.getElem?_map, hx]; rfl
      have hsn : (v.kids.take (i + 1)).map encV = (v.kids.take i).map encV ++ [encV x] := by rw [take_snoc hx, List.map_append]; rfl
      have hcw : catW ((v.kids.take (i + 1)).map encV) = catW ((v.kids.take i).map encV) ++ wrV x := by rw [hsn, catW_app, catW_one]
      obtain ⟨hp1, hp2⟩ := hp x (by omega) (hms x hxm)
      rcases hst with ⟨rfl, rfl, rfl⟩ | ⟨hpos, rfl, rfl⟩
      · have hcw0 : catW ((v.kids.take 1).map encV) = wrV x := by rw [hcw]; exact e0_app _
        have hlt0 : decide ((0 : Int) < v.kids.length) = true := by simpa using hlt
        simp +contextual (maxSteps := 10000000) only [↓reduceIte, go_sem, Nat.reduceEqDiff, Nat.reduceAdd, Nat.reduceSub, Nat.reduceMul, Nat.reduceLeDiff, Nat.reduceLT, Nat.reduceBEq, Nat.reduceDiv, Nat.reduceMod, Int.reduceLE, Int.reduceLT, Int.reduceEq, Int.reduceBEq, Int.reduceBNe, Int.reduceAdd, Int.reduceSub, Int.reduceNeg, Int.reduceToNat, Int.reduceMul, Int.reducePow, Nat.reducePow, reduceCtorEq, hix, hlt0, hp1, wrap_i64 (n := 1) (by omega) (by omega)]
        refine ih m _ _ (by omega) ?_
        exact ⟨1, 1, rfl, by omega, .inr ⟨by omega, by rw [hcw0], by rw [hcw0]⟩⟩
      · have hb1 := hbnd i
        have hb2 := hbnd (i + 1)
        have hs1 := szL_app (v.kids.take i) [x]
        rw [← take_snoc hx] at hs1
        have hs2 := szL_take v.kids (i + 1)
        simp only [Val.szL] at hs1
        have hne : (catW ((v.kids.take i).map encV)).size ≠ 0 := by
          obtain ⟨y, hy⟩ := get_lt (l := v.kids) (i := 0) (by omega)
          have : v.kids.take i = y :: (v.kids.take i).drop 1 := by
            cases hkk : v.kids with
            | nil => rw [hkk] at hy; simp at hy
            | cons a r => rw [hkk] at hy; simp at hy; subst hy; cases i with
              | zero => omega
              | succ i => simp
          rw [this]
          simp only [List.map_cons, catW, ByteArray.size_append]
          have := wr_pos y
          unfold wrV shV hdV at this; omega
        have hput := hp2 (catW ((v.kids.take i).map encV)) hne (by omega)
        simp +contextual (maxSteps := 10000000) only [↓reduceIte, go_sem, Nat.reduceEqDiff, Nat.reduceAdd, Nat.reduceSub, Nat.reduceMul, Nat.reduceLeDiff, Nat.reduceLT, Nat.reduceBEq, Nat.reduceDiv, Nat.reduceMod, Int.reduceLE, Int.reduceLT, Int.reduceEq, Int.reduceBEq, Int.reduceBNe, Int.reduceAdd, Int.reduceSub, Int.reduceNeg, Int.reduceToNat, Int.reduceMul, Int.reducePow, Nat.reducePow, reduceCtorEq, hix, hlt, hput, wrap_i64 (n := (i : Int) + 1) (by omega) (by omega)]
        refine ih m _ _ (by omega) ?_
        exact ⟨i + 1, (i : Int) + 1, by omega, by omega, .inr ⟨by omega, by rw [hcw, ByteArray.size_append], by rw [hcw]⟩⟩
    | zero =>
      have hlt : decide ((i : Int) < v.kids.length) = false := by simp; omega
      obtain rfl : i = v.kids.length := by omega
      rcases hst with ⟨h0, rfl, rfl⟩ | ⟨hpos, rfl, rfl⟩
      · have hk0 : v.kids = [] := List.length_eq_zero_iff.1 h0
        rw [hk0] at hlt ⊢
        simp only [List.length_nil, List.map_nil, Int.natCast_zero, Int.cast_ofNat_Int] at hlt ⊢
        simp +contextual (maxSteps := 10000000) only [↓reduceIte, go_sem, Nat.reduceEqDiff, Nat.reduceAdd, Nat.reduceSub, Nat.reduceMul, Nat.reduceLeDiff, Nat.reduceLT, Nat.reduceBEq, Nat.reduceDiv, Nat.reduceMod, Int.reduceLE, Int.reduceLT, Int.reduceEq, Int.reduceBEq, Int.reduceBNe, Int.reduceAdd, Int.reduceSub, Int.reduceNeg, Int.reduceToNat, Int.reduceMul, Int.reducePow, Nat.reducePow, reduceCtorEq, hlt]
        rfl
      · rw [List.take_length]
        have hw : insR (catW (v.kids.map encV)) = (.ret (.ref 0 0 1 0 (catW (v.kids.map encV)).size), [some ⟨0, bytesD (catW (v.kids.map encV))⟩]) := by
          unfold insR
          rw [if_neg]
          obtain ⟨y, hy⟩ := get_lt (l := v.kids) (i := 0) (by omega)
          cases hkk : v.kids with
          | nil => rw [hkk] at hy; simp at hy
          | cons a r =>
            simp only [List.map_cons, catW, ByteArray.size_append]
            have := wr_pos a
            unfold wrV shV hdV at this; omega
        rw [hw]
        simp +contextual (maxSteps := 10000000) only [↓reduceIte, go_sem, Nat.reduceEqDiff, Nat.reduceAdd, Nat.reduceSub, Nat.reduceMul, Nat.reduceLeDiff, Nat.reduceLT, Nat.reduceBEq, Nat.reduceDiv, Nat.reduceMod, Int.reduceLE, Int.reduceLT, Int.reduceEq, Int.reduceBEq, Int.reduceBNe, Int.reduceAdd, Int.reduceSub, Int.reduceNeg, Int.reduceToNat, Int.reduceMul, Int.reducePow, Nat.reducePow, reduceCtorEq, hlt]
  case pos =>
  have hkf : (v.kind != 24) = false := by simpa using hk
  cases hkk : v.kids with
  | nil =>
    refine .inr ?_
    unfold insS
    rw [if_pos hk, hkk]
    refine (ev_body ⟨[1], [(1, [2, 14, 15, 16]), (3, [2, 6, 40, 41, 42])], [], false, [], noIt⟩ [.tmp 2] rfl Tryd.func80 rfl rfl rfl (by kernel_rfl) (by show 1 ≤ 52; decide) (by kernel_rfl)).trans ?_
    simp +contextual (maxSteps := 10000000) only [↓reduceIte, go_sem, Nat.reduceEqDiff, Nat.reduceAdd, Nat.reduceSub, Nat.reduceMul, Nat.reduceLeDiff, Nat.reduceLT, Nat.reduceBEq, Nat.reduceDiv, Nat.reduceMod, Int.reduceLE, Int.reduceLT, Int.reduceEq, Int.reduceBEq, Int.reduceBNe, Int.reduceAdd, Int.reduceSub, Int.reduceNeg, Int.reduceToNat, Int.reduceMul, Int.reducePow, Nat.reducePow, reduceCtorEq, hkf, hkk, List.map_nil, List.length_nil, one_b1]
    rfl
  | cons k0 r =>
    have h0 : v.kids[0]? = some k0 := by rw [hkk]; rfl
    have hA := al_fam hm hk h0
    have hks : ∀ x ∈ v.kids, x.sz ≤ n ∧ x.sz ≤ 4000000 := fun x hx => by have := szL_in hx; omega
    have hstrip := strip_c v.kids (by omega) hA
    have hcode := code_al hi v.kids k0 h0 hA (by omega) hks
    obtain ⟨c1, c2, c3⟩ := codeOf_of h0 (hms k0 (List.mem_of_getElem? h0))
    have hr := code_range c3 c1
    have hk0 := hks k0 (List.mem_of_getElem? h0)
    have hcons := cons_nils hp v.kids k0 h0 hA (by omega) (by omega) (codeOf (v.kids.map shV)) hr.1 hr.2 hcode (by omega)
    have hne : ((v.kids.length : Int) == 0) = false := by rw [hkk]; simp; omega
    have hins : insS v = hdV k0 ++ b1 (codeOf (v.kids.map shV)) ++ catD (codeOf (v.kids.map shV)) (v.kids.map shV) := by
      have e1 : (v.kids.map encV).map Prod.fst = v.kids.map shV := by rw [List.map_map]; rfl
      unfold insS
      rw [if_pos hk]
      rw [hkk] at e1 ⊢
      simp only [List.map_cons] at e1 ⊢
      simp only [arrS, List.map_cons]
      rw [e1]; rfl
    generalize hC : codeOf (v.kids.map shV) = C at hcode c1 c2 hr hcons hins
    have hpsz : insR (insS v) = (.ret (.ref 0 0 1 0 (insS v).size), [some ⟨0, bytesD (insS v)⟩]) := by
      unfold insR
      rw [if_neg]
      rw [hins]; simp only [ByteArray.size_append, b1_size]; omega
    refine .inl ?_
    rw [hpsz]
    have hmx := ins_sz k0
    refine (ev_body ⟨[1], [(1, [2, 14, 15, 16]), (3, [2, 6, 40, 41, 42])], [], false, [], noIt⟩ [.tmp 2] rfl Tryd.func80 rfl rfl rfl (by kernel_rfl) (by show 1 ≤ 52; decide) (by kernel_rfl)).trans ?_
    simp +contextual (maxSteps := 10000000) only [↓reduceIte, go_sem, Nat.reduceEqDiff, Nat.reduceAdd, Nat.reduceSub, Nat.reduceMul, Nat.reduceLeDiff, Nat.reduceLT, Nat.reduceBEq, Nat.reduceDiv, Nat.reduceMod, Int.reduceLE, Int.reduceLT, Int.reduceEq, Int.reduceBEq, Int.reduceBNe, Int.reduceAdd, Int.reduceSub, Int.reduceNeg, Int.reduceToNat, Int.reduceMul, Int.reducePow, Nat.reducePow, reduceCtorEq, hkf, hcons, hstrip, hcode, hne]
    refine lpK_inv (fun m f es => ∃ (i : Nat) (j : Int) (acc : ByteArray), j = i ∧ m + i = v.kids.length ∧ acc = hdV k0 ++ b1 C ++ catD C ((v.kids.take i).map shV) ∧ f = [(2, .ref 0 0 1 0 acc.size), (6, .sc (.int .u8 C)), (40, .ro false ((v.kids.map bareV).map Val.d)), (41, I v.kids.length), (42, I j)] ∧ es = [some ⟨0, bytesD acc⟩]) v.kids.length ⟨0, _, hdV k0 ++ b1 C, rfl, by omega, (app_e0 _).symm, by rw [ByteArray.size_append, b1_size]; rfl, rfl⟩ ?_
    rintro m _ _ ⟨i, _, acc, rfl, hmi, hacc, rfl, rfl⟩ ih
    cases m with
    | succ m =>
      obtain ⟨x, hx⟩ := get_lt (l := v.kids) (i := i) (by omega)
      have hxm := List.mem_of_getElem? hx
      have hxs := szL_mem hx
      have hlt : decide ((i : Int) < v.kids.length) = true := by simp; omega
      obtain ⟨q1, q2, q3, q4⟩ := sh_bare _ x (Nat.le_refl _) (hms x hxm)
      have hix : ((v.kids.map bareV).map Val.d)[i]? = some (bareV x).d := by rw [List.getElem?_map, List.getElem?_map, hx]; rfl
      have hsn : (v.kids.take (i + 1)).map shV = (v.kids.take i).map shV ++ [shV x] := by rw [take_snoc hx, List.map_append]; rfl
      have hnx : acc ++ dataS C (shV x) = hdV k0 ++ b1 C ++ catD C ((v.kids.take (i + 1)).map shV) := by rw [hsn, catD_app, catD_one, hacc, ByteArray.append_assoc]
      have hal : ∀ y ∈ v.kids, (bareV y).kind = (bareV k0).kind := al_kind hA h0
      have hasz : acc.size ≤ 45000000 := by
        have h3 := szL_take v.kids i
        rw [hacc]; simp only [ByteArray.size_append, b1_size]
        cases i with
        | zero =>
          have := szL_in (List.mem_of_getElem? h0)
          simp only [List.take_zero, List.map_nil, catD, e0_size]; omega
        | succ i =>
          have h1 := catD_size2 C (encV k0) ((r.take i).map encV)
          have h2 := mx_szL (v.kids.take (i + 1))
          rw [encL_map, hkk, List.take_succ_cons, List.map_cons] at h2
          have e1 : (encV k0 :: (r.take i).map encV).map Prod.fst = (v.kids.take (i + 1)).map shV := by rw [hkk, List.take_succ_cons, List.map_cons, List.map_cons, List.map_map]; rfl
          rw [e1] at h1
          have e2 : (encV k0).2 = hdV k0 := rfl
          rw [e2] at h1
          rw [hkk, List.take_succ_cons] at h3
          rw [hkk] at hz
          omega
      have hdata := data_c acc (bareV x) C (by rw [hacc]; simp only [ByteArray.size_append, b1_size]; omega) hasz (by omega) q3 q2 (by rw [hal x hxm]; exact c1) (by rw [q1]; exact c2 x hxm) (hi (bareV x) (by omega) q3 q2)
      rw [q1] at hdata
      simp +contextual (maxSteps := 10000000) only [↓reduceIte, go_sem, Nat.reduceEqDiff, Nat.reduceAdd, Nat.reduceSub, Nat.reduceMul, Nat.reduceLeDiff, Nat.reduceLT, Nat.reduceBEq, Nat.reduceDiv, Nat.reduceMod, Int.reduceLE, Int.reduceLT, Int.reduceEq, Int.reduceBEq, Int.reduceBNe, Int.reduceAdd, Int.reduceSub, Int.reduceNeg, Int.reduceToNat, Int.reduceMul, Int.reducePow, Nat.reducePow, reduceCtorEq, hix, hlt, hdata, wrap_i64 (n := (i : Int) + 1) (by omega) (by omega)]
      refine ih m _ _ (by omega) ?_
      exact ⟨i + 1, (i : Int) + 1, acc ++ dataS C (shV x), by omega, by omega, hnx, by rw [ByteArray.size_append], rfl⟩
    | zero =>
      have hlt : decide ((i : Int) < v.kids.length) = false := by simp; omega
      obtain rfl : i = v.kids.length := by omega
      rw [List.take_length, ← hins] at hacc
      subst hacc
      simp +contextual (maxSteps := 10000000) only [↓reduceIte, go_sem, Nat.reduceEqDiff, Nat.reduceAdd, Nat.reduceSub, Nat.reduceMul, Nat.reduceLeDiff, Nat.reduceLT, Nat.reduceBEq, Nat.reduceDiv, Nat.reduceMod, Int.reduceLE, Int.reduceLT, Int.reduceEq, Int.reduceBEq, Int.reduceBNe, Int.reduceAdd, Int.reduceSub, Int.reduceNeg, Int.reduceToNat, Int.reduceMul, Int.reducePow, Nat.reducePow, reduceCtorEq, hlt]
theorem enc_ok : ∀ n, n ≤ 4000000 → InsOk n ∧ PutOk n
  | 0, _ => ⟨fun v hv => by rw [Val.sz_eq] at hv; omega, fun v hv => by rw [Val.sz_eq] at hv; omega⟩
  | n + 1, hn => by
    obtain ⟨h1, h2⟩ := enc_ok n (by omega)
    have h3 := ins_step h1 h2 hn
    exact ⟨h3, put_step h3 h2 hn⟩
/-- WHAT encode.Value ANSWERS -/
theorem encode_c (v : Val) (h : v.sz ≤ 4000000) (hw : v.wf) : EV 20 [v.d] [] = some (if rightS v = true then (.ret (.tup [.ref 0 0 1 0 (wrV v).size, I 0]), [some ⟨0, bytesD (wrV v)⟩]) else (.ret (.tup [.nils, I 1]), [])) := by
  have hr := right_c v h hw
  refine (ev_body ⟨[1], [], [], false, [], noIt⟩ [.tmp 2, .tmp 3] rfl Tryd.func20 rfl rfl rfl (by kernel_rfl) (by show 1 ≤ 9; decide) (by kernel_rfl)).trans ?_
  cases hb : rightS v with
  | true =>
    have hm : mayS v = true := by unfold rightS at hb; simp only [Bool.and_eq_true] at hb; exact hb.2
    have hp := ((enc_ok v.sz h).2 v (Nat.le_refl _) hm).1
    rw [hb] at hr
    simp +contextual (maxSteps := 10000000) only [↓reduceIte, go_sem, Nat.reduceEqDiff, Nat.reduceAdd, Nat.reduceSub, Nat.reduceMul, Nat.reduceLeDiff, Nat.reduceLT, Nat.reduceBEq, Nat.reduceDiv, Nat.reduceMod, Int.reduceLE, Int.reduceLT, Int.reduceEq, Int.reduceBEq, Int.reduceBNe, Int.reduceAdd, Int.reduceSub, Int.reduceNeg, Int.reduceToNat, Int.reduceMul, Int.reducePow, Nat.reducePow, reduceCtorEq, hr, hp]
  | false =>
    rw [hb] at hr
    simp +contextual (maxSteps := 10000000) only [↓reduceIte, go_sem, Nat.reduceEqDiff, Nat.reduceAdd, Nat.reduceSub, Nat.reduceMul, Nat.reduceLeDiff, Nat.reduceLT, Nat.reduceBEq, Nat.reduceDiv, Nat.reduceMod, Int.reduceLE, Int.reduceLT, Int.reduceEq, Int.reduceBEq, Int.reduceBNe, Int.reduceAdd, Int.reduceSub, Int.reduceNeg, Int.reduceToNat, Int.reduceMul, Int.reducePow, Nat.reducePow, reduceCtorEq, hr]
end Go.Bw.R1

namespace Go.Bw.R1
set_option maxRecDepth 5000
open Go Go.Bw Go.Proofs
/-- EqBytes, of parts of two rows -/
theorem eq_rr (s w : ByteArray) (o n p m : Nat) (h1 : o + n ≤ s.size) (h2 : p + m ≤ w.size) : EV 22 [.ref 0 0 1 o n, .ref 1 0 1 p m] [some ⟨0, bytesD s⟩, some ⟨0, bytesD w⟩] = some (.ret (B (decide (s.extract o (o + n) = w.extract p (p + m)))), [some ⟨0, bytesD s⟩, some ⟨0, bytesD w⟩]) := by
  refine (ev_body ⟨[], [], [], false, [], noIt⟩ [.tmp 4] rfl Tryd.func22 rfl rfl rfl (by kernel_rfl) (by show 2 ≤ 17; decide) (by kernel_rfl)).trans ?_
  simp +contextual (maxSteps := 10000000) only [↓reduceIte, go_sem, Nat.reduceEqDiff, Nat.reduceAdd, Nat.reduceSub, Nat.reduceMul, Nat.reduceLeDiff, Nat.reduceLT, Nat.reduceBEq, Nat.reduceDiv, Nat.reduceMod, Int.reduceLE, Int.reduceLT, Int.reduceEq, Int.reduceBEq, Int.reduceBNe, Int.reduceAdd, Int.reduceSub, Int.reduceNeg, Int.reduceToNat, Int.reduceMul, Int.reducePow, Nat.reducePow, reduceCtorEq, txtLe_eq, cv_sub h1, cv_sub h2]
theorem eq_rl (s w : ByteArray) (o n : Nat) (h1 : o + n ≤ s.size) : EV 22 [.ref 0 0 1 o n, .ro false (bytesD w)] [some ⟨0, bytesD s⟩] = some (.ret (B (decide (s.extract o (o + n) = w))), [some ⟨0, bytesD s⟩]) := by
  refine (ev_body ⟨[], [], [], false, [], noIt⟩ [.tmp 4] rfl Tryd.func22 rfl rfl rfl (by kernel_rfl) (by show 2 ≤ 17; decide) (by kernel_rfl)).trans ?_
  simp +contextual (maxSteps := 10000000) only [↓reduceIte, go_sem, Nat.reduceEqDiff, Nat.reduceAdd, Nat.reduceSub, Nat.reduceMul, Nat.reduceLeDiff, Nat.reduceLT, Nat.reduceBEq, Nat.reduceDiv, Nat.reduceMod, Int.reduceLE, Int.reduceLT, Int.reduceEq, Int.reduceBEq, Int.reduceBNe, Int.reduceAdd, Int.reduceSub, Int.reduceNeg, Int.reduceToNat, Int.reduceMul, Int.reducePow, Nat.reducePow, reduceCtorEq, txtLe_eq, cv_sub h1]
theorem eq_nn : EV 22 [.nils, .nils] [] = some (.ret (B true), []) := by
  have e : txtLe ⟨#[]⟩ ⟨#[]⟩ = true := by decide +kernel
  refine (ev_body ⟨[], [], [], false, [], noIt⟩ [.tmp 4] rfl Tryd.func22 rfl rfl rfl (by kernel_rfl) (by show 2 ≤ 17; decide) (by kernel_rfl)).trans ?_
  simp +contextual (maxSteps := 10000000) only [↓reduceIte, go_sem, Nat.reduceEqDiff, Nat.reduceAdd, Nat.reduceSub, Nat.reduceMul, Nat.reduceLeDiff, Nat.reduceLT, Nat.reduceBEq, Nat.reduceDiv, Nat.reduceMod, Int.reduceLE, Int.reduceLT, Int.reduceEq, Int.reduceBEq, Int.reduceBNe, Int.reduceAdd, Int.reduceSub, Int.reduceNeg, Int.reduceToNat, Int.reduceMul, Int.reducePow, Nat.reducePow, reduceCtorEq, txtLe_eq, e]
theorem eq_rn (s : ByteArray) (o n : Nat) (h1 : o + n ≤ s.size) : EV 22 [.ref 0 0 1 o n, .nils] [some ⟨0, bytesD s⟩] = some (.ret (B (decide (n = 0))), [some ⟨0, bytesD s⟩]) := by
  have e : (s.extract o (o + n) = ⟨#[]⟩) = (n = 0) := by
    apply propext
    have hz : (s.extract o (o + n)).size = n := by rw [ByteArray.size_extract]; omega
    constructor
    · intro h; rw [h] at hz; exact hz.symm
    · rintro rfl; exact ByteArray.ext (Array.eq_empty_of_size_eq_zero hz)
  refine (ev_body ⟨[], [], [], false, [], noIt⟩ [.tmp 4] rfl Tryd.func22 rfl rfl rfl (by kernel_rfl) (by show 2 ≤ 17; decide) (by kernel_rfl)).trans ?_
  simp +contextual (maxSteps := 10000000) only [↓reduceIte, go_sem, Nat.reduceEqDiff, Nat.reduceAdd, Nat.reduceSub, Nat.reduceMul, Nat.reduceLeDiff, Nat.reduceLT, Nat.reduceBEq, Nat.reduceDiv, Nat.reduceMod, Int.reduceLE, Int.reduceLT, Int.reduceEq, Int.reduceBEq, Int.reduceBNe, Int.reduceAdd, Int.reduceSub, Int.reduceNeg, Int.reduceToNat, Int.reduceMul, Int.reducePow, Nat.reducePow, reduceCtorEq, txtLe_eq, cv_sub h1, e]
abbrev Kl1 : Val := .mk 22 0 ⟨#[]⟩ [.mk 2 1 ⟨#[]⟩ [], .mk 3 7 ⟨#[]⟩ []]
abbrev Kl2 : Val := .mk 9 18446744073709551615 ⟨#[]⟩ []
abbrev Kl3 : Val := .mk 0 0 ⟨#[]⟩ []
theorem wr1 : wrV Kl1 = ⟨#[192, 4, 2, 65, 80, 7]⟩ := by decide +kernel
theorem wr2 : wrV Kl2 = ⟨#[84, 255]⟩ := by decide +kernel
theorem works5 : EV 18 [] [] = some (.ret (B true), []) := by
  have q1 := encode_c Kl1 (by decide +kernel) (by simp [Val.wf, Val.wfL])
  have q2 := encode_c Kl2 (by decide +kernel) (by simp [Val.wf, Val.wfL])
  have q3 := encode_c Kl3 (by decide +kernel) (by simp [Val.wf, Val.wfL])
  rw [if_pos (by decide +kernel), wr1] at q1
  rw [if_pos (by decide +kernel), wr2] at q2
  rw [if_neg (by decide +kernel)] at q3
  have e1 := eq_rl ⟨#[192, 4, 2, 65, 80, 7]⟩ ⟨#[192, 4, 2, 65, 80, 7]⟩ 0 6 (by decide)
  have e2 := eq_rl ⟨#[84, 255]⟩ ⟨#[84, 255]⟩ 0 2 (by decide)
  rw [decide_eq_true (by decide +kernel)] at e1 e2
  have m1 := many_c 22 [.mk 2 1 ⟨#[]⟩ [], .mk 3 7 ⟨#[]⟩ []] (by decide +kernel)
  simp only [List.map_cons, List.map_nil] at m1
  simp only [show (⟨#[192, 4, 2, 65, 80, 7]⟩ : ByteArray).size = 6 from rfl] at q1
  simp only [show (⟨#[84, 255]⟩ : ByteArray).size = 2 from rfl] at q2
  have b1 : bytesD ⟨#[192, 4, 2, 65, 80, 7]⟩ = [.sc (.int .u8 192), .sc (.int .u8 4), .sc (.int .u8 2), .sc (.int .u8 65), .sc (.int .u8 80), .sc (.int .u8 7)] := rfl
  have b2 : bytesD ⟨#[84, 255]⟩ = [.sc (.int .u8 84), .sc (.int .u8 255)] := rfl
  rw [b1] at q1 e1
  rw [b2] at q2 e2
  refine (ev_body ⟨[], [], [], false, [], noIt⟩ [.tmp 0] rfl Tryd.func18 rfl rfl rfl (by kernel_rfl) (by show 0 ≤ 45; decide) (by kernel_rfl)).trans ?_
  simp +contextual (maxSteps := 10000000) only [↓reduceIte, go_sem, Nat.reduceEqDiff, Nat.reduceAdd, Nat.reduceSub, Nat.reduceMul, Nat.reduceLeDiff, Nat.reduceLT, Nat.reduceBEq, Nat.reduceDiv, Nat.reduceMod, Int.reduceLE, Int.reduceLT, Int.reduceEq, Int.reduceBEq, Int.reduceBNe, Int.reduceAdd, Int.reduceSub, Int.reduceNeg, Int.reduceToNat, Int.reduceMul, Int.reducePow, Nat.reducePow, reduceCtorEq, number_c, bool_c, m1, q1, q2, q3, e1, e2]
end Go.Bw.R1

namespace Go.Bw.R1
set_option maxRecDepth 5000
open Go Go.Bw Go.Proofs
/-- how many bytes a number of a kind has at most, and how many it needs -/
def szK (k : Int) : Nat := if k = 3 ∨ k = 7 then 1 else if k = 4 ∨ k = 8 then 2 else if k = 5 ∨ k = 9 ∨ k = 11 ∨ k = 13 then 4 else 8
def wK (k n : Int) : Nat := if (k = 5 ∨ k = 6) ∧ n = 0 then 0 else if (k = 5 ∨ k = 6) ∧ n < 256 ∨ (k = 9 ∨ k = 10) ∧ sgn8 n = true then 1 else szK k
def beW (w : Nat) (n : Int) : ByteArray := if w = 0 then e0 else be w n
abbrev NV (k n : Int) : Val := .mk k n ⟨#[]⟩ []
theorem kinds12 {k : Int} (h0 : 3 ≤ k) (h1 : k ≤ 14) : k = 3 ∨ k = 4 ∨ k = 5 ∨ k = 6 ∨ k = 7 ∨ k = 8 ∨ k = 9 ∨ k = 10 ∨ k = 11 ∨ k = 12 ∨ k = 13 ∨ k = 14 := by omega
/-- the code of a number -/
def cK (k n : Int) : Int := codeOf [⟨k, n, ⟨#[]⟩, 0, insS (NV k n)⟩]
theorem data_num (k n : Int) (h0 : 3 ≤ k) (h1 : k ≤ 14) (hn : 0 ≤ n) : dataS (cK k n) ⟨k, n, ⟨#[]⟩, 0, insS (NV k n)⟩ = beW (wK k n) n := by
  have one : ∀ {c : Int} {w : Nat}, cK k n = c → dataS c ⟨k, n, ⟨#[]⟩, 0, insS (NV k n)⟩ = beW w n → wK k n = w → dataS (cK k n) ⟨k, n, ⟨#[]⟩, 0, insS (NV k n)⟩ = beW (wK k n) n := fun {c w} e1 e2 e3 => by
    rw [e1, e2, e3]
  rcases kinds12 h0 h1 with rfl | rfl | rfl | rfl | rfl | rfl | rfl | rfl | rfl | rfl | rfl | rfl
  · exact one (c := 80) (w := 1) rfl rfl rfl
  · exact one (c := 96) (w := 2) rfl rfl rfl
  · by_cases z : n = 0
    · subst z; exact one (c := 67) (w := 0) rfl rfl rfl
    · by_cases y : n < 256
      · refine one (c := 82) (w := 1) ?_ rfl ?_
        · simp [cK, codeOf, codesOf, fitS, z, show n ≤ 255 by omega]
        · simp [wK, z, y]
      · refine one (c := 112) (w := 4) ?_ rfl ?_
        · simp [cK, codeOf, codesOf, fitS, z, show ¬ n ≤ 255 by omega]
        · simp [wK, z, y, szK]
  · by_cases z : n = 0
    · subst z; exact one (c := 68) (w := 0) rfl rfl rfl
    · by_cases y : n < 256
      · refine one (c := 83) (w := 1) ?_ rfl ?_
        · simp [cK, codeOf, codesOf, fitS, z, show n ≤ 255 by omega]
        · simp [wK, z, y]
      · refine one (c := 128) (w := 8) ?_ rfl ?_
        · simp [cK, codeOf, codesOf, fitS, z, show ¬ n ≤ 255 by omega]
        · simp [wK, z, y, szK]
  · exact one (c := 81) (w := 1) rfl rfl rfl
  · exact one (c := 97) (w := 2) rfl rfl rfl
  · by_cases y : sgn8 n = true
    · refine one (c := 84) (w := 1) ?_ rfl ?_
      · simp [cK, codeOf, codesOf, fitS, y]
      · simp [wK, y]
    · refine one (c := 113) (w := 4) ?_ rfl ?_
      · simp [cK, codeOf, codesOf, fitS, y]
      · simp [wK, y, szK]
  · by_cases y : sgn8 n = true
    · refine one (c := 85) (w := 1) ?_ rfl ?_
      · simp [cK, codeOf, codesOf, fitS, y]
      · simp [wK, y]
    · refine one (c := 129) (w := 8) ?_ rfl ?_
      · simp [cK, codeOf, codesOf, fitS, y]
      · simp [wK, y, szK]
  · exact one (c := 114) (w := 4) rfl rfl rfl
  · exact one (c := 130) (w := 8) rfl rfl rfl
  · exact one (c := 115) (w := 4) rfl rfl rfl
  · exact one (c := 131) (w := 8) rfl rfl rfl
theorem sh_num (k n : Int) (h1 : k ≤ 14) : shV (NV k n) = ⟨k, n, ⟨#[]⟩, 0, insS (NV k n)⟩ := sh_ne (by simp only [Val.kind_mk]; omega)
theorem hd_num (k n : Int) (h1 : k ≤ 14) : hdV (NV k n) = e0 := hd_ne (by simp only [Val.kind_mk]; omega)
theorem wr_num (k n : Int) (h0 : 3 ≤ k) (h1 : k ≤ 14) (hn : 0 ≤ n) : wrV (NV k n) = b1 (cK k n) ++ beW (wK k n) n := by
  unfold wrV Wd
  rw [hd_num k n h1, sh_num k n h1, e0_app]
  exact congrArg _ (data_num k n h0 h1 hn)
theorem bd_lo (n : Int) : bytesD (b1 (n % 256)) = [.sc (.int .u8 (n % 256))] := by
  have h := one_b1 (ex := false) (n := n % 256) (by omega) (by omega)
  simp only [D.ro.injEq, true_and] at h
  exact h.symm
theorem bz_1 (n : Int) : (be 1 n).size = 1 := be_size (by simp [wOk]) n
theorem bd_1 (n : Int) : bytesD (be 1 n) = [.sc (.int .u8 (n % 256))] := by
  rw [be_1]; simp only [← bytesD_append, bd_lo, List.cons_append, List.nil_append]
theorem at_1_1 (c n : Int) : (List.take 1 (List.drop 1 (bytesD (b1 c ++ be 1 n)))).head? = some (.sc (.int .u8 (n % 256))) := by
  rw [← bytesD_append, bd_1]; rfl
theorem bz_2 (n : Int) : (be 2 n).size = 2 := be_size (by simp [wOk]) n
theorem bd_2 (n : Int) : bytesD (be 2 n) = [.sc (.int .u8 (n.fdiv 256 % 256)), .sc (.int .u8 (n % 256))] := by
  rw [be_2]; simp only [← bytesD_append, bd_lo, List.cons_append, List.nil_append]
theorem at_2_2 (c n : Int) : (List.take 1 (List.drop 2 (bytesD (b1 c ++ be 2 n)))).head? = some (.sc (.int .u8 (n % 256))) := by
  rw [← bytesD_append, bd_2]; rfl
theorem at_2_1 (c n : Int) : (List.take 1 (List.drop 1 (bytesD (b1 c ++ be 2 n)))).head? = some (.sc (.int .u8 (n.fdiv 256 % 256))) := by
  rw [← bytesD_append, bd_2]; rfl
theorem bz_4 (n : Int) : (be 4 n).size = 4 := be_size (by simp [wOk]) n
theorem bd_4 (n : Int) : bytesD (be 4 n) = [.sc (.int .u8 (n.fdiv 16777216 % 256)), .sc (.int .u8 (n.fdiv 65536 % 256)), .sc (.int .u8 (n.fdiv 256 % 256)), .sc (.int .u8 (n % 256))] := by
  rw [be_4]; simp only [← bytesD_append, bd_lo, List.cons_append, List.nil_append]
theorem at_4_4 (c n : Int) : (List.take 1 (List.drop 4 (bytesD (b1 c ++ be 4 n)))).head? = some (.sc (.int .u8 (n % 256))) := by
  rw [← bytesD_append, bd_4]; rfl
theorem at_4_3 (c n : Int) : (List.take 1 (List.drop 3 (bytesD (b1 c ++ be 4 n)))).head? = some (.sc (.int .u8 (n.fdiv 256 % 256))) := by
  rw [← bytesD_append, bd_4]; rfl
theorem at_4_2 (c n : Int) : (List.take 1 (List.drop 2 (bytesD (b1 c ++ be 4 n)))).head? = some (.sc (.int .u8 (n.fdiv 65536 % 256))) := by
  rw [← bytesD_append, bd_4]; rfl
theorem at_4_1 (c n : Int) : (List.take 1 (List.drop 1 (bytesD (b1 c ++ be 4 n)))).head? = some (.sc (.int .u8 (n.fdiv 16777216 % 256))) := by
  rw [← bytesD_append, bd_4]; rfl
theorem bz_8 (n : Int) : (be 8 n).size = 8 := be_size (by simp [wOk]) n
theorem bd_8 (n : Int) : bytesD (be 8 n) = [.sc (.int .u8 (n.fdiv 72057594037927936 % 256)), .sc (.int .u8 (n.fdiv 281474976710656 % 256)), .sc (.int .u8 (n.fdiv 1099511627776 % 256)), .sc (.int .u8 (n.fdiv 4294967296 % 256)), .sc (.int .u8 (n.fdiv 16777216 % 256)), .sc (.int .u8 (n.fdiv 65536 % 256)), .sc (.int .u8 (n.fdiv 256 % 256)), .sc (.int .u8 (n % 256))] := by
  rw [be_8]; simp only [← bytesD_append, bd_lo, List.cons_append, List.nil_append]
theorem at_8_8 (c n : Int) : (List.take 1 (List.drop 8 (bytesD (b1 c ++ be 8 n)))).head? = some (.sc (.int .u8 (n % 256))) := by
  rw [← bytesD_append, bd_8]; rfl
theorem at_8_7 (c n : Int) : (List.take 1 (List.drop 7 (bytesD (b1 c ++ be 8 n)))).head? = some (.sc (.int .u8 (n.fdiv 256 % 256))) := by
  rw [← bytesD_append, bd_8]; rfl
theorem at_8_6 (c n : Int) : (List.take 1 (List.drop 6 (bytesD (b1 c ++ be 8 n)))).head? = some (.sc (.int .u8 (n.fdiv 65536 % 256))) := by
  rw [← bytesD_append, bd_8]; rfl
theorem at_8_5 (c n : Int) : (List.take 1 (List.drop 5 (bytesD (b1 c ++ be 8 n)))).head? = some (.sc (.int .u8 (n.fdiv 16777216 % 256))) := by
  rw [← bytesD_append, bd_8]; rfl
theorem at_8_4 (c n : Int) : (List.take 1 (List.drop 4 (bytesD (b1 c ++ be 8 n)))).head? = some (.sc (.int .u8 (n.fdiv 4294967296 % 256))) := by
  rw [← bytesD_append, bd_8]; rfl
theorem at_8_3 (c n : Int) : (List.take 1 (List.drop 3 (bytesD (b1 c ++ be 8 n)))).head? = some (.sc (.int .u8 (n.fdiv 1099511627776 % 256))) := by
  rw [← bytesD_append, bd_8]; rfl
theorem at_8_2 (c n : Int) : (List.take 1 (List.drop 2 (bytesD (b1 c ++ be 8 n)))).head? = some (.sc (.int .u8 (n.fdiv 281474976710656 % 256))) := by
  rw [← bytesD_append, bd_8]; rfl
theorem at_8_1 (c n : Int) : (List.take 1 (List.drop 1 (bytesD (b1 c ++ be 8 n)))).head? = some (.sc (.int .u8 (n.fdiv 72057594037927936 % 256))) := by
  rw [← bytesD_append, bd_8]; rfl
theorem sgn_dec (n : Int) : (decide (-128 ≤ IntKind.i64.wrap n) && decide (IntKind.i64.wrap n < 128)) = sgn8 n := by
  unfold sgn8
  rw [Bool.eq_iff_iff]
  simp only [beq_iff_eq, Bool.and_eq_true, decide_eq_true_eq]
  rw [wrap_i64_eq, wrap_i8_eq]
  split <;> split <;> omega
set_option maxHeartbeats 2000000 in
theorem EncodeNumbers_c (k n : Int) (hk : 0 ≤ k ∧ k < 256) (h0 : 0 ≤ n) (h1 : n < 18446744073709551616) : EV 7 [.sc (.int .u8 k), .sc (.int .u64 n)] [] = some (.ret (B true), []) := by
  have hwf : (NV k n).wf := ⟨⟨hk.1, by omega, h0, by omega⟩, trivial⟩
  have hsz : (NV k n).sz ≤ 4000000 := by show 0 + 0 + 1 ≤ _; omega
  have hr := right_c (NV k n) hsz hwf
  have he := encode_c (NV k n) hsz hwf
  have hnum := number_c k n
  refine (ev_body ⟨[], [(1, [1, 6, 8, 10])], [], false, [], noIt⟩ [.tmp 4] rfl Tryd.func7 rfl rfl rfl (by kernel_rfl) (by show 2 ≤ 110; decide) (by kernel_rfl)).trans ?_
  cases hb : rightS (NV k n)
  · rw [hb] at hr
    simp +contextual (maxSteps := 10000000) only [↓reduceIte, go_sem, Nat.reduceEqDiff, Nat.reduceAdd, Nat.reduceSub, Nat.reduceMul, Nat.reduceLeDiff, Nat.reduceLT, Nat.reduceBEq, Nat.reduceDiv, Nat.reduceMod, Int.reduceLE, Int.reduceLT, Int.reduceEq, Int.reduceBEq, Int.reduceBNe, Int.reduceAdd, Int.reduceSub, Int.reduceNeg, Int.reduceToNat, Int.reduceMul, Int.reducePow, Nat.reducePow, reduceCtorEq, hnum, hr, works5]
  rw [hb] at hr he
  rw [if_pos rfl] at he
  by_cases k3 : k < 3
  · simp +contextual (maxSteps := 10000000) only [↓reduceIte, go_sem, Nat.reduceEqDiff, Nat.reduceAdd, Nat.reduceSub, Nat.reduceMul, Nat.reduceLeDiff, Nat.reduceLT, Nat.reduceBEq, Nat.reduceDiv, Nat.reduceMod, Int.reduceLE, Int.reduceLT, Int.reduceEq, Int.reduceBEq, Int.reduceBNe, Int.reduceAdd, Int.reduceSub, Int.reduceNeg, Int.reduceToNat, Int.reduceMul, Int.reducePow, Nat.reducePow, reduceCtorEq, hnum, hr, works5, decide_eq_true k3]
  by_cases k14 : 14 < k
  · simp +contextual (maxSteps := 10000000) only [↓reduceIte, go_sem, Nat.reduceEqDiff, Nat.reduceAdd, Nat.reduceSub, Nat.reduceMul, Nat.reduceLeDiff, Nat.reduceLT, Nat.reduceBEq, Nat.reduceDiv, Nat.reduceMod, Int.reduceLE, Int.reduceLT, Int.reduceEq, Int.reduceBEq, Int.reduceBNe, Int.reduceAdd, Int.reduceSub, Int.reduceNeg, Int.reduceToNat, Int.reduceMul, Int.reducePow, Nat.reducePow, reduceCtorEq, hnum, hr, works5, decide_eq_false k3, decide_eq_true k14]
  have g0 : 3 ≤ k := by omega
  have g1 : k ≤ 14 := by omega
  rw [wr_num k n g0 g1 h0] at he
  generalize cK k n = c at he
  clear hb k3 k14 hwf hsz
  rcases kinds12 g0 g1 with rfl | rfl | rfl | rfl | rfl | rfl | rfl | rfl | rfl | rfl | rfl | rfl
  · rw [show wK 3 n = 1 from rfl] at he
    rw [show beW 1 n = be 1 n from rfl] at he
    simp +contextual (maxSteps := 10000000) only [↓reduceIte, go_sem, Nat.reduceEqDiff, Nat.reduceAdd, Nat.reduceSub, Nat.reduceMul, Nat.reduceLeDiff, Nat.reduceLT, Nat.reduceBEq, Nat.reduceDiv, Nat.reduceMod, Int.reduceLE, Int.reduceLT, Int.reduceEq, Int.reduceBEq, Int.reduceBNe, Int.reduceAdd, Int.reduceSub, Int.reduceNeg, Int.reduceToNat, Int.reduceMul, Int.reducePow, Nat.reducePow, reduceCtorEq, hnum, hr, works5, he, lpK_go, bz_1, at_1_1, fdiv1, bne_self_eq_false]
  · rw [show wK 4 n = 2 from rfl] at he
    rw [show beW 2 n = be 2 n from rfl] at he
    simp +contextual (maxSteps := 10000000) only [↓reduceIte, go_sem, Nat.reduceEqDiff, Nat.reduceAdd, Nat.reduceSub, Nat.reduceMul, Nat.reduceLeDiff, Nat.reduceLT, Nat.reduceBEq, Nat.reduceDiv, Nat.reduceMod, Int.reduceLE, Int.reduceLT, Int.reduceEq, Int.reduceBEq, Int.reduceBNe, Int.reduceAdd, Int.reduceSub, Int.reduceNeg, Int.reduceToNat, Int.reduceMul, Int.reducePow, Nat.reducePow, reduceCtorEq, hnum, hr, works5, he, lpK_go, bz_2, at_2_1, at_2_2, fdiv1, bne_self_eq_false]
  · by_cases z : n = 0
    · subst z
      rw [show wK 5 0 = 0 from rfl] at he
      rw [show beW 0 0 = e0 from rfl, app_e0] at he
      simp +contextual (maxSteps := 10000000) only [↓reduceIte, go_sem, Nat.reduceEqDiff, Nat.reduceAdd, Nat.reduceSub, Nat.reduceMul, Nat.reduceLeDiff, Nat.reduceLT, Nat.reduceBEq, Nat.reduceDiv, Nat.reduceMod, Int.reduceLE, Int.reduceLT, Int.reduceEq, Int.reduceBEq, Int.reduceBNe, Int.reduceAdd, Int.reduceSub, Int.reduceNeg, Int.reduceToNat, Int.reduceMul, Int.reducePow, Nat.reducePow, reduceCtorEq, hnum, hr, works5, he, lpK_go]
    · by_cases y : n < 256
      · rw [show wK 5 n = 1 by simp [wK, z, y]] at he
        rw [show beW 1 n = be 1 n from rfl] at he
        simp +contextual (maxSteps := 10000000) only [↓reduceIte, go_sem, Nat.reduceEqDiff, Nat.reduceAdd, Nat.reduceSub, Nat.reduceMul, Nat.reduceLeDiff, Nat.reduceLT, Nat.reduceBEq, Nat.reduceDiv, Nat.reduceMod, Int.reduceLE, Int.reduceLT, Int.reduceEq, Int.reduceBEq, Int.reduceBNe, Int.reduceAdd, Int.reduceSub, Int.reduceNeg, Int.reduceToNat, Int.reduceMul, Int.reducePow, Nat.reducePow, reduceCtorEq, hnum, hr, works5, he, lpK_go, bz_1, at_1_1, fdiv1, bne_self_eq_false, z, decide_eq_true y, (show (n == 0) = false by simpa using z)]
      · rw [show wK 5 n = 4 by simp [wK, z, y, szK]] at he
        rw [show beW 4 n = be 4 n from rfl] at he
        simp +contextual (maxSteps := 10000000) only [↓reduceIte, go_sem, Nat.reduceEqDiff, Nat.reduceAdd, Nat.reduceSub, Nat.reduceMul, Nat.reduceLeDiff, Nat.reduceLT, Nat.reduceBEq, Nat.reduceDiv, Nat.reduceMod, Int.reduceLE, Int.reduceLT, Int.reduceEq, Int.reduceBEq, Int.reduceBNe, Int.reduceAdd, Int.reduceSub, Int.reduceNeg, Int.reduceToNat, Int.reduceMul, Int.reducePow, Nat.reducePow, reduceCtorEq, hnum, hr, works5, he, lpK_go, bz_4, at_4_1, at_4_2, at_4_3, at_4_4, fdiv1, bne_self_eq_false, z, decide_eq_false y, (show (n == 0) = false by simpa using z)]
  · by_cases z : n = 0
    · subst z
      rw [show wK 6 0 = 0 from rfl] at he
      rw [show beW 0 0 = e0 from rfl, app_e0] at he
      simp +contextual (maxSteps := 10000000) only [↓reduceIte, go_sem, Nat.reduceEqDiff, Nat.reduceAdd, Nat.reduceSub, Nat.reduceMul, Nat.reduceLeDiff, Nat.reduceLT, Nat.reduceBEq, Nat.reduceDiv, Nat.reduceMod, Int.reduceLE, Int.reduceLT, Int.reduceEq, Int.reduceBEq, Int.reduceBNe, Int.reduceAdd, Int.reduceSub, Int.reduceNeg, Int.reduceToNat, Int.reduceMul, Int.reducePow, Nat.reducePow, reduceCtorEq, hnum, hr, works5, he, lpK_go]
    · by_cases y : n < 256
      · rw [show wK 6 n = 1 by simp [wK, z, y]] at he
        rw [show beW 1 n = be 1 n from rfl] at he
        simp +contextual (maxSteps := 10000000) only [↓reduceIte, go_sem, Nat.reduceEqDiff, Nat.reduceAdd, Nat.reduceSub, Nat.reduceMul, Nat.reduceLeDiff, Nat.reduceLT, Nat.reduceBEq, Nat.reduceDiv, Nat.reduceMod, Int.reduceLE, Int.reduceLT, Int.reduceEq, Int.reduceBEq, Int.reduceBNe, Int.reduceAdd, Int.reduceSub, Int.reduceNeg, Int.reduceToNat, Int.reduceMul, Int.reducePow, Nat.reducePow, reduceCtorEq, hnum, hr, works5, he, lpK_go, bz_1, at_1_1, fdiv1, bne_self_eq_false, z, decide_eq_true y, (show (n == 0) = false by simpa using z)]
      · rw [show wK 6 n = 8 by simp [wK, z, y, szK]] at he
        rw [show beW 8 n = be 8 n from rfl] at he
        simp +contextual (maxSteps := 10000000) only [↓reduceIte, go_sem, Nat.reduceEqDiff, Nat.reduceAdd, Nat.reduceSub, Nat.reduceMul, Nat.reduceLeDiff, Nat.reduceLT, Nat.reduceBEq, Nat.reduceDiv, Nat.reduceMod, Int.reduceLE, Int.reduceLT, Int.reduceEq, Int.reduceBEq, Int.reduceBNe, Int.reduceAdd, Int.reduceSub, Int.reduceNeg, Int.reduceToNat, Int.reduceMul, Int.reducePow, Nat.reducePow, reduceCtorEq, hnum, hr, works5, he, lpK_go, bz_8, at_8_1, at_8_2, at_8_3, at_8_4, at_8_5, at_8_6, at_8_7, at_8_8, fdiv1, bne_self_eq_false, z, decide_eq_false y, (show (n == 0) = false by simpa using z)]
  · rw [show wK 7 n = 1 from rfl] at he
    rw [show beW 1 n = be 1 n from rfl] at he
    simp +contextual (maxSteps := 10000000) only [↓reduceIte, go_sem, Nat.reduceEqDiff, Nat.reduceAdd, Nat.reduceSub, Nat.reduceMul, Nat.reduceLeDiff, Nat.reduceLT, Nat.reduceBEq, Nat.reduceDiv, Nat.reduceMod, Int.reduceLE, Int.reduceLT, Int.reduceEq, Int.reduceBEq, Int.reduceBNe, Int.reduceAdd, Int.reduceSub, Int.reduceNeg, Int.reduceToNat, Int.reduceMul, Int.reducePow, Nat.reducePow, reduceCtorEq, hnum, hr, works5, he, lpK_go, bz_1, at_1_1, fdiv1, bne_self_eq_false]
  · rw [show wK 8 n = 2 from rfl] at he
    rw [show beW 2 n = be 2 n from rfl] at he
    simp +contextual (maxSteps := 10000000) only [↓reduceIte, go_sem, Nat.reduceEqDiff, Nat.reduceAdd, Nat.reduceSub, Nat.reduceMul, Nat.reduceLeDiff, Nat.reduceLT, Nat.reduceBEq, Nat.reduceDiv, Nat.reduceMod, Int.reduceLE, Int.reduceLT, Int.reduceEq, Int.reduceBEq, Int.reduceBNe, Int.reduceAdd, Int.reduceSub, Int.reduceNeg, Int.reduceToNat, Int.reduceMul, Int.reducePow, Nat.reducePow, reduceCtorEq, hnum, hr, works5, he, lpK_go, bz_2, at_2_1, at_2_2, fdiv1, bne_self_eq_false]
  · have hs := sgn_dec n
    by_cases y : sgn8 n = true
    · rw [show wK 9 n = 1 by simp [wK, y]] at he
      rw [y] at hs
      rw [show beW 1 n = be 1 n from rfl] at he
      simp +contextual (maxSteps := 10000000) only [↓reduceIte, go_sem, Nat.reduceEqDiff, Nat.reduceAdd, Nat.reduceSub, Nat.reduceMul, Nat.reduceLeDiff, Nat.reduceLT, Nat.reduceBEq, Nat.reduceDiv, Nat.reduceMod, Int.reduceLE, Int.reduceLT, Int.reduceEq, Int.reduceBEq, Int.reduceBNe, Int.reduceAdd, Int.reduceSub, Int.reduceNeg, Int.reduceToNat, Int.reduceMul, Int.reducePow, Nat.reducePow, reduceCtorEq, hnum, hr, works5, he, lpK_go, bz_1, at_1_1, fdiv1, bne_self_eq_false, hs]
    · rw [show wK 9 n = 4 by simp [wK, y, szK]] at he
      rw [Bool.eq_false_iff.2 y] at hs
      rw [show beW 4 n = be 4 n from rfl] at he
      simp +contextual (maxSteps := 10000000) only [↓reduceIte, go_sem, Nat.reduceEqDiff, Nat.reduceAdd, Nat.reduceSub, Nat.reduceMul, Nat.reduceLeDiff, Nat.reduceLT, Nat.reduceBEq, Nat.reduceDiv, Nat.reduceMod, Int.reduceLE, Int.reduceLT, Int.reduceEq, Int.reduceBEq, Int.reduceBNe, Int.reduceAdd, Int.reduceSub, Int.reduceNeg, Int.reduceToNat, Int.reduceMul, Int.reducePow, Nat.reducePow, reduceCtorEq, hnum, hr, works5, he, lpK_go, bz_4, at_4_1, at_4_2, at_4_3, at_4_4, fdiv1, bne_self_eq_false, hs]
  · have hs := sgn_dec n
    by_cases y : sgn8 n = true
    · rw [show wK 10 n = 1 by simp [wK, y]] at he
      rw [y] at hs
      rw [show beW 1 n = be 1 n from rfl] at he
      simp +contextual (maxSteps := 10000000) only [↓reduceIte, go_sem, Nat.reduceEqDiff, Nat.reduceAdd, Nat.reduceSub, Nat.reduceMul, Nat.reduceLeDiff, Nat.reduceLT, Nat.reduceBEq, Nat.reduceDiv, Nat.reduceMod, Int.reduceLE, Int.reduceLT, Int.reduceEq, Int.reduceBEq, Int.reduceBNe, Int.reduceAdd, Int.reduceSub, Int.reduceNeg, Int.reduceToNat, Int.reduceMul, Int.reducePow, Nat.reducePow, reduceCtorEq, hnum, hr, works5, he, lpK_go, bz_1, at_1_1, fdiv1, bne_self_eq_false, hs]
    · rw [show wK 10 n = 8 by simp [wK, y, szK]] at he
      rw [Bool.eq_false_iff.2 y] at hs
      rw [show beW 8 n = be 8 n from rfl] at he
      simp +contextual (maxSteps := 10000000) only [↓reduceIte, go_sem, Nat.reduceEqDiff, Nat.reduceAdd, Nat.reduceSub, Nat.reduceMul, Nat.reduceLeDiff, Nat.reduceLT, Nat.reduceBEq, Nat.reduceDiv, Nat.reduceMod, Int.reduceLE, Int.reduceLT, Int.reduceEq, Int.reduceBEq, Int.reduceBNe, Int.reduceAdd, Int.reduceSub, Int.reduceNeg, Int.reduceToNat, Int.reduceMul, Int.reducePow, Nat.reducePow, reduceCtorEq, hnum, hr, works5, he, lpK_go, bz_8, at_8_1, at_8_2, at_8_3, at_8_4, at_8_5, at_8_6, at_8_7, at_8_8, fdiv1, bne_self_eq_false, hs]
  · rw [show wK 11 n = 4 from rfl] at he
    rw [show beW 4 n = be 4 n from rfl] at he
    simp +contextual (maxSteps := 10000000) only [↓reduceIte, go_sem, Nat.reduceEqDiff, Nat.reduceAdd, Nat.reduceSub, Nat.reduceMul, Nat.reduceLeDiff, Nat.reduceLT, Nat.reduceBEq, Nat.reduceDiv, Nat.reduceMod, Int.reduceLE, Int.reduceLT, Int.reduceEq, Int.reduceBEq, Int.reduceBNe, Int.reduceAdd, Int.reduceSub, Int.reduceNeg, Int.reduceToNat, Int.reduceMul, Int.reducePow, Nat.reducePow, reduceCtorEq, hnum, hr, works5, he, lpK_go, bz_4, at_4_1, at_4_2, at_4_3, at_4_4, fdiv1, bne_self_eq_false]
  · rw [show wK 12 n = 8 from rfl] at he
    rw [show beW 8 n = be 8 n from rfl] at he
    simp +contextual (maxSteps := 10000000) only [↓reduceIte, go_sem, Nat.reduceEqDiff, Nat.reduceAdd, Nat.reduceSub, Nat.reduceMul, Nat.reduceLeDiff, Nat.reduceLT, Nat.reduceBEq, Nat.reduceDiv, Nat.reduceMod, Int.reduceLE, Int.reduceLT, Int.reduceEq, Int.reduceBEq, Int.reduceBNe, Int.reduceAdd, Int.reduceSub, Int.reduceNeg, Int.reduceToNat, Int.reduceMul, Int.reducePow, Nat.reducePow, reduceCtorEq, hnum, hr, works5, he, lpK_go, bz_8, at_8_1, at_8_2, at_8_3, at_8_4, at_8_5, at_8_6, at_8_7, at_8_8, fdiv1, bne_self_eq_false]
  · rw [show wK 13 n = 4 from rfl] at he
    rw [show beW 4 n = be 4 n from rfl] at he
    simp +contextual (maxSteps := 10000000) only [↓reduceIte, go_sem, Nat.reduceEqDiff, Nat.reduceAdd, Nat.reduceSub, Nat.reduceMul, Nat.reduceLeDiff, Nat.reduceLT, Nat.reduceBEq, Nat.reduceDiv, Nat.reduceMod, Int.reduceLE, Int.reduceLT, Int.reduceEq, Int.reduceBEq, Int.reduceBNe, Int.reduceAdd, Int.reduceSub, Int.reduceNeg, Int.reduceToNat, Int.reduceMul, Int.reducePow, Nat.reducePow, reduceCtorEq, hnum, hr, works5, he, lpK_go, bz_4, at_4_1, at_4_2, at_4_3, at_4_4, fdiv1, bne_self_eq_false]
  · rw [show wK 14 n = 8 from rfl] at he
    rw [show beW 8 n = be 8 n from rfl] at he
    simp +contextual (maxSteps := 10000000) only [↓reduceIte, go_sem, Nat.reduceEqDiff, Nat.reduceAdd, Nat.reduceSub, Nat.reduceMul, Nat.reduceLeDiff, Nat.reduceLT, Nat.reduceBEq, Nat.reduceDiv, Nat.reduceMod, Int.reduceLE, Int.reduceLT, Int.reduceEq, Int.reduceBEq, Int.reduceBNe, Int.reduceAdd, Int.reduceSub, Int.reduceNeg, Int.reduceToNat, Int.reduceMul, Int.reducePow, Nat.reducePow, reduceCtorEq, hnum, hr, works5, he, lpK_go, bz_8, at_8_1, at_8_2, at_8_3, at_8_4, at_8_5, at_8_6, at_8_7, at_8_8, fdiv1, bne_self_eq_false]
end Go.Bw.R1

namespace Go.Bw.R1
set_option maxRecDepth 5000
open Go Go.Bw Go.Proofs
abbrev TV (k : Int) (s : ByteArray) : Val := .mk k 0 s []
theorem kinds7 {k : Int} (h0 : 15 ≤ k) (h1 : k ≤ 21) : k = 15 ∨ k = 16 ∨ k = 17 ∨ k = 18 ∨ k = 19 ∨ k = 20 ∨ k = 21 := by omega
/-- a text's head -/
def hdT (k : Int) (s : ByteArray) : ByteArray := b1 (codeOf [⟨k, 0, s, 0, insS (TV k s)⟩]) ++ (if k < 19 then e0 else if s.size ≤ 255 then be 1 s.size else be 4 s.size)
theorem wr_text (k : Int) (s : ByteArray) (h0 : 15 ≤ k) (h1 : k ≤ 21) (hs : k = 16 ∨ k = 17 → s ≠ e0) : wrV (TV k s) = hdT k s ++ s := by
  have e1 : shV (TV k s) = ⟨k, 0, s, 0, insS (TV k s)⟩ := sh_ne (by simp only [Val.kind_mk]; omega)
  have e2 : hdV (TV k s) = e0 := hd_ne (by simp only [Val.kind_mk]; omega)
  have one : ∀ {c : Int} {w : ByteArray}, codeOf [⟨k, 0, s, 0, insS (TV k s)⟩] = c → dataS c ⟨k, 0, s, 0, insS (TV k s)⟩ = w ++ s → (if k < 19 then e0 else if s.size ≤ 255 then be 1 s.size else be 4 s.size) = w → wrV (TV k s) = hdT k s ++ s := fun {c w} q1 q2 q3 => by
    unfold wrV Wd hdT
    rw [e1, e2, q1, q2, q3, e0_app, ByteArray.append_assoc]
  rcases kinds7 h0 h1 with rfl | rfl | rfl | rfl | rfl | rfl | rfl
  · exact one (c := 152) (w := e0) rfl (e0_app s).symm rfl
  · exact one (c := 116) (w := e0) rfl ((if_neg (hs (.inl rfl))).trans (e0_app s).symm) rfl
  · exact one (c := 132) (w := e0) rfl ((if_neg (hs (.inr rfl))).trans (e0_app s).symm) rfl
  · exact one (c := 148) (w := e0) rfl (e0_app s).symm rfl
  all_goals
    by_cases h : s.size ≤ 255
    · refine one (w := be 1 s.size) (by simp only [codeOf, codesOf, List.headD_cons, List.all_cons, List.all_nil, fitS]; simp [h]; rfl) ?_ (by simp [h])
      rfl
    · refine one (w := be 4 s.size) (by simp only [codeOf, codesOf, List.headD_cons, List.all_cons, List.all_nil, fitS]; simp [h]; rfl) ?_ (by simp [h])
      rfl
theorem right_text (k : Int) (s : ByteArray) (h : rightS (TV k s) = true) : k = 16 ∨ k = 17 → s ≠ e0 := by
  rintro hk rfl
  unfold rightS at h
  rw [mayS_eq] at h
  simp only [Bool.and_eq_true, Val.kind_mk, Val.text_mk] at h
  have ht := h.2.2.1.2
  rcases hk with rfl | rfl
  · exact absurd ht (by decide)
  · exact absurd ht (by decide)
theorem ext_tail (h s : ByteArray) (n : Nat) (hn : n = s.size) : (h ++ s).extract h.size (h.size + n) = s := by
  subst hn
  apply ByteArray.ext
  rw [ByteArray.data_extract, ByteArray.data_append]
  apply Array.ext'
  simp only [Array.toList_extract, List.extract_eq_take_drop, Array.toList_append]
  have e1 : h.size = h.data.toList.length := rfl
  have e2 : s.size = s.data.toList.length := rfl
  rw [e1, e2, List.drop_left, Nat.add_sub_cancel_left, List.take_length]
section
variable {P : Program} {es : Sto} {src dst : TypeId}
theorem cv_tail {id v off n : Nat} {h s : ByteArray} (hh : h.size = off) (hn : n = s.size) (h1 : isBytes P src = true) (h2 : isStr P dst = true) (hr : rowOf es id = some ⟨v, bytesD (h ++ s)⟩) : convD P (stL es) src dst (.ref id v 1 off n) = some (.sc (.string s), stL es) := by
  subst hh
  have k := cv_sub (P := P) (src := src) (dst := dst) (off := h.size) (n := n) (by rw [ByteArray.size_append]; omega) h1 h2 hr
  rw [ext_tail h s n hn] at k
  exact k
end
theorem at_app {A s : ByteArray} {i : Nat} {d : D} (h : (List.take 1 (List.drop i (bytesD A))).head? = some d) : (List.take 1 (List.drop i (bytesD (A ++ s)))).head? = some d := by
  rw [List.head?_take, List.head?_drop] at h ⊢
  simp only [Nat.one_ne_zero, if_false] at h ⊢
  rw [← bytesD_append, List.getElem?_append_left (List.getElem?_eq_some_iff.1 h).1]
  exact h
set_option maxHeartbeats 2000000 in
theorem EncodeTexts_c (k : Int) (s : ByteArray) (hk : 0 ≤ k ∧ k < 256) : EV 8 [.sc (.int .u8 k), .sc (.string s)] [] = some (.ret (B true), []) := by
  have ht := text_c k s
  refine (ev_body ⟨[], [], [], false, [], noIt⟩ [.tmp 4] rfl Tryd.func8 rfl rfl rfl (by kernel_rfl) (by show 2 ≤ 103; decide) (by kernel_rfl)).trans ?_
  by_cases h4 : (4096 : Int) < s.size
  · simp +contextual (maxSteps := 10000000) only [↓reduceIte, go_sem, Nat.reduceEqDiff, Nat.reduceAdd, Nat.reduceSub, Nat.reduceMul, Nat.reduceLeDiff, Nat.reduceLT, Nat.reduceBEq, Nat.reduceDiv, Nat.reduceMod, Int.reduceLE, Int.reduceLT, Int.reduceEq, Int.reduceBEq, Int.reduceBNe, Int.reduceAdd, Int.reduceSub, Int.reduceNeg, Int.reduceToNat, Int.reduceMul, Int.reducePow, Nat.reducePow, reduceCtorEq, ht, works5, decide_eq_true h4]
  by_cases k3 : k < 15
  · simp +contextual (maxSteps := 10000000) only [↓reduceIte, go_sem, Nat.reduceEqDiff, Nat.reduceAdd, Nat.reduceSub, Nat.reduceMul, Nat.reduceLeDiff, Nat.reduceLT, Nat.reduceBEq, Nat.reduceDiv, Nat.reduceMod, Int.reduceLE, Int.reduceLT, Int.reduceEq, Int.reduceBEq, Int.reduceBNe, Int.reduceAdd, Int.reduceSub, Int.reduceNeg, Int.reduceToNat, Int.reduceMul, Int.reducePow, Nat.reducePow, reduceCtorEq, ht, works5, decide_eq_false h4, decide_eq_true k3]
  by_cases k14 : 21 < k
  · simp +contextual (maxSteps := 10000000) only [↓reduceIte, go_sem, Nat.reduceEqDiff, Nat.reduceAdd, Nat.reduceSub, Nat.reduceMul, Nat.reduceLeDiff, Nat.reduceLT, Nat.reduceBEq, Nat.reduceDiv, Nat.reduceMod, Int.reduceLE, Int.reduceLT, Int.reduceEq, Int.reduceBEq, Int.reduceBNe, Int.reduceAdd, Int.reduceSub, Int.reduceNeg, Int.reduceToNat, Int.reduceMul, Int.reducePow, Nat.reducePow, reduceCtorEq, ht, works5, decide_eq_false h4, decide_eq_false k3, decide_eq_true k14]
  have hwf : (TV k s).wf := ⟨⟨hk.1, by omega, by decide, by decide⟩, trivial⟩
  have hsz : (TV k s).sz ≤ 4000000 := by show s.size + 0 + 1 ≤ _; omega
  have hr := right_c (TV k s) hsz hwf
  have he := encode_c (TV k s) hsz hwf
  cases hb : rightS (TV k s)
  · rw [hb] at hr
    simp +contextual (maxSteps := 10000000) only [↓reduceIte, go_sem, Nat.reduceEqDiff, Nat.reduceAdd, Nat.reduceSub, Nat.reduceMul, Nat.reduceLeDiff, Nat.reduceLT, Nat.reduceBEq, Nat.reduceDiv, Nat.reduceMod, Int.reduceLE, Int.reduceLT, Int.reduceEq, Int.reduceBEq, Int.reduceBNe, Int.reduceAdd, Int.reduceSub, Int.reduceNeg, Int.reduceToNat, Int.reduceMul, Int.reducePow, Nat.reducePow, reduceCtorEq, ht, hr, works5, decide_eq_false h4, decide_eq_false k3, decide_eq_false k14]
  rw [hb] at hr he
  rw [if_pos rfl, wr_text k s (by omega) (by omega) (right_text k s hb)] at he
  unfold hdT at he
  generalize codeOf _ = c at he
  have emp : s.size = 0 → s = e0 := fun h => ByteArray.ext (Array.eq_empty_of_size_eq_zero h)
  have hw : ∀ h : Int, 0 ≤ h → h ≤ 5 → IntKind.i64.wrap (h + s.size) = h + s.size := fun h _ hh => wrap_i64 (by omega) (by omega)
  have le (h j : Nat) (hj : j ≤ h) : (j ≤ h + s.size) = True := eq_true (by omega)
  have lt (h j : Int) (hj : j < h) : (j < h + s.size) = True := eq_true (by omega)
  have m1 : (IntKind.i64.wrap ((s.size : Int) % 256) == (s.size : Int).tmod 256) = true := by rw [wrap_i64 (by omega) (by omega), Int.tmod_eq_emod_of_nonneg (by omega)]; exact beq_self_eq_true _
  have m2 : (IntKind.i64.wrap ((s.size : Int).fdiv 256 % 256) == IntKind.i64.wrap ((s.size : Int).tdiv 256)) = true := by
    rw [Int.fdiv_eq_ediv_of_nonneg _ (by decide), Int.tdiv_eq_ediv_of_nonneg (by omega), wrap_i64 (by omega) (by omega), wrap_i64 (by omega) (by omega)]
    simp only [beq_iff_eq]; omega
  have m3 : ((s.size : Int).fdiv 65536 % 256 == 0) = true := by rw [Int.fdiv_eq_ediv_of_nonneg _ (by decide)]; simp only [beq_iff_eq]; omega
  have m4 : ((s.size : Int).fdiv 16777216 % 256 == 0) = true := by rw [Int.fdiv_eq_ediv_of_nonneg _ (by decide)]; simp only [beq_iff_eq]; omega
  have ee : decide ((⟨#[]⟩ : ByteArray) = e0) = true := by decide +kernel
  have sb (h : Nat) : h + s.size - h = s.size := by omega
  by_cases k19 : k < 19
  · rw [if_pos k19, app_e0, show (b1 c ++ s).size = 1 + s.size by rw [ByteArray.size_append, b1_size]] at he
    have hge : decide (19 ≤ k) = false := decide_eq_false (by omega)
    by_cases hz : s.size = 0
    · obtain rfl := emp hz
      simp +contextual (maxSteps := 10000000) only [↓reduceIte, go_sem, Nat.reduceEqDiff, Nat.reduceAdd, Nat.reduceSub, Nat.reduceMul, Nat.reduceLeDiff, Nat.reduceLT, Nat.reduceBEq, Nat.reduceDiv, Nat.reduceMod, Int.reduceLE, Int.reduceLT, Int.reduceEq, Int.reduceBEq, Int.reduceBNe, Int.reduceAdd, Int.reduceSub, Int.reduceNeg, Int.reduceToNat, Int.reduceMul, Int.reducePow, Nat.reducePow, reduceCtorEq, ht, hr, works5, decide_eq_false h4, decide_eq_false k3, decide_eq_false k14, he, hge, e0_size, bne_self_eq_false]
      rfl
    · have ne : (1 = 1 + s.size) = False := eq_false (by omega)
      simp +contextual (maxSteps := 10000000) only [↓reduceIte, go_sem, Nat.reduceEqDiff, Nat.reduceAdd, Nat.reduceSub, Nat.reduceMul, Nat.reduceLeDiff, Nat.reduceLT, Nat.reduceBEq, Nat.reduceDiv, Nat.reduceMod, Int.reduceLE, Int.reduceLT, Int.reduceEq, Int.reduceBEq, Int.reduceBNe, Int.reduceAdd, Int.reduceSub, Int.reduceNeg, Int.reduceToNat, Int.reduceMul, Int.reducePow, Nat.reducePow, reduceCtorEq, ht, hr, works5, decide_eq_false h4, decide_eq_false k3, decide_eq_false k14, he, hge, cv_tail (h := b1 c) (s := s) (off := 1) rfl, hw 1 (by decide) (by decide), le, lt, sb, m1, m2, m3, m4, ne, bne_self_eq_false]
  rw [if_neg k19] at he
  have hge : decide (19 ≤ k) = true := decide_eq_true (by omega)
  by_cases h2 : s.size ≤ 255
  · rw [if_pos h2, show (b1 c ++ be 1 s.size ++ s).size = 2 + s.size by simp only [ByteArray.size_append, b1_size, bz_1]] at he
    have h255 : decide ((255 : Int) < s.size) = false := decide_eq_false (by omega)
    by_cases hz : s.size = 0
    · obtain rfl := emp hz
      simp +contextual (maxSteps := 10000000) only [↓reduceIte, go_sem, Nat.reduceEqDiff, Nat.reduceAdd, Nat.reduceSub, Nat.reduceMul, Nat.reduceLeDiff, Nat.reduceLT, Nat.reduceBEq, Nat.reduceDiv, Nat.reduceMod, Int.reduceLE, Int.reduceLT, Int.reduceEq, Int.reduceBEq, Int.reduceBNe, Int.reduceAdd, Int.reduceSub, Int.reduceNeg, Int.reduceToNat, Int.reduceMul, Int.reducePow, Nat.reducePow, reduceCtorEq, ht, hr, works5, decide_eq_false h4, decide_eq_false k3, decide_eq_false k14, he, hge, e0_size, bne_self_eq_false, h255, bz_1, ee, show (IntKind.i64.wrap (0 % 256) == (0 : Int).tmod 256) = true from by decide +kernel, show IntKind.i64.wrap 0 = 0 from rfl, show (0 : Int) % 256 = 0 from rfl, show Int.tmod 0 256 = 0 from rfl, beq_self_eq_true, at_app (s := e0) (at_1_1 c 0)]
    · have ne : (2 = 2 + s.size) = False := eq_false (by omega)
      simp +contextual (maxSteps := 10000000) only [↓reduceIte, go_sem, Nat.reduceEqDiff, Nat.reduceAdd, Nat.reduceSub, Nat.reduceMul, Nat.reduceLeDiff, Nat.reduceLT, Nat.reduceBEq, Nat.reduceDiv, Nat.reduceMod, Int.reduceLE, Int.reduceLT, Int.reduceEq, Int.reduceBEq, Int.reduceBNe, Int.reduceAdd, Int.reduceSub, Int.reduceNeg, Int.reduceToNat, Int.reduceMul, Int.reducePow, Nat.reducePow, reduceCtorEq, ht, hr, works5, decide_eq_false h4, decide_eq_false k3, decide_eq_false k14, he, hge, bz_1, cv_tail (h := b1 c ++ be 1 s.size) (s := s) (off := 2) rfl, hw 2 (by decide) (by decide), le, lt, sb, m1, m2, m3, m4, ne, bne_self_eq_false, h255, at_app (s := s) (at_1_1 c s.size)]
  · rw [if_neg h2, show (b1 c ++ be 4 s.size ++ s).size = 5 + s.size by simp only [ByteArray.size_append, b1_size, bz_4]] at he
    have h255 : decide ((255 : Int) < s.size) = true := decide_eq_true (by omega)
    have ne : (5 = 5 + s.size) = False := eq_false (by omega)
    simp +contextual (maxSteps := 10000000) only [↓reduceIte, go_sem, Nat.reduceEqDiff, Nat.reduceAdd, Nat.reduceSub, Nat.reduceMul, Nat.reduceLeDiff, Nat.reduceLT, Nat.reduceBEq, Nat.reduceDiv, Nat.reduceMod, Int.reduceLE, Int.reduceLT, Int.reduceEq, Int.reduceBEq, Int.reduceBNe, Int.reduceAdd, Int.reduceSub, Int.reduceNeg, Int.reduceToNat, Int.reduceMul, Int.reducePow, Nat.reducePow, reduceCtorEq, ht, hr, works5, decide_eq_false h4, decide_eq_false k3, decide_eq_false k14, he, hge, bz_4, cv_tail (h := b1 c ++ be 4 s.size) (s := s) (off := 5) rfl, hw 5 (by decide) (by decide), le, lt, sb, m1, m2, m3, m4, ne, bne_self_eq_false, h255, at_app (s := s) (at_4_1 c s.size), at_app (s := s) (at_4_2 c s.size), at_app (s := s) (at_4_3 c s.size), at_app (s := s) (at_4_4 c s.size)]
end Go.Bw.R1

namespace Go.Bw.R1
set_option maxRecDepth 5000
open Go Go.Bw Go.Proofs
abbrev DV (a x : Val) : Val := .mk 25 0 ⟨#[]⟩ [a, x]
theorem wr_desc (a x : Val) : wrV (DV a x) = b1 0 ++ wrV a ++ wrV x := by
  obtain ⟨h1, h2⟩ := enc_desc (v := DV a x) (a := a) (x := x) rfl rfl
  show Wd (shV (DV a x)) (hdV (DV a x)) = _
  rw [h1, h2]
  show _ = b1 0 ++ wrV a ++ Wd (shV x) (hdV x)
  unfold Wd
  simp only [ByteArray.append_assoc]
theorem right_desc {a x : Val} (h : rightS (DV a x) = true) : rightS a = true ∧ rightS x = true := by
  unfold rightS at *
  rw [mayS_eq] at h
  have hd : (DV a x).depth = max a.depth x.depth + 1 := by rw [Val.depth_eq]; simp only [Val.kids_mk, Val.depthL]; omega
  have hi : (DV a x).items = a.items + x.items + 1 := by rw [Val.items_eq]; simp only [Val.kids_mk, Val.itemsL]; omega
  rw [hd, hi] at h
  simp only [Bool.and_eq_true, decide_eq_true_eq, Val.kids_mk, mayL] at h ⊢
  exact ⟨⟨⟨by omega, by omega⟩, h.2.1.2.1⟩, ⟨⟨by omega, by omega⟩, h.2.1.2.2.1⟩⟩
set_option maxHeartbeats 2000000 in
theorem EncodeDescs_c (v : Val) (name : Int) (s : ByteArray) (hw : v.wf) (hs : v.sz ≤ 1048576) (h0 : 0 ≤ name) (h1 : name < 18446744073709551616) : EV 10 [v.d, .sc (.int .u64 name), .sc (.string s)] [] = some (.ret (B true), []) := by
  have hn := number_c 6 name
  have ht := text_c 21 s
  have hl := large1 v (by omega)
  refine (ev_body ⟨[3], [(0, [3, 7, 8])], [(7, [(6, 0, true), (0, 0, false), (1, 0, false), (2, 0, false), (3, 0, false), (4, 0, false), (5, 0, false), (7, 0, true)])], false, [], noIt⟩ [.tmp 6] rfl Tryd.func10 rfl rfl rfl (by kernel_rfl) (by show 3 ≤ 88; decide) (by kernel_rfl)).trans ?_
  cases hb : decide (8192 < lgS [v])
  · rw [hb] at hl
    by_cases hz : (1024 : Int) < s.size
    · simp +contextual (maxSteps := 10000000) only [↓reduceIte, go_sem, Nat.reduceEqDiff, Nat.reduceAdd, Nat.reduceSub, Nat.reduceMul, Nat.reduceLeDiff, Nat.reduceLT, Nat.reduceBEq, Nat.reduceDiv, Nat.reduceMod, Int.reduceLE, Int.reduceLT, Int.reduceEq, Int.reduceBEq, Int.reduceBNe, Int.reduceAdd, Int.reduceSub, Int.reduceNeg, Int.reduceToNat, Int.reduceMul, Int.reducePow, Nat.reducePow, reduceCtorEq, hl, works5, decide_eq_true hz]
    · simp +contextual (maxSteps := 10000000) only [↓reduceIte, go_sem, Nat.reduceEqDiff, Nat.reduceAdd, Nat.reduceSub, Nat.reduceMul, Nat.reduceLeDiff, Nat.reduceLT, Nat.reduceBEq, Nat.reduceDiv, Nat.reduceMod, Int.reduceLE, Int.reduceLT, Int.reduceEq, Int.reduceBEq, Int.reduceBNe, Int.reduceAdd, Int.reduceSub, Int.reduceNeg, Int.reduceToNat, Int.reduceMul, Int.reducePow, Nat.reducePow, reduceCtorEq, hl, works5, decide_eq_false hz, hn, ht]
      have hA : ∃ na nb : Val, NV 6 name = na ∧ TV 21 s = nb := ⟨_, _, rfl, rfl⟩
      obtain ⟨na, nb, ea, eb⟩ := hA
      have wa : na.wf := by rw [← ea]; exact ⟨⟨by decide, by decide, h0, by omega⟩, trivial⟩
      have wb : nb.wf := by rw [← eb]; exact ⟨⟨by decide, by decide, by decide, by decide⟩, trivial⟩
      have za : na.sz ≤ 2000 := by rw [← ea]; show 0 + 0 + 1 ≤ _; omega
      have zb : nb.sz ≤ 2000 := by rw [← eb]; show s.size + 0 + 1 ≤ _; omega
      rw [show (Val.mk 6 name ⟨#[]⟩ []) = na from ea, show (Val.mk 21 0 s []) = nb from eb]
      refine lpK_inv (fun m0 f es => ∃ (i : Nat), i + m0 = 2 ∧ f = [(3, .rp v.cs), (7, .ro true [na.d, nb.d]), (8, I i)] ∧ es = []) 2 ⟨0, rfl, rfl, rfl⟩ ?_
      rintro m0 _ _ ⟨i, hi, rfl, rfl⟩ ih
      rcases Nat.lt_or_ge i 2 with hlt | hge
      · have hlt' : decide ((i : Int) < 2) = true := by simp; omega
        obtain ⟨x, hx, wx, zx⟩ : ∃ x : Val, [na.d, nb.d][i]? = some x.d ∧ x.wf ∧ x.sz ≤ 2000 := by
          rcases (show i = 0 ∨ i = 1 by omega) with rfl | rfl
          · exact ⟨na, rfl, wa, za⟩
          · exact ⟨nb, rfl, wb, zb⟩
        have hd := desc_c x v (by omega)
        have wd : (DV x v).wf := ⟨⟨by decide, by decide, by decide, by decide⟩, wx, hw, trivial⟩
        have zd : (DV x v).sz ≤ 4000000 := by show 0 + Val.szL [x, v] + 1 ≤ _; simp only [Val.szL]; omega
        have hr := right_c (DV x v) zd wd
        have he := encode_c (DV x v) zd wd
        have hx1 := encode_c x (by omega) wx
        have hv1 := encode_c v (by omega) hw
        cases hR : rightS (DV x v)
        · rw [hR] at hr he
          rw [if_neg (by decide)] at he
          simp +contextual (maxSteps := 10000000) only [↓reduceIte, go_sem, Nat.reduceEqDiff, Nat.reduceAdd, Nat.reduceSub, Nat.reduceMul, Nat.reduceLeDiff, Nat.reduceLT, Nat.reduceBEq, Nat.reduceDiv, Nat.reduceMod, Int.reduceLE, Int.reduceLT, Int.reduceEq, Int.reduceBEq, Int.reduceBNe, Int.reduceAdd, Int.reduceSub, Int.reduceNeg, Int.reduceToNat, Int.reduceMul, Int.reducePow, Nat.reducePow, reduceCtorEq, hlt', hx, hd, hr, he, jpK_go]
          rw [wrap_i64 (n := (i : Int) + 1) (by omega) (by omega)]
          exact ih (m0 - 1) _ _ (by omega) ⟨i + 1, by omega, rfl, rfl⟩
        · obtain ⟨r1, r2⟩ := right_desc hR
          rw [hR] at hr he
          rw [if_pos rfl, wr_desc] at he
          rw [if_pos r1] at hx1
          rw [if_pos r2] at hv1
          have hsz : (b1 0 ++ wrV x ++ wrV v).size = 1 + (wrV x).size + (wrV v).size := by simp only [ByteArray.size_append, b1_size]
          have q1 := wr_sz x
          have q2 := wr_sz v
          have q3 := wr_pos x
          have q4 := wr_pos v
          have heq := eq_rr (b1 0 ++ wrV x ++ wrV v) (b1 0 ++ wrV x ++ wrV v) 0 (1 + (wrV x).size + (wrV v).size) 0 (1 + (wrV x).size + (wrV v).size) (by omega) (by omega)
          rw [decide_eq_true rfl] at heq
          simp +contextual (maxSteps := 10000000) only [↓reduceIte, go_sem, Nat.reduceEqDiff, Nat.reduceAdd, Nat.reduceSub, Nat.reduceMul, Nat.reduceLeDiff, Nat.reduceLT, Nat.reduceBEq, Nat.reduceDiv, Nat.reduceMod, Int.reduceLE, Int.reduceLT, Int.reduceEq, Int.reduceBEq, Int.reduceBNe, Int.reduceAdd, Int.reduceSub, Int.reduceNeg, Int.reduceToNat, Int.reduceMul, Int.reducePow, Nat.reducePow, reduceCtorEq, hlt', hx, hd, hr, he, hx1, hv1, one_b1, heq, show ((wrV x).size = 0) = False from eq_false (by omega), show ((wrV v).size = 0) = False from eq_false (by omega), show (1 + (wrV x).size ≤ 140737488355328) = True from eq_true (by omega), show (1 + (wrV x).size + (wrV v).size ≤ 140737488355328) = True from eq_true (by omega)]
          rw [wrap_i64 (n := (i : Int) + 1) (by omega) (by omega)]
          exact ih (m0 - 1) _ _ (by omega) ⟨i + 1, by omega, rfl, rfl⟩
      · have hlt' : decide ((i : Int) < 2) = false := by simp; omega
        simp +contextual (maxSteps := 10000000) only [↓reduceIte, go_sem, Nat.reduceEqDiff, Nat.reduceAdd, Nat.reduceSub, Nat.reduceMul, Nat.reduceLeDiff, Nat.reduceLT, Nat.reduceBEq, Nat.reduceDiv, Nat.reduceMod, Int.reduceLE, Int.reduceLT, Int.reduceEq, Int.reduceBEq, Int.reduceBNe, Int.reduceAdd, Int.reduceSub, Int.reduceNeg, Int.reduceToNat, Int.reduceMul, Int.reducePow, Nat.reducePow, reduceCtorEq, hlt', works5]
  · rw [hb] at hl
    simp +contextual (maxSteps := 10000000) only [↓reduceIte, go_sem, Nat.reduceEqDiff, Nat.reduceAdd, Nat.reduceSub, Nat.reduceMul, Nat.reduceLeDiff, Nat.reduceLT, Nat.reduceBEq, Nat.reduceDiv, Nat.reduceMod, Int.reduceLE, Int.reduceLT, Int.reduceEq, Int.reduceBEq, Int.reduceBNe, Int.reduceAdd, Int.reduceSub, Int.reduceNeg, Int.reduceToNat, Int.reduceMul, Int.reducePow, Nat.reducePow, reduceCtorEq, hl, works5]
end Go.Bw.R1

/- Plain: what bytes tell. -/
namespace Go.Bw.R1
set_option maxRecDepth 5000
open Go Go.Bw
def toL (s : ByteArray) : List UInt8 := s.data.toList
def mkT (l : List UInt8) : ByteArray := ⟨l.toArray⟩
theorem toL_app (a b : ByteArray) : toL (a ++ b) = toL a ++ toL b := by unfold toL; rw [ByteArray.data_append, Array.toList_append]
theorem toL_len (s : ByteArray) : (toL s).length = s.size := rfl
theorem toL_e0 : toL e0 = [] := rfl
theorem toL_e : toL ⟨#[]⟩ = [] := rfl
theorem mkT_toL (s : ByteArray) : mkT (toL s) = s := by unfold mkT toL; rw [Array.toArray_toList]
theorem toL_b1 (n : Int) : toL (b1 n) = [UInt8.ofNat n.toNat] := rfl
theorem toL_inj {a b : ByteArray} (h : toL a = toL b) : a = b := by rw [← mkT_toL a, h, mkT_toL]
def u8I (x : UInt8) : Int := x.toNat
theorem u8I_of {c : Int} (h0 : 0 ≤ c) (h1 : c ≤ 255) : u8I (UInt8.ofNat c.toNat) = c := by
  unfold u8I; rw [UInt8.toNat_ofNat']; omega
def takeL (n : Nat) (l : List UInt8) : Except Int (List UInt8 × List UInt8) := if l.length < n then .error 7 else .ok (l.take n, l.drop n)
def beN (l : List UInt8) : Nat := l.foldl (fun a x => a * 256 + x.toNat) 0
def wideC (c : Int) : Nat := if c / 16 % 2 = 1 then 4 else 1
def fixC (c : Int) : Nat := if c / 16 = 4 then 0 else if c / 16 = 5 then 1 else if c / 16 = 6 then 2 else if c / 16 = 7 then 4 else if c / 16 = 8 then 8 else 16
def dataL (c : Int) (l : List UInt8) : Except Int (List UInt8 × List UInt8) :=
  if c < 160 then takeL (fixC c) l else
  match takeL (wideC c) l with
  | .error e => .error e
  | .ok (h, l1) => match takeL (beN h) l1 with
    | .error e => .error e
    | .ok (d, l2) => .ok (h ++ d, l2)
/-- a number of some bytes, with its sign, as one of 64 bits -/
def sgnX (x : Int) (w : Nat) : Int := if w < 1 ∨ 8 ≤ w then x else if x < 2 ^ (8 * w - 1) then x else x + (2 ^ 64 - 2 ^ (8 * w))
def leafV (c : Int) (d : List UInt8) : Val :=
  if c = 65 then .mk 2 1 e0 [] else if c = 66 ∨ c = 67 ∨ c = 68 ∨ c = 69 ∨ c = 64 then .mk (kindC c) 0 e0 []
  else if c / 16 = 9 ∨ kindC c = 16 ∨ kindC c = 17 then .mk (kindC c) 0 (mkT d) []
  else if 160 ≤ c then .mk (kindC c) 0 (mkT (d.drop (wideC c))) []
  else if kindC c = 7 ∨ kindC c = 8 ∨ kindC c = 9 ∨ kindC c = 10 ∨ kindC c = 14 then .mk (kindC c) (sgnX (beN d) d.length) e0 []
  else .mk (kindC c) (beN d) e0 []
/-- what is told ahead of a value -/
def nameS (go : List UInt8 → Except Int ((List Val × Int) × List UInt8)) (k : Int) (r2 : List UInt8) : Except Int ((List Val × Int) × List UInt8) :=
  if kindC k ≠ 6 ∧ kindC k ≠ 21 then .error 6 else match dataL k r2 with
    | .error e => .error e
    | .ok (d, r3) => match go r3 with
      | .error e => .error e
      | .ok ((ns, C), r4) => .ok ((leafV k d :: ns, C), r4)
def consS (go : List UInt8 → Except Int ((List Val × Int) × List UInt8)) : List UInt8 → Except Int ((List Val × Int) × List UInt8)
  | [] => .error 7
  | c :: r =>
    if u8I c = 0 then
      match r with
      | [] => .error 7
      | k :: r2 => nameS go (u8I k) r2
    else if kindC (u8I c) = 0 then .error 6 else .ok (([], u8I c), r)
def consL : Nat → List UInt8 → Except Int ((List Val × Int) × List UInt8)
  | 0, _ => .error 7
  | n + 1, l => consS (consL n) l
theorem consL_succ (n : Nat) (l : List UInt8) : consL (n + 1) l = consS (consL n) l := rfl
def callV (ns : List Val) (v : Val) : Val := ns.foldr (fun n x => .mk 25 0 e0 [n, x]) v
def manyF (step : List UInt8 → Except Int (Val × List UInt8)) : Nat → List UInt8 → Except Int (List Val × List UInt8)
  | 0, l => .ok ([], l)
  | n + 1, l => match step l with
    | .error e => .error e
    | .ok (v, l1) => match manyF step n l1 with
      | .error e => .error e
      | .ok (vs, l2) => .ok (v :: vs, l2)
def itemF (rd : Int → List UInt8 → Except Int Val) (ns : List Val) (c : Int) (l : List UInt8) : Except Int (Val × List UInt8) :=
  match dataL c l with
  | .error e => .error e
  | .ok (d, r) => match rd c d with
    | .error e => .error e
    | .ok v => .ok (callV ns v, r)
def valF (rd : Int → List UInt8 → Except Int Val) (l : List UInt8) : Except Int (Val × List UInt8) :=
  match consL (l.length + 1) l with
  | .error e => .error e
  | .ok ((ns, c), r) => itemF rd ns c r
def endF (k : Int) : Except Int (List Val × List UInt8) → Except Int Val
  | .error e => .error e
  | .ok (vs, r) => if r.isEmpty = true then .ok (.mk k 0 e0 vs) else .error 6
def bodyF (rd : Int → List UInt8 → Except Int Val) (c : Int) (m : Nat) (r1 : List UInt8) : Except Int Val :=
  if 1024 < m then .error 6 else
  if kindC c = 24 then
    match consL (r1.length + 1) r1 with
    | .error e => .error e
    | .ok ((ns, C), r2) => endF (kindC c) (manyF (itemF rd ns C) m r2)
  else endF (kindC c) (manyF (valF rd) m r1)
def readS (rd : Int → List UInt8 → Except Int Val) (c : Int) (d : List UInt8) : Except Int Val :=
  if c < 192 then .ok (leafV c d) else
  match takeL (wideC c) d with
  | .error e => .error e
  | .ok (_, r) => match takeL (wideC c) r with
    | .error e => .error e
    | .ok (h, r1) => bodyF rd c (beN h) r1
def readF : Nat → Int → List UInt8 → Except Int Val
  | 0, _, _ => .error 6
  | n + 1, c, d => readS (readF n) c d
theorem readF_succ (n : Nat) (c : Int) (d : List UInt8) : readF (n + 1) c d = readS (readF n) c d := rfl
theorem take_app {a b : List UInt8} {n : Nat} (h : a.length = n) : takeL n (a ++ b) = .ok (a, b) := by
  unfold takeL
  rw [if_neg (by rw [List.length_append]; omega), List.take_left' h, List.drop_left' h]
theorem beN_1 (n : Int) (h : 0 ≤ n) : (beN (toL (be 1 n)) : Int) = n % 256 := by
  rw [be_1, toL_b1]; simp only [beN, List.foldl_cons, List.foldl_nil, UInt8.toNat_ofNat']; omega
theorem fde (n c : Int) (hc : 0 ≤ c) : n.fdiv c = n / c := Int.fdiv_eq_ediv_of_nonneg _ hc
theorem beN_2 (n : Int) (h : 0 ≤ n) : (beN (toL (be 2 n)) : Int) = n % 65536 := by
  rw [be_2]; simp only [toL_app, toL_b1, List.cons_append, List.nil_append, beN, List.foldl_cons, List.foldl_nil, UInt8.toNat_ofNat', fde n 256 (by decide)]; omega
theorem beN_4 (n : Int) (h : 0 ≤ n) : (beN (toL (be 4 n)) : Int) = n % 4294967296 := by
  rw [be_4]; simp only [toL_app, toL_b1, List.cons_append, List.nil_append, beN, List.foldl_cons, List.foldl_nil, UInt8.toNat_ofNat', fde n 256 (by decide), fde n 65536 (by decide), fde n 16777216 (by decide)]; omega
theorem beN_fold (a : Nat) : ∀ l : List UInt8, l.foldl (fun a x => a * 256 + x.toNat) a = a * 256 ^ l.length + beN l
  | [] => by simp [beN]
  | x :: l => by
    have h1 := beN_fold (a * 256 + x.toNat) l
    have h2 := beN_fold x.toNat l
    rw [List.foldl_cons, h1, List.length_cons, Nat.pow_succ]
    have : beN (x :: l) = x.toNat * 256 ^ l.length + beN l := by unfold beN at h2 ⊢; rw [List.foldl_cons, Nat.zero_mul, Nat.zero_add]; exact h2
    rw [this, Nat.add_mul, Nat.mul_assoc, Nat.mul_comm 256]; omega
theorem beN_app (a b : List UInt8) : beN (a ++ b) = beN a * 256 ^ b.length + beN b := by
  rw [show beN (a ++ b) = b.foldl (fun a x => a * 256 + x.toNat) (beN a) from List.foldl_append, beN_fold]
theorem be_84 (n : Int) : be 8 n = be 4 (n / 4294967296) ++ be 4 n := by
  rw [be_8, be_4, be_4]
  simp only [fde _ 256 (by decide), fde _ 65536 (by decide), fde _ 16777216 (by decide), fde n 4294967296 (by decide), fde n 1099511627776 (by decide), fde n 281474976710656 (by decide), fde n 72057594037927936 (by decide), show n / 4294967296 / 16777216 = n / 72057594037927936 by omega, show n / 4294967296 / 65536 = n / 281474976710656 by omega, show n / 4294967296 / 256 = n / 1099511627776 by omega, ByteArray.append_assoc]
theorem beN_8 (n : Int) (h : 0 ≤ n) (h1 : n < 18446744073709551616) : (beN (toL (be 8 n)) : Int) = n := by
  have e1 := beN_4 (n / 4294967296) (by omega)
  have e2 := beN_4 n h
  have e3 : (toL (be 4 n)).length = 4 := by rw [toL_len]; exact be_size (by simp [wOk]) n
  rw [be_84, toL_app, beN_app, e3]
  rw [show (256 ^ 4 : Nat) = 4294967296 from rfl]
  omega
end Go.Bw.R1

/- Plain: data, and what they tell. -/
namespace Go.Bw.R1
set_option maxRecDepth 5000
open Go Go.Bw
structure DOk (c : Int) (s : Sh) : Prop where
  lo : 64 ≤ c
  hi : c ≤ 255
  num : c / 16 = 5 ∨ c / 16 = 6 ∨ c / 16 = 7 ∨ c / 16 = 8 → s.text = e0 ∨ s.text.size = fixC c
  t16 : c / 16 = 9 → s.text.size = 16
  sh : c / 16 = 10 → s.text.size ≤ 255
  lg : c / 16 = 11 → s.text.size < 4294967296
  ins1 : c / 16 = 12 ∨ c / 16 = 14 → s.ins.size < 255
  ins4 : c / 16 = 13 ∨ c / 16 = 15 → s.ins.size < 4294967290
theorem be1N (n : Nat) (h : n ≤ 255) : beN (toL (be 1 (n : Int))) = n := by have := beN_1 n (by omega); omega
theorem be4N (n : Nat) (h : n < 4294967296) : beN (toL (be 4 (n : Int))) = n := by have := beN_4 n (by omega); omega
theorem be1L (x : Int) : (toL (be 1 x)).length = 1 := (toL_len _).trans (be_size (by simp [wOk]) x)
theorem be4L (x : Int) : (toL (be 4 x)).length = 4 := (toL_len _).trans (be_size (by simp [wOk]) x)
theorem long_rt {c : Int} {w : Nat} {t : ByteArray} {rest : List UInt8} (h1 : 160 ≤ c) (hw : wideC c = w) (hl : (toL (be w t.size)).length = w) (hb : beN (toL (be w t.size)) = t.size) : dataL c (toL (be w t.size ++ t) ++ rest) = .ok (toL (be w t.size ++ t), rest) := by
  unfold dataL
  rw [if_neg (by omega), hw, toL_app, List.append_assoc, take_app hl]
  simp only [hb]
  rw [take_app (toL_len t)]
theorem dataS_num {c : Int} {s : Sh} (hq : c / 16 = 5 ∨ c / 16 = 6 ∨ c / 16 = 7 ∨ c / 16 = 8) : dataS c s = if s.text = e0 then be (widQ (c / 16)) s.num else s.text := by
  unfold dataS; rw [fde c 16 (by decide), if_neg (by omega), if_pos hq]
theorem fix_wid {c : Int} (hq : c / 16 = 5 ∨ c / 16 = 6 ∨ c / 16 = 7 ∨ c / 16 = 8) : fixC c = widQ (c / 16) := by
  unfold fixC widQ
  rcases hq with h | h | h | h <;> rw [h] <;> rfl
theorem dataS_12 {c : Int} {s : Sh} (hq : c / 16 = 12 ∨ c / 16 = 14) : dataS c s = be 1 (1 + s.ins.size : Nat) ++ (be 1 s.cnt ++ s.ins) := by
  unfold dataS; rw [fde c 16 (by decide), if_neg (by omega), if_neg (by omega), if_neg (by omega), if_neg (by omega), if_neg (by omega), if_pos hq]
theorem dataS_13 {c : Int} {s : Sh} (hq : c / 16 = 13 ∨ c / 16 = 15) : dataS c s = be 4 (4 + s.ins.size : Nat) ++ (be 4 s.cnt ++ s.ins) := by
  unfold dataS; rw [fde c 16 (by decide), if_neg (by omega), if_neg (by omega), if_neg (by omega), if_neg (by omega), if_neg (by omega), if_neg (by omega)]
/-- data are read as they were laid -/
theorem data_rt {c : Int} {s : Sh} (h : DOk c s) (rest : List UInt8) : dataL c (toL (dataS c s) ++ rest) = .ok (toL (dataS c s), rest) := by
  have hl := h.lo
  have hh := h.hi
  have hq : c / 16 = 4 ∨ (c / 16 = 5 ∨ c / 16 = 6 ∨ c / 16 = 7 ∨ c / 16 = 8) ∨ c / 16 = 9 ∨ c / 16 = 10 ∨ c / 16 = 11 ∨ (c / 16 = 12 ∨ c / 16 = 14) ∨ (c / 16 = 13 ∨ c / 16 = 15) := by omega
  have w1 : c / 16 = 10 ∨ c / 16 = 12 ∨ c / 16 = 14 → wideC c = 1 := fun hq => by unfold wideC; rw [if_neg (by omega)]
  have w4 : c / 16 = 11 ∨ c / 16 = 13 ∨ c / 16 = 15 → wideC c = 4 := fun hq => by unfold wideC; rw [if_pos (by omega)]
  rcases hq with hq | hq | hq | hq | hq | hq | hq
  · have e : dataS c s = e0 := by unfold dataS; rw [fde c 16 (by decide), if_pos hq]
    rw [e]; unfold dataL; rw [if_pos (by omega)]
    exact take_app (by unfold fixC; rw [if_pos hq]; rfl)
  · unfold dataL; rw [if_pos (by omega)]
    refine take_app ?_
    rw [dataS_num hq, toL_len]
    split
    · rw [be_size (wOk_wid _), fix_wid hq]
    · rename_i hne
      exact (h.num hq).resolve_left hne
  · have e : dataS c s = s.text := by unfold dataS; rw [fde c 16 (by decide), if_neg (by omega), if_neg (by omega), if_pos hq]
    rw [e]; unfold dataL; rw [if_pos (by omega)]
    exact take_app (by rw [toL_len, h.t16 hq]; unfold fixC; rw [if_neg (by omega), if_neg (by omega), if_neg (by omega), if_neg (by omega), if_neg (by omega)])
  · have e : dataS c s = be 1 s.text.size ++ s.text := by unfold dataS; rw [fde c 16 (by decide), if_neg (by omega), if_neg (by omega), if_neg (by omega), if_pos hq]
    rw [e]
    exact long_rt (by omega) (w1 (.inl hq)) (be1L _) (be1N _ (h.sh hq))
  · have e : dataS c s = be 4 s.text.size ++ s.text := by unfold dataS; rw [fde c 16 (by decide), if_neg (by omega), if_neg (by omega), if_neg (by omega), if_neg (by omega), if_pos hq]
    rw [e]
    exact long_rt (by omega) (w4 (.inl hq)) (be4L _) (be4N _ (h.lg hq))
  · have hz : (be 1 s.cnt ++ s.ins).size = 1 + s.ins.size := by rw [ByteArray.size_append, be_size (w := 1) (by simp [wOk])]
    rw [dataS_12 hq, ← hz]
    exact long_rt (by omega) (w1 (.inr hq)) (be1L _) (be1N _ (by have := h.ins1 hq; omega))
  · have hz : (be 4 s.cnt ++ s.ins).size = 4 + s.ins.size := by rw [ByteArray.size_append, be_size (w := 4) (by simp [wOk])]
    rw [dataS_13 hq, ← hz]
    exact long_rt (by omega) (w4 (.inr hq)) (be4L _) (be4N _ (by have := h.ins4 hq; omega))
theorem leafN {c k n : Int} {w : Nat} {x : Int} (hk : kindC c = k) (hb : (beN (toL (be w n)) : Int) = x) (h1 : leafV c (toL (be w n)) = .mk (kindC c) (beN (toL (be w n))) e0 []) (hx : x = n) : leafV c (toL (be w n)) = .mk k n e0 [] := by
  rw [h1, hk, hb, hx]
theorem leafS {c k n : Int} {w : Nat} {x : Int} (hk : kindC c = k) (hw : wOk w) (hb : (beN (toL (be w n)) : Int) = x) (h1 : leafV c (toL (be w n)) = .mk (kindC c) (sgnX (beN (toL (be w n))) (toL (be w n)).length) e0 []) (hx : sgnX x w = n) : leafV c (toL (be w n)) = .mk k n e0 [] := by
  rw [h1, hk, hb, toL_len, be_size hw, hx]
theorem sx1 {n : Int} (h0 : 0 ≤ n) (h1 : n < 18446744073709551616) (h : sg 128 n = true) : sgnX (n % 256) 1 = n := by
  unfold sg at h; simp only [Bool.and_eq_true, decide_eq_true_eq] at h; rw [wrap_i64_eq] at h
  unfold sgnX; rw [if_neg (by omega), show (2 : Int) ^ (8 * 1 - 1) = 128 from rfl, show (2 : Int) ^ 64 - 2 ^ (8 * 1) = 18446744073709551360 from rfl]
  split at h <;> split <;> omega
theorem sx2 {n : Int} (h0 : 0 ≤ n) (h1 : n < 18446744073709551616) (h : sg 32768 n = true) : sgnX (n % 65536) 2 = n := by
  unfold sg at h; simp only [Bool.and_eq_true, decide_eq_true_eq] at h; rw [wrap_i64_eq] at h
  unfold sgnX; rw [if_neg (by omega), show (2 : Int) ^ (8 * 2 - 1) = 32768 from rfl, show (2 : Int) ^ 64 - 2 ^ (8 * 2) = 18446744073709486080 from rfl]
  split at h <;> split <;> omega
theorem sx4 {n : Int} (h0 : 0 ≤ n) (h1 : n < 18446744073709551616) (h : sg 2147483648 n = true) : sgnX (n % 4294967296) 4 = n := by
  unfold sg at h; simp only [Bool.and_eq_true, decide_eq_true_eq] at h; rw [wrap_i64_eq] at h
  unfold sgnX; rw [if_neg (by omega), show (2 : Int) ^ (8 * 4 - 1) = 2147483648 from rfl, show (2 : Int) ^ 64 - 2 ^ (8 * 4) = 18446744069414584320 from rfl]
  split at h <;> split <;> omega
theorem sg_sgn {n : Int} (h : sgn8 n = true) : sg 128 n = true := by
  unfold sgn8 at h; unfold sg
  simp only [beq_iff_eq, Bool.and_eq_true, decide_eq_true_eq] at *
  rw [wrap_i64_eq, wrap_i8_eq] at h
  rw [wrap_i64_eq]
  split at h <;> split at h <;> split <;> omega
theorem drop_hd {a t : ByteArray} {w : Nat} (h : (toL a).length = w) : mkT ((toL (a ++ t)).drop w) = t := by
  rw [toL_app, List.drop_left' h, mkT_toL]
theorem chr_le {n : Int} (h : U.chr n = true) : n ≤ 1114111 := by
  unfold U.chr at h; simp only [Bool.and_eq_true, decide_eq_true_eq] at h; omega
/-- what an encoded leaf tells is the leaf -/
theorem leaf_rt {v : Val} {c : Int} (hm : mayS v = true) (hw : v.wf) (h22 : v.kind < 22) (hc : c ∈ codesOf v.kind) (hf : fitS c (shV v) = true) : leafV c (toL (dataS c (shV v))) = v := by
  rw [sh_ne (by omega)] at hf ⊢
  obtain ⟨k, n, t, l⟩ := v
  rw [mayS_eq] at hm
  obtain ⟨⟨_, _, hn0, hn1⟩, _⟩ := hw
  simp only [Val.kind_mk, Val.num_mk, Val.text_mk, Val.kids_mk, Bool.and_eq_true, decide_eq_true_eq] at hm h22 hc hf ⊢ hn0 hn1
  obtain ⟨⟨⟨hk1, hk2⟩, _⟩, ⟨hn, ht⟩, hl⟩ := hm
  obtain rfl : l = [] := by
    unfold famS at hl
    rw [if_neg (by simp; omega), if_neg (by simp; omega), if_neg (by simp; omega), if_neg (by simp; omega)] at hl
    simpa using hl
  have nt : (k < 15 ∨ 21 < k) → t = e0 := fun h => by
    unfold textS at ht
    rw [if_neg (by simp; omega), if_neg (by simp; omega), if_neg (by simp; omega), if_neg (by simp; omega), if_neg (by simp; omega), if_neg (by simp; omega), if_neg (by simp; omega)] at ht
    have : t = ⟨#[]⟩ := by simpa using ht
    exact this
  have hk1' : 1 ≤ k := of_decide_eq_true hk1
  have nz : (k = 1 ∨ 15 ≤ k) → n = 0 := fun h => by
    unfold numS at hn
    rw [if_neg (by simp; omega), if_neg (by simp; omega), if_neg (by simp; omega), if_neg (by simp; omega), if_neg (by simp; omega), if_neg (by simp; omega), if_neg (by simp; omega), if_neg (by simp; omega), if_neg (by simp; omega), if_neg (by simp; omega), if_neg (by simp; omega), if_neg (by simp; omega), if_neg (by simp; omega)] at hn
    simpa using hn
  have n0 : (n == 0) = true → n = 0 := fun h => by simpa using h
  rcases (show k = 1 ∨ k = 2 ∨ k = 3 ∨ k = 4 ∨ k = 5 ∨ k = 6 ∨ k = 7 ∨ k = 8 ∨ k = 9 ∨ k = 10 ∨ k = 11 ∨ k = 12 ∨ k = 13 ∨ k = 14 ∨ k = 15 ∨ k = 16 ∨ k = 17 ∨ k = 18 ∨ k = 19 ∨ k = 20 ∨ k = 21 by omega) with rfl | rfl | rfl | rfl | rfl | rfl | rfl | rfl | rfl | rfl | rfl | rfl | rfl | rfl | rfl | rfl | rfl | rfl | rfl | rfl | rfl
  · obtain rfl : c = 64 := List.mem_singleton.1 hc
    · obtain rfl := nz (by omega); obtain rfl := nt (by omega); rfl
  · have hc2 : c = 65 ∨ c = 66 ∨ c = 86 := by simpa [codesOf] using hc
    rcases hc2 with rfl | rfl | rfl
    · obtain rfl : n = 1 := by simpa [fitS] using hf
      obtain rfl := nt (by omega); rfl
    · obtain rfl := n0 hf; obtain rfl := nt (by omega); rfl
    · obtain rfl := nt (by omega); have hb : n ≤ 1 := by simpa [numS] using hn
      exact leafN (n := n) (w := 1) (c := 86) rfl (beN_1 n hn0) rfl (by omega)
  · obtain rfl : c = 80 := List.mem_singleton.1 hc
    · obtain rfl := nt (by omega); have hb : n < 256 := by simpa [numS] using hn
      exact leafN (n := n) (w := 1) (c := 80) rfl (beN_1 n hn0) rfl (by omega)
  · obtain rfl : c = 96 := List.mem_singleton.1 hc
    · obtain rfl := nt (by omega); have hb : n < 65536 := by simpa [numS] using hn
      exact leafN (n := n) (w := 2) (c := 96) rfl (beN_2 n hn0) rfl (by omega)
  · have hc2 : c = 67 ∨ c = 82 ∨ c = 112 := by simpa [codesOf] using hc
    rcases hc2 with rfl | rfl | rfl
    · obtain rfl := n0 hf; obtain rfl := nt (by omega); rfl
    · obtain rfl := nt (by omega); have hb : n ≤ 255 := by simpa [fitS] using hf
      exact leafN (n := n) (w := 1) (c := 82) rfl (beN_1 n hn0) rfl (by omega)
    · obtain rfl := nt (by omega); have hb : n < 4294967296 := by simpa [numS] using hn
      exact leafN (n := n) (w := 4) (c := 112) rfl (beN_4 n hn0) rfl (by omega)
  · have hc2 : c = 68 ∨ c = 83 ∨ c = 128 := by simpa [codesOf] using hc
    rcases hc2 with rfl | rfl | rfl
    · obtain rfl := n0 hf; obtain rfl := nt (by omega); rfl
    · obtain rfl := nt (by omega); have hb : n ≤ 255 := by simpa [fitS] using hf
      exact leafN (n := n) (w := 1) (c := 83) rfl (beN_1 n hn0) rfl (by omega)
    · obtain rfl := nt (by omega); exact leafN (n := n) (w := 8) (c := 128) rfl (beN_8 n hn0 (by omega)) rfl rfl
  · obtain rfl : c = 81 := List.mem_singleton.1 hc
    · obtain rfl := nt (by omega); exact leafS (n := n) (w := 1) (c := 81) rfl (by simp [wOk]) (beN_1 n hn0) rfl (sx1 hn0 (by omega) hn)
  · obtain rfl : c = 97 := List.mem_singleton.1 hc
    · obtain rfl := nt (by omega); exact leafS (n := n) (w := 2) (c := 97) rfl (by simp [wOk]) (beN_2 n hn0) rfl (sx2 hn0 (by omega) hn)
  · have hc2 : c = 84 ∨ c = 113 := by simpa [codesOf] using hc
    rcases hc2 with rfl | rfl
    · obtain rfl := nt (by omega); exact leafS (n := n) (w := 1) (c := 84) rfl (by simp [wOk]) (beN_1 n hn0) rfl (sx1 hn0 (by omega) (sg_sgn hf))
    · obtain rfl := nt (by omega); exact leafS (n := n) (w := 4) (c := 113) rfl (by simp [wOk]) (beN_4 n hn0) rfl (sx4 hn0 (by omega) hn)
  · have hc2 : c = 85 ∨ c = 129 := by simpa [codesOf] using hc
    rcases hc2 with rfl | rfl
    · obtain rfl := nt (by omega); exact leafS (n := n) (w := 1) (c := 85) rfl (by simp [wOk]) (beN_1 n hn0) rfl (sx1 hn0 (by omega) (sg_sgn hf))
    · obtain rfl := nt (by omega); exact leafS (n := n) (w := 8) (c := 129) rfl (by simp [wOk]) (beN_8 n hn0 (by omega)) rfl rfl
  · obtain rfl : c = 114 := List.mem_singleton.1 hc
    · obtain rfl := nt (by omega); have hb : n < 4294967296 := by simpa [numS] using hn
      exact leafN (n := n) (w := 4) (c := 114) rfl (beN_4 n hn0) rfl (by omega)
  · obtain rfl : c = 130 := List.mem_singleton.1 hc
    · obtain rfl := nt (by omega); exact leafN (n := n) (w := 8) (c := 130) rfl (beN_8 n hn0 (by omega)) rfl rfl
  · obtain rfl : c = 115 := List.mem_singleton.1 hc
    · obtain rfl := nt (by omega); have hb := chr_le hn; exact leafN (n := n) (w := 4) (c := 115) rfl (beN_4 n hn0) rfl (by omega)
  · obtain rfl : c = 131 := List.mem_singleton.1 hc
    · obtain rfl := nt (by omega); exact leafS (n := n) (w := 8) (c := 131) rfl (by simp [wOk]) (beN_8 n hn0 (by omega)) rfl rfl
  · obtain rfl : c = 152 := List.mem_singleton.1 hc
    · obtain rfl := nz (by omega); exact congrArg (fun s => Val.mk 15 0 s []) (mkT_toL t)
  · obtain rfl : c = 116 := List.mem_singleton.1 hc
    · obtain rfl := nz (by omega)
      have hne : t ≠ e0 := by rintro rfl; exact absurd ht (by decide)
      have e : dataS 116 ⟨16, 0, t, ([] : List Val).length, insS (.mk 16 0 t [])⟩ = t := (dataS_num (by decide)).trans (if_neg hne)
      rw [e]; exact congrArg (fun s => Val.mk 16 0 s []) (mkT_toL t)
  · obtain rfl : c = 132 := List.mem_singleton.1 hc
    · obtain rfl := nz (by omega)
      have hne : t ≠ e0 := by rintro rfl; exact absurd ht (by decide)
      have e : dataS 132 ⟨17, 0, t, ([] : List Val).length, insS (.mk 17 0 t [])⟩ = t := (dataS_num (by decide)).trans (if_neg hne)
      rw [e]; exact congrArg (fun s => Val.mk 17 0 s []) (mkT_toL t)
  · obtain rfl : c = 148 := List.mem_singleton.1 hc
    · obtain rfl := nz (by omega); exact congrArg (fun s => Val.mk 18 0 s []) (mkT_toL t)
  · have hc2 : c = 160 ∨ c = 176 := by simpa [codesOf] using hc
    rcases hc2 with rfl | rfl
    · obtain rfl := nz (by omega); exact congrArg (fun s => Val.mk 19 0 s []) (drop_hd (a := be 1 t.size) (be1L _))
    · obtain rfl := nz (by omega); exact congrArg (fun s => Val.mk 19 0 s []) (drop_hd (a := be 4 t.size) (be4L _))
  · have hc2 : c = 161 ∨ c = 177 := by simpa [codesOf] using hc
    rcases hc2 with rfl | rfl
    · obtain rfl := nz (by omega); exact congrArg (fun s => Val.mk 20 0 s []) (drop_hd (a := be 1 t.size) (be1L _))
    · obtain rfl := nz (by omega); exact congrArg (fun s => Val.mk 20 0 s []) (drop_hd (a := be 4 t.size) (be4L _))
  · have hc2 : c = 163 ∨ c = 179 := by simpa [codesOf] using hc
    rcases hc2 with rfl | rfl
    · obtain rfl := nz (by omega); exact congrArg (fun s => Val.mk 21 0 s []) (drop_hd (a := be 1 t.size) (be1L _))
    · obtain rfl := nz (by omega); exact congrArg (fun s => Val.mk 21 0 s []) (drop_hd (a := be 4 t.size) (be4L _))
end Go.Bw.R1

/- Plain: what was encoded is decoded. -/
namespace Go.Bw.R1
set_option maxRecDepth 5000
open Go Go.Bw
theorem codes_kind : ∀ k ∈ kindL, ∀ c ∈ codesOf k, kindC c = k ∧ 64 ≤ c ∧ c ≤ 255 := by decide
theorem dok {v : Val} {c : Int} (hm : mayS v = true) (hk : v.kind ≠ 25) (hc : c ∈ codesOf v.kind) (hf : fitS c (shV v) = true) (hz : v.sz ≤ 4000000) : DOk c (shV v) := by
  have hin := kind_in hm hk
  obtain ⟨_, c1, c2⟩ := codes_kind _ hin c hc
  have hs := ins_sz v
  rw [sh_ne hk] at hf hs ⊢
  rw [mayS_eq] at hm
  simp only [Bool.and_eq_true] at hm
  obtain ⟨_, ⟨_, ht⟩, _⟩ := hm
  simp only at hs
  have hq : ∀ k ∈ kindL, ∀ c ∈ codesOf k, (c / 16 = 5 ∨ c / 16 = 6 ∨ c / 16 = 7 ∨ c / 16 = 8 → k < 15 ∨ k = 16 ∧ fixC c = 4 ∨ k = 17 ∧ fixC c = 8) ∧ (c / 16 = 9 → k = 15 ∨ k = 18) ∧ (c / 16 = 10 → c = 160 ∨ c = 161 ∨ c = 163) ∧ (c / 16 = 12 ∨ c / 16 = 14 → c = 192 ∨ c = 193 ∨ c = 224) := by decide
  obtain ⟨q1, q2, q3, q4⟩ := hq _ hin c hc
  unfold textS at ht
  refine ⟨c1, c2, fun h => ?_, fun h => ?_, fun h => ?_, fun h => ?_, fun h => ?_, fun h => ?_⟩
  · rcases q1 h with h | ⟨h, h2⟩ | ⟨h, h2⟩
    · left
      rw [if_neg (by simp; omega), if_neg (by simp; omega), if_neg (by simp; omega), if_neg (by simp; omega), if_neg (by simp; omega), if_neg (by simp; omega), if_neg (by simp; omega)] at ht
      have : v.text = ⟨#[]⟩ := by simpa using ht
      exact this
    · right
      rw [h, if_neg (by decide), if_neg (by decide), if_neg (by decide), if_pos (by decide)] at ht
      simp only [beq_iff_eq] at ht; show v.text.size = _; omega
    · right
      rw [h, if_neg (by decide), if_neg (by decide), if_pos (by decide)] at ht
      simp only [beq_iff_eq] at ht; show v.text.size = _; omega
  · rcases q2 h with h | h
    · rw [h, if_pos (by decide)] at ht
      simp only [beq_iff_eq] at ht; show v.text.size = _; omega
    · rw [h, if_neg (by decide), if_pos (by decide)] at ht
      simp only [beq_iff_eq] at ht; show v.text.size = _; omega
  · rcases q3 h with h | h | h <;> (subst h; simpa [fitS] using hf)
  · show v.text.size < _; omega
  · rcases q4 h with h | h | h <;> (subst h; simp [fitS] at hf; exact hf.2)
  · show (insS v).size < _; omega
/-- what a value is called, the outermost first -/
def nmV : Val → List Val
  | .mk k _ _ [a, x] => if k = 25 then a :: nmV x else []
  | _ => []
theorem nm_desc {v a x : Val} (h : v.kind = 25) (hk : v.kids = [a, x]) : nmV v = a :: nmV x := by
  cases v; simp only [Val.kind_mk, Val.kids_mk] at h hk; subst h hk; simp only [nmV, if_true]
theorem nm_ne {v : Val} (h : v.kind ≠ 25) : nmV v = [] := by
  cases v with
  | mk k n t l =>
    simp only [Val.kind_mk] at h
    match l with
    | [] => rfl
    | [a] => rfl
    | [a, x] => simp only [nmV, if_neg h]
    | a :: b :: c :: r => rfl
theorem desc_parts {v : Val} (hm : mayS v = true) (hk : v.kind = 25) : ∃ a x, v = .mk 25 0 e0 [a, x] ∧ mayS a = true ∧ mayS x = true ∧ (a.kind = 6 ∨ a.kind = 21) := by
  obtain ⟨a, x, h1, h2, h3⟩ := may_desc hm hk
  rw [mayS_eq] at hm
  simp only [Bool.and_eq_true] at hm
  obtain ⟨_, ⟨hn, ht⟩, hf⟩ := hm
  rw [hk] at hn ht hf
  obtain ⟨k, n, t, l⟩ := v
  simp only [Val.kind_mk, Val.kids_mk, Val.num_mk, Val.text_mk] at *
  subst hk h1
  refine ⟨a, x, ?_, h2, h3, ?_⟩
  · have e1 : n = 0 := by simpa [numS] using hn
    have e2 : t = ⟨#[]⟩ := by simpa [textS] using ht
    rw [e1, e2]; rfl
  · simpa [famS] using hf
theorem call_nm : ∀ (n : Nat) (v : Val), v.sz ≤ n → mayS v = true → callV (nmV v) (bareV v) = v
  | 0, .mk .., h, _ => by simp [Val.sz] at h
  | n + 1, v, hn, hm => by
    by_cases hk : v.kind = 25
    · obtain ⟨a, x, rfl, h2, h3, _⟩ := desc_parts hm hk
      have hs : x.sz ≤ n := by rw [Val.sz_eq] at hn; simp only [Val.kids_mk, Val.szL] at hn; omega
      rw [nm_desc rfl rfl, bare_desc rfl rfl]
      show Val.mk 25 0 e0 [a, callV (nmV x) (bareV x)] = _
      rw [call_nm n x hs h3]
    · rw [nm_ne hk, bare_ne hk]; rfl
theorem code1 {v : Val} (hm : mayS v = true) (hk : v.kind ≠ 25) : codeOf [shV v] ∈ codesOf v.kind ∧ fitS (codeOf [shV v]) (shV v) = true := by
  obtain ⟨h1, h2⟩ := codeOf_ok (ls := [shV v]) (k := v.kind) (by rw [sh_ne hk]; rfl) (kind_in hm hk)
  exact ⟨h1, by simpa using h2⟩
theorem wr_ne {v : Val} (hk : v.kind ≠ 25) : toL (wrV v) = UInt8.ofNat (codeOf [shV v]).toNat :: toL (dataS (codeOf [shV v]) (shV v)) := by
  unfold wrV Wd
  rw [hd_ne hk, e0_app, toL_app, toL_b1]; rfl
theorem consL_code {n : Nat} {c : UInt8} {r : List UInt8} (h : u8I c ≠ 0) (hk : kindC (u8I c) ≠ 0) : consL (n + 1) (c :: r) = .ok (([], u8I c), r) := by
  rw [consL_succ]; unfold consS; dsimp only; rw [if_neg h, if_neg hk]
theorem consL_name {n : Nat} {c k : UInt8} {r2 d r3 r4 : List UInt8} {ns : List Val} {C : Int} (h : u8I c = 0) (hk : kindC (u8I k) = 6 ∨ kindC (u8I k) = 21) (hd : dataL (u8I k) r2 = .ok (d, r3)) (hr : consL n r3 = .ok ((ns, C), r4)) :
    consL (n + 1) (c :: k :: r2) = .ok ((leafV (u8I k) d :: ns, C), r4) := by
  rw [consL_succ]; unfold consS; dsimp only; rw [if_pos h]
  unfold nameS
  rw [if_neg (by omega), hd]
  dsimp only
  rw [hr]
theorem cons_rt (n : Nat) : ∀ (v : Val), v.sz ≤ n → v.sz ≤ 4000000 → mayS v = true → v.wf → ∀ (C : Int) (rest : List UInt8) (fuel : Nat), kindC C ≠ 0 → 1 ≤ C → C ≤ 255 → (toL (hdV v)).length < fuel →
    consL fuel (toL (hdV v) ++ UInt8.ofNat C.toNat :: rest) = .ok ((nmV v, C), rest) := by
  induction n with
  | zero => intro v h; have := Val.sz_eq v; omega
  | succ n ih =>
    intro v hn hN hm hw C rest fuel hC hC0 hC1 hfu
    obtain ⟨fuel, rfl⟩ : ∃ m, fuel = m + 1 := ⟨fuel - 1, by omega⟩
    by_cases hk : v.kind = 25
    · obtain ⟨a, x, rfl, h2, h3, h4⟩ := desc_parts hm hk
      rw [Val.sz_eq] at hn hN; simp only [Val.kids_mk, Val.szL] at hn hN
      obtain ⟨_, wa, wx, _⟩ := hw
      have hka : a.kind ≠ 25 := by omega
      obtain ⟨k1, k2⟩ := code1 h2 hka
      obtain ⟨k3, k4, k5⟩ := codes_kind _ (kind_in h2 hka) _ k1
      have hh : toL (hdV (.mk 25 0 e0 [a, x])) = 0 :: UInt8.ofNat (codeOf [shV a]).toNat :: (toL (dataS (codeOf [shV a]) (shV a)) ++ toL (hdV x)) := by
        rw [(enc_desc rfl rfl).2, toL_app, toL_app, wr_ne hka, toL_b1]; rfl
      rw [hh] at hfu
      rw [hh, nm_desc rfl rfl]
      have hd := data_rt (dok h2 hka k1 k2 (by omega)) (toL (hdV x) ++ UInt8.ofNat C.toNat :: rest)
      have hr := ih x (by omega) (by omega) h3 wx C rest fuel hC hC0 hC1 (by simp only [List.length_cons, List.length_append] at hfu; omega)
      have hl := leaf_rt h2 wa (by omega) k1 k2
      have e1 := u8I_of (show 0 ≤ codeOf [shV a] by omega) k5
      have hd' : dataL (u8I (UInt8.ofNat (codeOf [shV a]).toNat)) (toL (dataS (codeOf [shV a]) (shV a)) ++ toL (hdV x) ++ UInt8.ofNat C.toNat :: rest) = .ok (toL (dataS (codeOf [shV a]) (shV a)), toL (hdV x) ++ UInt8.ofNat C.toNat :: rest) := by rw [e1, List.append_assoc]; exact hd
      have key := consL_name (c := 0) rfl (by rw [e1, k3]; exact h4) hd' hr
      rw [e1, hl] at key
      exact key
    · rw [hd_ne hk, nm_ne hk, toL_e0, List.nil_append]
      have e1 := u8I_of (show 0 ≤ C by omega) hC1
      have key := consL_code (n := fuel) (c := UInt8.ofNat C.toNat) (r := rest) (by rw [e1]; omega) (by rw [e1]; exact hC)
      rw [e1] at key
      exact key
end Go.Bw.R1

/- Plain: what was encoded is decoded, whole values. -/
namespace Go.Bw.R1
set_option maxRecDepth 5000
open Go Go.Bw
theorem many_rt {step : List UInt8 → Except Int (Val × List UInt8)} (f : Val → List UInt8) : ∀ (l : List Val) (rest : List UInt8), (∀ x ∈ l, ∀ r, step (f x ++ r) = .ok (x, r)) → manyF step l.length (l.flatMap f ++ rest) = .ok (l, rest)
  | [], rest, _ => rfl
  | x :: l, rest, h => by
    have h1 := h x (by simp) (l.flatMap f ++ rest)
    have h2 := many_rt f l rest fun y hy => h y (by simp [hy])
    rw [List.flatMap_cons, List.append_assoc]
    simp only [List.length_cons, manyF, h1, h2]
mutual
theorem same_is : ∀ a b : Val, same a b = true → a = b
  | .mk k n t l, .mk k' n' t' l', h => by
    simp only [same, Bool.and_eq_true, beq_iff_eq, decide_eq_true_eq] at h
    obtain ⟨rfl, rfl, rfl, h⟩ := h
    rw [sameL_is l l' h]
theorem sameL_is : ∀ l m : List Val, sameL l m = true → l = m
  | [], [], _ => rfl
  | a :: l, b :: m, h => by
    simp only [sameL, Bool.and_eq_true] at h
    rw [same_is a b h.1, sameL_is l m h.2]
  | [], _ :: _, h => by simp [sameL] at h
  | _ :: _, [], h => by simp [sameL] at h
end
theorem catW_L : ∀ l : List Val, toL (catW (l.map encV)) = l.flatMap fun x => toL (wrV x)
  | [] => rfl
  | v :: l => by rw [List.map_cons, catW, toL_app, catW_L l, List.flatMap_cons]; rfl
theorem catD_L (C : Int) : ∀ l : List Val, toL (catD C (l.map shV)) = l.flatMap fun x => toL (dataS C (shV x))
  | [] => rfl
  | v :: l => by rw [List.map_cons, catD, toL_app, catD_L C l, List.flatMap_cons]
theorem alike_nm : ∀ (n : Nat) (a b : Val), alikeF n a b = true → mayS a = true → mayS b = true → nmV a = nmV b ∧ (bareV a).kind = (bareV b).kind
  | 0, _, _, h, _, _ => by simp [alikeF] at h
  | n + 1, a, b, h, ma, mb => by
    unfold alikeF at h
    by_cases ha : a.kind = 25
    · by_cases hb : b.kind = 25
      · obtain ⟨a0, a1, rfl, m1, m2, _⟩ := desc_parts ma ha
        obtain ⟨b0, b1, rfl, m3, m4, _⟩ := desc_parts mb hb
        rw [if_neg (by simp only [Val.kind_mk]; decide)] at h
        simp only [Val.kids_mk, Bool.and_eq_true] at h
        obtain ⟨i1, i2⟩ := alike_nm n a1 b1 h.2 m2 m4
        rw [nm_desc (v := .mk 25 0 e0 [a0, a1]) rfl rfl, nm_desc (v := .mk 25 0 e0 [b0, b1]) rfl rfl, bare_desc (v := .mk 25 0 e0 [a0, a1]) rfl rfl, bare_desc (v := .mk 25 0 e0 [b0, b1]) rfl rfl, i1, same_is _ _ h.1]
        exact ⟨rfl, i2⟩
      · rw [if_pos (by simp [hb])] at h
        simp only [beq_iff_eq] at h; omega
    · rw [if_pos (by simp [ha])] at h
      simp only [beq_iff_eq] at h
      rw [nm_ne ha, nm_ne (by omega : b.kind ≠ 25), bare_ne ha, bare_ne (by omega : b.kind ≠ 25)]
      exact ⟨rfl, h⟩
/-- a value is read: what it is, of its data -/
def RdOk (n : Nat) : Prop := ∀ v : Val, v.sz ≤ n → v.sz ≤ 4000000 → v.items ≤ 1024 → mayS v = true → v.wf → v.kind ≠ 25 → ∀ c ∈ codesOf v.kind, fitS c (shV v) = true → ∀ fuel, n ≤ fuel → readF fuel c (toL (dataS c (shV v))) = .ok v
/-- a value is read, with what it is called -/
def VlOk (n : Nat) : Prop := ∀ v : Val, v.sz ≤ n → v.sz ≤ 4000000 → v.items ≤ 1024 → mayS v = true → v.wf → ∀ fuel, n ≤ fuel → ∀ rest, valF (readF fuel) (toL (wrV v) ++ rest) = .ok (v, rest)
theorem bare_items : ∀ (n : Nat) (v : Val), v.sz ≤ n → mayS v = true → v.wf → (bareV v).items ≤ v.items ∧ (bareV v).wf
  | 0, .mk .., h, _, _ => by simp [Val.sz] at h
  | n + 1, v, hn, hm, hw => by
    by_cases hk : v.kind = 25
    · obtain ⟨a, x, rfl, h2, h3, _⟩ := desc_parts hm hk
      have hs : x.sz ≤ n := by rw [Val.sz_eq] at hn; simp only [Val.kids_mk, Val.szL] at hn; omega
      obtain ⟨i1, i2⟩ := bare_items n x hs h3 hw.2.2.1
      rw [bare_desc rfl rfl, Val.items_eq (.mk 25 0 e0 [a, x])]
      refine ⟨?_, i2⟩
      simp only [Val.kids_mk, Val.itemsL]; omega
    · rw [bare_ne hk]; exact ⟨Nat.le_refl _, hw⟩
theorem item_rt {n : Nat} (hr : RdOk n) {v : Val} {C : Int} (h1 : v.sz ≤ n) (h2 : v.sz ≤ 4000000) (hi : v.items ≤ 1024) (hm : mayS v = true) (hw : v.wf) (hc : C ∈ codesOf (bareV v).kind) (hf : fitS C (shV v) = true) {fuel : Nat} (hfu : n ≤ fuel) (rest : List UInt8) :
    itemF (readF fuel) (nmV v) C (toL (dataS C (shV v)) ++ rest) = .ok (v, rest) := by
  obtain ⟨q1, q2, q3, q4⟩ := sh_bare _ v (Nat.le_refl _) hm
  obtain ⟨b1, b2⟩ := bare_items _ v (Nat.le_refl _) hm hw
  rw [← q1] at hf ⊢
  have hd := data_rt (dok q3 q2 hc hf (by omega)) rest
  have hrd := hr (bareV v) (by omega) (by omega) (by omega) q3 b2 q2 C hc hf fuel hfu
  unfold itemF
  rw [hd]
  dsimp only
  rw [hrd]
  dsimp only
  rw [call_nm _ v (Nat.le_refl _) hm]
theorem val_rt {n : Nat} (hr : RdOk n) : VlOk n := by
  intro v h1 h2 hi hm hw fuel hfu rest
  obtain ⟨q1, q2, q3, q4⟩ := sh_bare _ v (Nat.le_refl _) hm
  obtain ⟨k1, k2⟩ := code1 q3 q2
  rw [q1] at k1 k2
  obtain ⟨k3, k4, k5⟩ := codes_kind _ (kind_in q3 q2) _ k1
  have e : toL (wrV v) ++ rest = toL (hdV v) ++ UInt8.ofNat (codeOf [shV v]).toNat :: (toL (dataS (codeOf [shV v]) (shV v)) ++ rest) := by
    unfold wrV Wd
    rw [toL_app, toL_app, toL_b1]; simp only [List.append_assoc, List.cons_append, List.nil_append]
  have hne : (bareV v).kind ≠ 0 := fun h => by have := kind_in q3 q2; rw [h] at this; exact absurd this (by decide)
  have hc := cons_rt _ v (Nat.le_refl _) h2 hm hw (codeOf [shV v]) (toL (dataS (codeOf [shV v]) (shV v)) ++ rest) ((toL (wrV v) ++ rest).length + 1) (by rw [k3]; exact hne) (by omega) k5 (by rw [e]; simp only [List.length_append]; omega)
  unfold valF
  rw [← e] at hc
  rw [hc]
  exact item_rt hr h1 h2 hi hm hw k1 k2 hfu rest
end Go.Bw.R1

/- Plain: what was encoded is decoded: every value. -/
namespace Go.Bw.R1
set_option maxRecDepth 5000
open Go Go.Bw
theorem kid_items {l : List Val} {x : Val} (h : x ∈ l) : x.items ≤ Val.itemsL l := by
  obtain ⟨a, b, rfl⟩ := List.append_of_mem h
  rw [itemsL_app]; simp only [Val.itemsL]; omega
theorem kids_items : ∀ l : List Val, l.length ≤ Val.itemsL l
  | [] => Nat.le_refl _
  | v :: l => by have := kids_items l; have := Val.items_eq v; simp only [Val.itemsL, List.length_cons]; omega
theorem nt_of {k n : Int} {t : ByteArray} (hn : numS k n = true) (ht : textS k t = true) (h : 22 ≤ k) : n = 0 ∧ t = e0 := by
  unfold numS at hn
  unfold textS at ht
  rw [if_neg (by simp; omega), if_neg (by simp; omega), if_neg (by simp; omega), if_neg (by simp; omega), if_neg (by simp; omega), if_neg (by simp; omega), if_neg (by simp; omega), if_neg (by simp; omega), if_neg (by simp; omega), if_neg (by simp; omega), if_neg (by simp; omega), if_neg (by simp; omega), if_neg (by simp; omega)] at hn
  rw [if_neg (by simp; omega), if_neg (by simp; omega), if_neg (by simp; omega), if_neg (by simp; omega), if_neg (by simp; omega), if_neg (by simp; omega), if_neg (by simp; omega)] at ht
  have : t = ⟨#[]⟩ := by simpa using ht
  exact ⟨by simpa using hn, this⟩
theorem readS_many {rd : Int → List UInt8 → Except Int Val} {c : Int} {w cnt : Nat} {x : ByteArray} {ins : ByteArray} {z : Int} (hc : 192 ≤ c) (hw : wideC c = w) (h1 : (toL (be w z)).length = w) (h2 : (toL (be w cnt)).length = w) (hb : beN (toL (be w cnt)) = cnt) :
    readS rd c (toL (be w z ++ (be w cnt ++ ins))) = bodyF rd c cnt (toL ins) := by
  unfold readS
  rw [if_neg (by omega), toL_app, hw, take_app h1]
  dsimp only
  rw [toL_app, take_app h2]
  dsimp only
  rw [hb]
theorem endF_nil (k : Int) (vs : List Val) : endF k (.ok (vs, [])) = .ok (.mk k 0 e0 vs) := rfl
theorem read_step {n : Nat} (hr : RdOk n) : RdOk (n + 1) := by
  have hv := val_rt hr
  intro v h1 h2 hi hm hw hk c hc hf fuel hfu
  obtain ⟨f, rfl⟩ : ∃ m, fuel = m + 1 := ⟨fuel - 1, by omega⟩
  rw [readF_succ]
  have hin := kind_in hm hk
  obtain ⟨k3, k4, k5⟩ := codes_kind _ hin c hc
  by_cases h22 : v.kind < 22
  · have hlt : ∀ k ∈ kindL, k < 22 → ∀ c ∈ codesOf k, c < 192 := by decide
    unfold readS
    rw [if_pos (hlt _ hin h22 c hc), leaf_rt hm hw h22 hc hf]
  have hmm := hm
  rw [mayS_eq] at hmm
  simp only [Bool.and_eq_true, decide_eq_true_eq] at hmm
  obtain ⟨⟨⟨hk1, hk2⟩, hml⟩, ⟨hn, ht⟩, hfam⟩ := hmm
  obtain ⟨e1, e2⟩ := nt_of hn ht (by omega)
  have hz := Val.sz_eq v
  have hit := Val.items_eq v
  have hlen := kids_items v.kids
  have hmk : ∀ x ∈ v.kids, mayS x = true := fun x hx => by rw [mayL_all, List.all_eq_true] at hml; exact hml x hx
  have hwf : Val.wfL v.kids := by obtain ⟨k, n, t, l⟩ := v; exact hw.2
  have hvv : Val.mk v.kind 0 e0 v.kids = v := by obtain ⟨k, n, t, l⟩ := v; simp only [Val.num_mk, Val.text_mk] at e1 e2; subst e1 e2; rfl
  have hkid : ∀ x ∈ v.kids, x.sz ≤ n ∧ x.sz ≤ 4000000 ∧ x.items ≤ 1024 ∧ mayS x = true ∧ x.wf := fun x hx => by
    have := szL_in hx; have := kid_items hx
    exact ⟨by omega, by omega, by omega, hmk x hx, wfL_mem hwf x hx⟩
  have hsh := sh_ne hk
  have many : v.kind ≠ 24 → bodyF (readF f) c v.kids.length (toL (insS v)) = .ok v := fun h24 => by
    unfold bodyF
    rw [if_neg (by omega), if_neg (by omega), show toL (insS v) = (v.kids.flatMap fun x => toL (wrV x)) ++ [] by unfold insS; rw [if_neg h24, catW_L, List.append_nil],
      many_rt (fun x => toL (wrV x)) v.kids [] (fun x hx r => by obtain ⟨a1, a2, a3, a4, a5⟩ := hkid x hx; exact hv x a1 a2 a3 a4 a5 f (by omega) r), k3]
    rw [endF_nil, hvv]
  have arr : v.kind = 24 → bodyF (readF f) c v.kids.length (toL (insS v)) = .ok v := fun h24 => by
    unfold bodyF
    rw [if_neg (by omega), if_pos (by omega)]
    unfold insS
    rw [if_pos h24]
    cases hkk : v.kids with
    | nil =>
      have : consL ((toL (arrS ([].map encV))).length + 1) (toL (arrS ([].map encV))) = .ok (([], 64), []) := by
        show consL 2 [UInt8.ofNat 64] = _
        exact consL_code (n := 1) (c := 64) (r := []) (by decide) (by decide)
      rw [this]
      dsimp only
      rw [k3, show manyF (itemF (readF f) [] 64) ([] : List Val).length [] = .ok ([], []) from rfl]
      rw [endF_nil, ← hkk, hvv]
    | cons v0 r =>
      have hv0 : v0 ∈ v.kids := by rw [hkk]; simp
      obtain ⟨a1, a2, a3, a4, a5⟩ := hkid v0 hv0
      obtain ⟨q1, q2, q3, q4⟩ := sh_bare _ v0 (Nat.le_refl _) a4
      have hfst : ((encV v0 :: r.map encV).map Prod.fst) = (v0 :: r).map shV := by rw [List.map_cons, List.map_cons, List.map_map]; rfl
      obtain ⟨c1, c2⟩ := codeOf_ok (ls := (v0 :: r).map shV) (k := (bareV v0).kind) (by rw [List.map_cons, List.headD_cons, ← q1, sh_ne q2]) (kind_in q3 q2)
      rw [h24] at hfam
      have halk : ∀ x ∈ v0 :: r, alike v0 x = true := by
        unfold famS at hfam
        rw [if_neg (by decide), if_neg (by decide), if_pos (by decide), hkk, List.all_eq_true] at hfam
        exact hfam
      have e : toL (arrS ((v0 :: r).map encV)) = toL (hdV v0) ++ UInt8.ofNat (codeOf ((v0 :: r).map shV)).toNat :: ((v0 :: r).flatMap fun x => toL (dataS (codeOf ((v0 :: r).map shV)) (shV x))) := by
        rw [List.map_cons]
        show toL ((encV v0).2 ++ b1 (codeOf ((encV v0 :: r.map encV).map Prod.fst)) ++ catD (codeOf ((encV v0 :: r.map encV).map Prod.fst)) ((encV v0 :: r.map encV).map Prod.fst)) = _
        rw [hfst, toL_app, toL_app, toL_b1, catD_L]
        simp only [List.append_assoc, List.cons_append, List.nil_append]; rfl
      obtain ⟨m3, m4, m5⟩ := codes_kind _ (kind_in q3 q2) _ c1
      have hne : (bareV v0).kind ≠ 0 := fun h => by have := kind_in q3 q2; rw [h] at this; exact absurd this (by decide)
      have hcons := cons_rt _ v0 (Nat.le_refl _) a2 a4 a5 (codeOf ((v0 :: r).map shV)) ((v0 :: r).flatMap fun x => toL (dataS (codeOf ((v0 :: r).map shV)) (shV x))) ((toL (arrS ((v0 :: r).map encV))).length + 1) (by rw [m3]; exact hne) (by omega) m5 (by rw [e]; simp only [List.length_append]; omega)
      rw [← e] at hcons
      rw [hcons]
      dsimp only
      have hmany := many_rt (step := itemF (readF f) (nmV v0) (codeOf ((v0 :: r).map shV))) (fun x => toL (dataS (codeOf ((v0 :: r).map shV)) (shV x))) (v0 :: r) [] (fun x hx rr => by
        obtain ⟨x1, x2, x3, x4, x5⟩ := hkid x (by rw [hkk]; exact hx)
        obtain ⟨n1, n2⟩ := alike_nm _ v0 x (halk x hx) a4 x4
        rw [n1]
        refine item_rt hr x1 x2 x3 x4 x5 (by rw [← n2]; exact c1) ?_ (by omega) rr
        rw [List.all_eq_true] at c2
        exact c2 _ (List.mem_map_of_mem hx))
      rw [List.append_nil] at hmany
      rw [hmany, k3]
      rw [endF_nil, ← hkk, hvv]
  have both : bodyF (readF f) c v.kids.length (toL (insS v)) = .ok v := by
    by_cases h24 : v.kind = 24
    · exact arr h24
    · exact many h24
  have hcs : c = 69 ∨ (c = 192 ∨ c = 193 ∨ c = 224) ∨ (c = 208 ∨ c = 209 ∨ c = 240) := by
    have : ∀ k ∈ kindL, ¬ k < 22 → ∀ c ∈ codesOf k, c = 69 ∨ (c = 192 ∨ c = 193 ∨ c = 224) ∨ (c = 208 ∨ c = 209 ∨ c = 240) := by decide
    exact this _ hin h22 c hc
  rw [hsh] at hf ⊢
  rcases hcs with h | h | h
  · subst h
    have hnil : v.kids = [] := by
      have : v.kids.length = 0 := by simpa [fitS] using hf
      exact List.length_eq_zero_iff.1 this
    unfold readS
    rw [if_pos (by decide)]
    have h22' : v.kind = 22 := by rw [← k3]; decide
    rw [← hvv, h22', hnil]; rfl
  · have hcnt : v.kids.length ≤ 255 := by rcases h with rfl | rfl | rfl <;> (simp [fitS] at hf; exact hf.1)
    rw [dataS_12 (by rcases h with rfl | rfl | rfl <;> decide)]
    rw [readS_many (x := e0) (by omega) (by rcases h with rfl | rfl | rfl <;> decide) (be1L _) (be1L _) (be1N _ hcnt)]
    exact both
  · rw [dataS_13 (by rcases h with rfl | rfl | rfl <;> decide)]
    rw [readS_many (x := e0) (by omega) (by rcases h with rfl | rfl | rfl <;> decide) (be4L _) (be4L _) (be4N _ (by show v.kids.length < _; omega))]
    exact both
theorem read_rt : ∀ n, RdOk n
  | 0 => fun v h => by have := Val.sz_eq v; omega
  | n + 1 => read_step (read_rt n)
/-- WHAT IS WRITTEN IS READ, whatever stands behind it -/
theorem wr_rt (v : Val) (hz : v.sz ≤ 4000000) (hr : rightS v = true) (hw : v.wf) (fuel : Nat) (hfu : v.sz ≤ fuel) (rest : List UInt8) : valF (readF fuel) (toL (wrV v) ++ rest) = .ok (v, rest) := by
  unfold rightS at hr
  simp only [Bool.and_eq_true, decide_eq_true_eq] at hr
  exact val_rt (read_rt v.sz) v (Nat.le_refl _) hz hr.1.2 hr.2 hw fuel hfu rest
/-- none is the beginning of another -/
theorem wr_prefix {v w : Val} (hz : v.sz ≤ 4000000) (hr : rightS v = true) (hw : v.wf) (kz : w.sz ≤ 4000000) (kr : rightS w = true) (kw : w.wf) {a b : List UInt8} (h : toL (wrV v) ++ a = toL (wrV w) ++ b) : v = w ∧ a = b := by
  have h1 := wr_rt v hz hr hw (v.sz + w.sz) (by omega) a
  have h2 := wr_rt w kz kr kw (v.sz + w.sz) (by omega) b
  rw [h, h2] at h1
  injection h1 with h1
  injection h1 with h1 h2
  exact ⟨h1.symm, h2.symm⟩
end Go.Bw.R1

/- Plain: arrays of numbers. -/
namespace Go.Bw.R1
set_option maxRecDepth 5000
open Go Go.Bw
def mostS (k : Int) : List Int → Nat
  | [] => 0
  | n :: l => max (wK k n) (mostS k l)
theorem most_app (k : Int) : ∀ a b, mostS k (a ++ b) = max (mostS k a) (mostS k b)
  | [], b => by simp [mostS]
  | n :: a, b => by simp only [List.cons_append, mostS, most_app k a b]; omega
theorem most_is {k : Int} {W : Nat} : ∀ {l : List Int}, (∀ n ∈ l, wK k n ≤ W) → (∃ n ∈ l, wK k n = W) → mostS k l = W
  | [], _, ⟨n, h, _⟩ => by simp at h
  | a :: l, h1, ⟨n, h2, h3⟩ => by
    have ha := h1 a (by simp)
    have hle : ∀ {l : List Int}, (∀ n ∈ l, wK k n ≤ W) → mostS k l ≤ W := by
      intro l; induction l with
      | nil => intro _; exact Nat.zero_le _
      | cons x r ih => intro h; have := ih fun n hn => h n (by simp [hn]); have := h x (by simp); simp only [mostS]; omega
    have hl := hle fun n hn => h1 n (List.mem_cons_of_mem _ hn)
    simp only [mostS]
    rcases List.mem_cons.1 h2 with rfl | h2
    · omega
    · have := most_is (l := l) (fun n hn => h1 n (List.mem_cons_of_mem _ hn)) ⟨n, h2, h3⟩; omega
theorem most_le (k : Int) : ∀ l, mostS k l ≤ 8
  | [] => Nat.zero_le _
  | n :: l => by
    have := most_le k l
    have : wK k n ≤ 8 := by unfold wK szK; repeat' split
                            all_goals omega
    simp only [mostS]; omega
/-- the code of an array of numbers, and how wide each is -/
def cA (k : Int) (l : List Int) : Int := codeOf (l.map fun n => shV (NV k n))
theorem all_sh (k : Int) (h1 : k ≤ 14) (c : Int) (l : List Int) : ((l.map fun n => shV (NV k n)).all (fitS c)) = l.all fun n => fitS c ⟨k, n, ⟨#[]⟩, 0, insS (NV k n)⟩ := by
  rw [List.all_map]
  congr 1
  funext n
  simp only [Function.comp, sh_num k n h1]
theorem cA_eq (k : Int) (h1 : k ≤ 14) (a : Int) (l : List Int) : cA k (a :: l) = ((codesOf k).find? fun c => (a :: l).all fun n => fitS c ⟨k, n, ⟨#[]⟩, 0, insS (NV k n)⟩).getD 0 := by
  unfold cA codeOf
  rw [show (((a :: l).map fun n => shV (NV k n)).headD default).kind = k by rw [List.map_cons, List.headD_cons, sh_num k a h1]]
  simp only [all_sh k h1]
theorem all_no {p : Int → Bool} : ∀ {l : List Int}, l.all p = false → ∃ x ∈ l, p x = false
  | [], h => by cases h
  | a :: l, h => by
    rw [List.all_cons] at h
    cases ha : p a with
    | false => exact ⟨a, by simp, ha⟩
    | true =>
      rw [ha, Bool.true_and] at h
      obtain ⟨x, h1, h2⟩ := all_no h
      exact ⟨x, List.mem_cons_of_mem _ h1, h2⟩
theorem data_A (k : Int) (l : List Int) (h0 : 3 ≤ k) (h1 : k ≤ 14) (hl : l ≠ []) (hn : ∀ n ∈ l, 0 ≤ n) : ∀ n ∈ l, (dataS (cA k l) (shV (NV k n))).size = mostS k l := by
  obtain ⟨a, r, rfl⟩ := List.exists_cons_of_ne_nil hl
  have fin : ∀ {c : Int} {W : Nat}, cA k (a :: r) = c → (∀ n, (dataS c ⟨k, n, ⟨#[]⟩, 0, insS (NV k n)⟩).size = W) → (∀ n ∈ a :: r, wK k n ≤ W) → (∃ n ∈ a :: r, wK k n = W) → ∀ n ∈ a :: r, (dataS (cA k (a :: r)) (shV (NV k n))).size = mostS k (a :: r) := fun {c W} e1 e2 e3 e4 n hn => by
    rw [e1, sh_num k n h1, e2, most_is e3 e4]
  have fix : ∀ {c : Int} {W : Nat}, codesOf k = [c] → (∀ s, fitS c s = true) → (∀ n, (dataS c ⟨k, n, ⟨#[]⟩, 0, insS (NV k n)⟩).size = W) → (∀ n, wK k n = W) → ∀ n ∈ a :: r, (dataS (cA k (a :: r)) (shV (NV k n))).size = mostS k (a :: r) := fun {c W} e0 e1 e2 e3 => by
    refine fin (c := c) (W := W) ?_ e2 (fun n _ => by rw [e3]; exact Nat.le_refl _) ⟨a, by simp, e3 a⟩
    rw [cA_eq k h1, e0]
    have : ((a :: r).all fun n => fitS c ⟨k, n, ⟨#[]⟩, 0, insS (NV k n)⟩) = true := List.all_eq_true.2 fun n _ => e1 _
    rw [List.find?_cons, this]; rfl
  rcases kinds12 h0 h1 with rfl | rfl | rfl | rfl | rfl | rfl | rfl | rfl | rfl | rfl | rfl | rfl
  · exact fix (c := 80) (W := 1) rfl (fun _ => rfl) (fun n => bz_1 n) (fun n => rfl)
  · exact fix (c := 96) (W := 2) rfl (fun _ => rfl) (fun n => bz_2 n) (fun n => rfl)
  · cases hA : (a :: r).all fun n => n == 0
    · obtain ⟨x, hx, hx2⟩ : ∃ x ∈ a :: r, (x == 0) = false := all_no hA
      have hx3 : x ≠ 0 := by simpa using hx2
      cases hB : (a :: r).all fun n => decide (n ≤ 255)
      · obtain ⟨y, hy, hy2⟩ : ∃ y ∈ a :: r, decide (y ≤ 255) = false := all_no hB
        have hy3 : ¬ y ≤ 255 := by simpa using hy2
        refine fin (c := 112) (W := 4) ?_ (fun n => bz_4 n) (fun n _ => ?_) ⟨y, hy, ?_⟩
        · rw [cA_eq 5 h1, show codesOf 5 = [67, 82, 112] from rfl]
          have e1 : ((a :: r).all fun n => fitS 67 ⟨5, n, ⟨#[]⟩, 0, insS (NV 5 n)⟩) = false := hA
          have e2 : ((a :: r).all fun n => fitS 82 ⟨5, n, ⟨#[]⟩, 0, insS (NV 5 n)⟩) = false := hB
          have e3 : ((a :: r).all fun n => fitS 112 ⟨5, n, ⟨#[]⟩, 0, insS (NV 5 n)⟩) = true := List.all_eq_true.2 fun n _ => rfl
          rw [List.find?_cons, e1, List.find?_cons, e2, List.find?_cons, e3]; rfl
        · unfold wK szK; repeat' split
          all_goals omega
        · unfold wK; rw [if_neg (by omega), if_neg (by omega)]; rfl
      · have hB' : ∀ n ∈ a :: r, n ≤ 255 := fun n hn => by have := List.all_eq_true.1 hB n hn; simpa using this
        refine fin (c := 82) (W := 1) ?_ (fun n => bz_1 n) (fun n hm => ?_) ⟨x, hx, ?_⟩
        · rw [cA_eq 5 h1, show codesOf 5 = [67, 82, 112] from rfl]
          have e1 : ((a :: r).all fun n => fitS 67 ⟨5, n, ⟨#[]⟩, 0, insS (NV 5 n)⟩) = false := hA
          have e2 : ((a :: r).all fun n => fitS 82 ⟨5, n, ⟨#[]⟩, 0, insS (NV 5 n)⟩) = true := hB
          rw [List.find?_cons, e1, List.find?_cons, e2]; rfl
        · have := hB' n hm
          unfold wK; split
          · omega
          · rw [if_pos (by omega)]; omega
        · have := hB' x hx
          unfold wK; rw [if_neg (by omega), if_pos (by omega)]
    · have hA' : ∀ n ∈ a :: r, n = 0 := fun n hn => by have := List.all_eq_true.1 hA n hn; simpa using this
      refine fin (c := 67) (W := 0) ?_ (fun n => rfl) (fun n hm => ?_) ⟨a, by simp, ?_⟩
      · rw [cA_eq 5 h1, show codesOf 5 = [67, 82, 112] from rfl]
        have e1 : ((a :: r).all fun n => fitS 67 ⟨5, n, ⟨#[]⟩, 0, insS (NV 5 n)⟩) = true := hA
        rw [List.find?_cons, e1]; rfl
      · rw [hA' n hm]; exact Nat.le_refl _
      · rw [hA' a (by simp)]; rfl
  · cases hA : (a :: r).all fun n => n == 0
    · obtain ⟨x, hx, hx2⟩ : ∃ x ∈ a :: r, (x == 0) = false := all_no hA
      have hx3 : x ≠ 0 := by simpa using hx2
      cases hB : (a :: r).all fun n => decide (n ≤ 255)
      · obtain ⟨y, hy, hy2⟩ : ∃ y ∈ a :: r, decide (y ≤ 255) = false := all_no hB
        have hy3 : ¬ y ≤ 255 := by simpa using hy2
        refine fin (c := 128) (W := 8) ?_ (fun n => bz_8 n) (fun n _ => ?_) ⟨y, hy, ?_⟩
        · rw [cA_eq 6 h1, show codesOf 6 = [68, 83, 128] from rfl]
          have e1 : ((a :: r).all fun n => fitS 68 ⟨6, n, ⟨#[]⟩, 0, insS (NV 6 n)⟩) = false := hA
          have e2 : ((a :: r).all fun n => fitS 83 ⟨6, n, ⟨#[]⟩, 0, insS (NV 6 n)⟩) = false := hB
          have e3 : ((a :: r).all fun n => fitS 128 ⟨6, n, ⟨#[]⟩, 0, insS (NV 6 n)⟩) = true := List.all_eq_true.2 fun n _ => rfl
          rw [List.find?_cons, e1, List.find?_cons, e2, List.find?_cons, e3]; rfl
        · unfold wK szK; repeat' split
          all_goals omega
        · unfold wK; rw [if_neg (by omega), if_neg (by omega)]; rfl
      · have hB' : ∀ n ∈ a :: r, n ≤ 255 := fun n hn => by have := List.all_eq_true.1 hB n hn; simpa using this
        refine fin (c := 83) (W := 1) ?_ (fun n => bz_1 n) (fun n hm => ?_) ⟨x, hx, ?_⟩
        · rw [cA_eq 6 h1, show codesOf 6 = [68, 83, 128] from rfl]
          have e1 : ((a :: r).all fun n => fitS 68 ⟨6, n, ⟨#[]⟩, 0, insS (NV 6 n)⟩) = false := hA
          have e2 : ((a :: r).all fun n => fitS 83 ⟨6, n, ⟨#[]⟩, 0, insS (NV 6 n)⟩) = true := hB
          rw [List.find?_cons, e1, List.find?_cons, e2]; rfl
        · have := hB' n hm
          unfold wK; split
          · omega
          · rw [if_pos (by omega)]; omega
        · have := hB' x hx
          unfold wK; rw [if_neg (by omega), if_pos (by omega)]
    · have hA' : ∀ n ∈ a :: r, n = 0 := fun n hn => by have := List.all_eq_true.1 hA n hn; simpa using this
      refine fin (c := 68) (W := 0) ?_ (fun n => rfl) (fun n hm => ?_) ⟨a, by simp, ?_⟩
      · rw [cA_eq 6 h1, show codesOf 6 = [68, 83, 128] from rfl]
        have e1 : ((a :: r).all fun n => fitS 68 ⟨6, n, ⟨#[]⟩, 0, insS (NV 6 n)⟩) = true := hA
        rw [List.find?_cons, e1]; rfl
      · rw [hA' n hm]; exact Nat.le_refl _
      · rw [hA' a (by simp)]; rfl
  · exact fix (c := 81) (W := 1) rfl (fun _ => rfl) (fun n => bz_1 n) (fun n => rfl)
  · exact fix (c := 97) (W := 2) rfl (fun _ => rfl) (fun n => bz_2 n) (fun n => rfl)
  · cases hA : (a :: r).all fun n => sgn8 n
    · obtain ⟨x, hx, hx2⟩ : ∃ x ∈ a :: r, sgn8 x = false := all_no hA
      refine fin (c := 113) (W := 4) ?_ (fun n => bz_4 n) (fun n _ => ?_) ⟨x, hx, ?_⟩
      · rw [cA_eq 9 h1, show codesOf 9 = [84, 113] from rfl]
        have e1 : ((a :: r).all fun n => fitS 84 ⟨9, n, ⟨#[]⟩, 0, insS (NV 9 n)⟩) = false := hA
        have e3 : ((a :: r).all fun n => fitS 113 ⟨9, n, ⟨#[]⟩, 0, insS (NV 9 n)⟩) = true := List.all_eq_true.2 fun n _ => rfl
        rw [List.find?_cons, e1, List.find?_cons, e3]; rfl
      · unfold wK szK; repeat' split
        all_goals omega
      · unfold wK; rw [if_neg (by omega), if_neg (by rw [hx2]; simp)]; rfl
    · have hA' : ∀ n ∈ a :: r, sgn8 n = true := fun n hn => List.all_eq_true.1 hA n hn
      have one : ∀ n ∈ a :: r, wK 9 n = 1 := fun n hn => by unfold wK; rw [if_neg (by omega), if_pos (by right; exact ⟨by omega, hA' n hn⟩)]
      refine fin (c := 84) (W := 1) ?_ (fun n => bz_1 n) (fun n hm => by rw [one n hm]; exact Nat.le_refl _) ⟨a, by simp, one a (by simp)⟩
      rw [cA_eq 9 h1, show codesOf 9 = [84, 113] from rfl]
      have e1 : ((a :: r).all fun n => fitS 84 ⟨9, n, ⟨#[]⟩, 0, insS (NV 9 n)⟩) = true := hA
      rw [List.find?_cons, e1]; rfl
  · cases hA : (a :: r).all fun n => sgn8 n
    · obtain ⟨x, hx, hx2⟩ : ∃ x ∈ a :: r, sgn8 x = false := all_no hA
      refine fin (c := 129) (W := 8) ?_ (fun n => bz_8 n) (fun n _ => ?_) ⟨x, hx, ?_⟩
      · rw [cA_eq 10 h1, show codesOf 10 = [85, 129] from rfl]
        have e1 : ((a :: r).all fun n => fitS 85 ⟨10, n, ⟨#[]⟩, 0, insS (NV 10 n)⟩) = false := hA
        have e3 : ((a :: r).all fun n => fitS 129 ⟨10, n, ⟨#[]⟩, 0, insS (NV 10 n)⟩) = true := List.all_eq_true.2 fun n _ => rfl
        rw [List.find?_cons, e1, List.find?_cons, e3]; rfl
      · unfold wK szK; repeat' split
        all_goals omega
      · unfold wK; rw [if_neg (by omega), if_neg (by rw [hx2]; simp)]; rfl
    · have hA' : ∀ n ∈ a :: r, sgn8 n = true := fun n hn => List.all_eq_true.1 hA n hn
      have one : ∀ n ∈ a :: r, wK 10 n = 1 := fun n hn => by unfold wK; rw [if_neg (by omega), if_pos (by right; exact ⟨by omega, hA' n hn⟩)]
      refine fin (c := 85) (W := 1) ?_ (fun n => bz_1 n) (fun n hm => by rw [one n hm]; exact Nat.le_refl _) ⟨a, by simp, one a (by simp)⟩
      rw [cA_eq 10 h1, show codesOf 10 = [85, 129] from rfl]
      have e1 : ((a :: r).all fun n => fitS 85 ⟨10, n, ⟨#[]⟩, 0, insS (NV 10 n)⟩) = true := hA
      rw [List.find?_cons, e1]; rfl
  · exact fix (c := 114) (W := 4) rfl (fun _ => rfl) (fun n => bz_4 n) (fun n => rfl)
  · exact fix (c := 130) (W := 8) rfl (fun _ => rfl) (fun n => bz_8 n) (fun n => rfl)
  · exact fix (c := 115) (W := 4) rfl (fun _ => rfl) (fun n => bz_4 n) (fun n => rfl)
  · exact fix (c := 131) (W := 8) rfl (fun _ => rfl) (fun n => bz_8 n) (fun n => rfl)
end Go.Bw.R1

/- Arrays of numbers: values that may be, and their bytes. -/
namespace Go.Bw.R1
set_option maxRecDepth 5000
open Go Go.Bw
abbrev AV (l : List Val) : Val := .mk 24 0 ⟨#[]⟩ l
theorem depthL_const {l : List Val} {d : Nat} (h : ∀ x ∈ l, x.depth = d) : Val.depthL l ≤ d := by
  induction l with
  | nil => simp [Val.depthL]
  | cons a l ih => have := ih fun x hx => h x (by simp [hx]); have := h a (by simp); simp only [Val.depthL]; omega
theorem itemsL_const {l : List Val} {d : Nat} (h : ∀ x ∈ l, x.items = d) : Val.itemsL l = l.length * d := by
  induction l with
  | nil => simp [Val.itemsL]
  | cons a l ih => have := ih fun x hx => h x (by simp [hx]); have := h a (by simp); simp only [Val.itemsL, List.length_cons, Nat.add_mul]; omega
theorem nv_depth (k n : Int) : (NV k n).depth = 1 := by rw [Val.depth_eq]; rfl
theorem nv_items (k n : Int) : (NV k n).items = 1 := by rw [Val.items_eq]; rfl
theorem dv_depth (m k n : Int) : (DV (NV 6 m) (NV k n)).depth = 2 := by rw [Val.depth_eq]; simp only [Val.kids_mk, Val.depthL, nv_depth]; rfl
theorem dv_items (m k n : Int) : (DV (NV 6 m) (NV k n)).items = 3 := by rw [Val.items_eq]; simp only [Val.kids_mk, Val.itemsL, nv_items]
theorem may_name (m : Int) : mayS (NV 6 m) = true := by rw [mayS_eq]; rfl
theorem right_num {k n : Int} (h : rightS (NV k n) = true) : mayS (NV k n) = true := by unfold rightS at h; simp only [Bool.and_eq_true] at h; exact h.2
theorem may_dv {m k n : Int} (h : mayS (NV k n) = true) : mayS (DV (NV 6 m) (NV k n)) = true := by
  rw [mayS_eq]
  simp only [Val.kids_mk, mayL, may_name, h]; rfl
theorem alF_nv (q : Nat) (k n p : Int) (hk : k ≤ 14) : alikeF (q + 1) (NV k n) (NV k p) = true := by
  unfold alikeF
  have h : k ≠ 25 := by omega
  refine (if_pos (show ((NV k n).kind != 25 || (NV k p).kind != 25) = true by simp only [Val.kind_mk]; simp [h])).trans ?_
  simp only [Val.kind_mk, beq_self_eq_true]
theorem alike_nv (k n p : Int) (hk : k ≤ 14) : alike (NV k n) (NV k p) = true := by
  unfold alike; rw [show (NV k n).sz = 1 from rfl]; exact alF_nv 0 k n p hk
theorem alike_dv (m k n p : Int) (hk : k ≤ 14) : alike (DV (NV 6 m) (NV k n)) (DV (NV 6 m) (NV k p)) = true := by
  unfold alike; rw [show (DV (NV 6 m) (NV k n)).sz = 3 from rfl]
  show (same (NV 6 m) (NV 6 m) && alikeF 2 (NV k n) (NV k p)) = true
  rw [same_refl, alF_nv 1 k n p hk]; rfl
theorem may_arr {l : List Val} (h1 : ∀ x ∈ l, mayS x = true) (h2 : ∀ x ∈ l, ∀ y ∈ l, alike x y = true) : mayS (AV l) = true := by
  rw [mayS_eq]
  simp only [Val.kids_mk, Val.kind_mk, Val.num_mk, Val.text_mk]
  rw [show mayL l = true by rw [mayL_all]; exact List.all_eq_true.2 h1]
  have : famS 24 l = true := by
    unfold famS
    rw [if_neg (by decide), if_neg (by decide), if_pos (by decide), List.all_eq_true]
    intro x hx
    cases l with
    | nil => rfl
    | cons y r => exact h2 y (by simp) x hx
  rw [this]; rfl
theorem right_arr {l : List Val} {d i : Nat} (h1 : ∀ x ∈ l, mayS x = true) (h2 : ∀ x ∈ l, ∀ y ∈ l, alike x y = true) (hd : ∀ x ∈ l, x.depth = d) (hi : ∀ x ∈ l, x.items = i) (h3 : d < 16) (h4 : l.length * i < 1024) : rightS (AV l) = true := by
  have e1 : (AV l).depth = Val.depthL l + 1 := Val.depth_eq _
  have e2 : (AV l).items = Val.itemsL l + 1 := Val.items_eq _
  have := depthL_const hd
  have := itemsL_const hi
  unfold rightS
  rw [may_arr h1 h2, decide_eq_true (by omega : (AV l).depth ≤ 16), decide_eq_true (by omega : (AV l).items ≤ 1024)]; rfl
/-- a head of an array, and what stands in it -/
def hdA (h : ByteArray) (C : Int) (cnt : Nat) (z : Nat) : ByteArray := if cnt ≤ 255 ∧ (h.size + 1 + z) < 255 then b1 224 ++ be 1 (1 + (h.size + 1 + z) : Nat) ++ be 1 cnt ++ h ++ b1 C else b1 240 ++ be 4 (4 + (h.size + 1 + z) : Nat) ++ be 4 cnt ++ h ++ b1 C
theorem hdA_size (h : ByteArray) (C : Int) (cnt z : Nat) : (hdA h C cnt z).size = (if cnt ≤ 255 ∧ (h.size + 1 + z) < 255 then 3 else 9) + h.size + 1 := by
  unfold hdA
  split <;> simp only [ByteArray.size_append, b1_size, be_size (w := 1) (by simp [wOk]), be_size (w := 4) (by simp [wOk])]
theorem wr_arr {v : Val} {r : List Val} {C : Int} (hC : codeOf ((v :: r).map shV) = C) : wrV (AV (v :: r)) = hdA (hdV v) C (v :: r).length (catD C ((v :: r).map shV)).size ++ catD C ((v :: r).map shV) := by
  have e1 : shV (AV (v :: r)) = ⟨24, 0, ⟨#[]⟩, (v :: r).length, insS (AV (v :: r))⟩ := sh_ne (show (24 : Int) ≠ 25 by decide)
  have e2 : hdV (AV (v :: r)) = e0 := hd_ne (show (24 : Int) ≠ 25 by decide)
  have hins : insS (AV (v :: r)) = hdV v ++ b1 C ++ catD C ((v :: r).map shV) := by
    refine (show insS (AV (v :: r)) = arrS ((v :: r).map encV) from if_pos rfl).trans ?_
    have hfst : ((encV v :: r.map encV).map Prod.fst) = (v :: r).map shV := by rw [List.map_cons, List.map_cons, List.map_map]; rfl
    show (encV v).2 ++ b1 (codeOf ((encV v :: r.map encV).map Prod.fst)) ++ catD (codeOf ((encV v :: r.map encV).map Prod.fst)) ((encV v :: r.map encV).map Prod.fst) = _
    rw [hfst, hC]; rfl
  have hz : (insS (AV (v :: r))).size = (hdV v).size + 1 + (catD C ((v :: r).map shV)).size := by rw [hins]; simp only [ByteArray.size_append, b1_size]
  have hcode : codeOf [shV (AV (v :: r))] = if (v :: r).length ≤ 255 ∧ ((hdV v).size + 1 + (catD C ((v :: r).map shV)).size) < 255 then 224 else 240 := by
    rw [e1]
    unfold codeOf
    rw [show codesOf (List.headD [(⟨24, 0, ⟨#[]⟩, (v :: r).length, insS (AV (v :: r))⟩ : Sh)] default).kind = [224, 240] from rfl]
    simp only [List.find?_cons, List.all_cons, List.all_nil, Bool.and_true]
    by_cases h : (v :: r).length ≤ 255 ∧ ((hdV v).size + 1 + (catD C ((v :: r).map shV)).size) < 255
    · rw [if_pos h]
      have : fitS 224 ⟨24, 0, ⟨#[]⟩, (v :: r).length, insS (AV (v :: r))⟩ = true := by
        show (decide ((v :: r).length ≤ 255) && decide ((insS (AV (v :: r))).size < 255)) = true
        rw [hz]; simpa using h
      rw [this]; rfl
    · rw [if_neg h]
      have : fitS 224 ⟨24, 0, ⟨#[]⟩, (v :: r).length, insS (AV (v :: r))⟩ = false := by
        show (decide ((v :: r).length ≤ 255) && decide ((insS (AV (v :: r))).size < 255)) = false
        rw [hz]
        simpa using h
      rw [this]; rfl
  unfold wrV Wd
  rw [e2, e0_app, hcode]
  unfold hdA
  split
  · rw [e1, dataS_12 (by decide)]
    show b1 224 ++ (be 1 (1 + (insS (AV (v :: r))).size : Nat) ++ (be 1 (v :: r).length ++ insS (AV (v :: r)))) = _
    rw [hz, hins]; simp only [ByteArray.append_assoc]
  · rw [e1, dataS_13 (by decide)]
    show b1 240 ++ (be 4 (4 + (insS (AV (v :: r))).size : Nat) ++ (be 4 (v :: r).length ++ insS (AV (v :: r)))) = _
    rw [hz, hins]; simp only [ByteArray.append_assoc]
theorem catD_const {C : Int} {W : Nat} : ∀ {l : List Sh}, (∀ s ∈ l, (dataS C s).size = W) → (catD C l).size = W * l.length
  | [], _ => rfl
  | s :: l, h => by
    rw [catD, ByteArray.size_append, h s (by simp), catD_const fun x hx => h x (by simp [hx]), List.length_cons, Nat.mul_add]; omega
end Go.Bw.R1
