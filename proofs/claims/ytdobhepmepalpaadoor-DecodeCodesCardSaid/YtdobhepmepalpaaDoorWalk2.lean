/- What the functions answer. -/
import Derived.Test.YtdobhepmepalpaaDoorWalk1
import Derived.Recover
set_option linter.unusedSimpArgs false
set_option linter.unusedVariables false
namespace Go.Bw.R1
set_option maxRecDepth 5000
open Go Go.Bw Go.Proofs
theorem called_c (v : Val) : EV 83 [v.d] [] = some (.ret (B (v.kind == 6 || v.kind == 21)), []) := by
  refine (ev_body ⟨[1], [], [], false, [], noIt⟩ [.tmp 2] rfl Tryd.func83 rfl rfl rfl (by kernel_rfl) (by show 1 ≤ 11; decide) (by kernel_rfl)).trans ?_
  cases h : (v.kind == 6)
  · simp +contextual (maxSteps := 10000000) only [↓reduceIte, go_sem, Nat.reduceEqDiff, Nat.reduceAdd, Nat.reduceSub, Nat.reduceMul, Nat.reduceLeDiff, Nat.reduceLT, Nat.reduceBEq, Nat.reduceDiv, Nat.reduceMod, Int.reduceLE, Int.reduceLT, Int.reduceEq, Int.reduceBEq, Int.reduceBNe, Int.reduceAdd, Int.reduceSub, Int.reduceNeg, Int.reduceToNat, Int.reduceMul, Int.reducePow, Nat.reducePow, reduceCtorEq, h, Bool.false_or]
  · simp +contextual (maxSteps := 10000000) only [↓reduceIte, go_sem, Nat.reduceEqDiff, Nat.reduceAdd, Nat.reduceSub, Nat.reduceMul, Nat.reduceLeDiff, Nat.reduceLT, Nat.reduceBEq, Nat.reduceDiv, Nat.reduceMod, Int.reduceLE, Int.reduceLT, Int.reduceEq, Int.reduceBEq, Int.reduceBNe, Int.reduceAdd, Int.reduceSub, Int.reduceNeg, Int.reduceToNat, Int.reduceMul, Int.reducePow, Nat.reducePow, reduceCtorEq, h, Bool.true_or]
mutual
theorem same_comm : ∀ a b : Val, same a b = same b a
  | .mk k n t l, .mk k' n' t' l' => by
    rw [same, same, sameL_comm l l', Bool.beq_comm (a := k), Bool.beq_comm (a := n), show decide (t = t') = decide (t' = t) from decide_eq_decide.2 eq_comm]
theorem sameL_comm : ∀ a b : List Val, sameL a b = sameL b a
  | [], [] => rfl
  | [], _ :: _ => rfl
  | _ :: _, [] => rfl
  | a :: l, b :: m => by rw [sameL, sameL, same_comm a b, sameL_comm l m]
end
mutual
theorem same_refl : ∀ a : Val, same a a = true
  | .mk k n t l => by rw [same, sameL_refl l]; simp
theorem sameL_refl : ∀ a : List Val, sameL a a = true
  | [] => rfl
  | a :: l => by rw [sameL, same_refl a, sameL_refl l]; rfl
end
theorem alikeF_refl : ∀ (n : Nat) (a : Val), a.sz ≤ n → mayS a = true → alikeF n a a = true
  | 0, .mk .., h, _ => by simp [Val.sz] at h
  | n + 1, a, hn, hm => by
    by_cases hk : a.kind = 25
    · obtain ⟨x, y, hx, _, my⟩ := may_desc hm hk
      rw [Val.sz_eq, hx] at hn
      simp only [Val.szL] at hn
      simp only [alikeF, hk, bne_self_eq_false, Bool.or_self, Bool.false_eq_true, if_false, hx, same_refl, alikeF_refl n y (by omega) my, Bool.and_self]
    · have e : (a.kind != 25) = true := by simpa using hk
      simp only [alikeF, e, Bool.true_or, if_true, beq_self_eq_true]
theorem alike_refl {a : Val} (h : mayS a = true) : alike a a = true := alikeF_refl _ a (Nat.le_refl _) h
theorem mayL_drop {l : List Val} {i : Nat} {x : Val} (h : l[i]? = some x) : mayL (l.drop i) = (mayS x && mayL (l.drop (i + 1))) := by
  obtain ⟨hl, rfl⟩ := List.getElem?_eq_some_iff.1 h
  rw [List.drop_eq_getElem_cons hl, mayL]
theorem mayL_at {l : List Val} (h : mayL l = true) {i : Nat} {x : Val} (hx : l[i]? = some x) : mayS x = true := by
  rw [mayL_all, List.all_eq_true] at h
  exact h x (List.mem_of_getElem? hx)
theorem mod21 (n : Nat) : (((n : Int).tmod 2) == 1) = (n % 2 == 1) := by
  rw [Int.tmod_eq_emod_of_nonneg (by omega), Bool.eq_iff_iff]
  simp only [beq_iff_eq]
  omega
theorem keyL_at : ∀ (l : List Val) (a : Nat), 2 * a + 1 < l.length → (keyL l)[a]? = l[2 * a]?
  | x :: y :: r, 0, _ => rfl
  | x :: y :: r, a + 1, h => by
    have := keyL_at r a (by simp only [List.length_cons] at h; omega)
    rw [keyL, List.getElem?_cons_succ, this, show 2 * (a + 1) = 2 * a + 1 + 1 by omega, List.getElem?_cons_succ, List.getElem?_cons_succ]
  | [], a, h => by simp at h
  | [_], a, h => by simp at h
theorem keyL_len : ∀ l : List Val, 2 * (keyL l).length ≤ l.length ∧ l.length ≤ 2 * (keyL l).length + 1
  | [] => by simp [keyL]
  | [_] => by simp [keyL]
  | _ :: _ :: r => by have := keyL_len r; simp only [keyL, List.length_cons]; omega
theorem noSame_step {ks : List Val} {a : Nat} {x : Val} (h : ks[a]? = some x) : noSame (ks.take a) (ks.drop a) = if ((ks.take a).any fun s => same s x) = true then false else noSame (ks.take (a + 1)) (ks.drop (a + 1)) := by
  obtain ⟨hl, rfl⟩ := List.getElem?_eq_some_iff.1 h
  rw [List.drop_eq_getElem_cons hl, noSame, List.take_succ_eq_append_getElem hl]
theorem any_step {ks : List Val} {a b : Nat} {x y : Val} (hb : b < a) (h : ks[b]? = some y) : (((ks.take a).drop b).any fun s => same s x) = (same y x || ((ks.take a).drop (b + 1)).any fun s => same s x) := by
  obtain ⟨hl, rfl⟩ := List.getElem?_eq_some_iff.1 h
  have hl2 : b < (ks.take a).length := by rw [List.length_take]; omega
  rw [List.drop_eq_getElem_cons hl2, List.any_cons, List.getElem_take]
def arS : List Val → Val → Bool
  | [], _ => true
  | y :: _, x => alike y x
theorem fam24_eq (l : List Val) : famS 24 l = l.all (arS l) := by
  cases l <;> rfl
theorem all_drop {p : Val → Bool} {l : List Val} {i : Nat} {x : Val} (h : l[i]? = some x) : (l.drop i).all p = (p x && (l.drop (i + 1)).all p) := by
  obtain ⟨hl, rfl⟩ := List.getElem?_eq_some_iff.1 h
  rw [List.drop_eq_getElem_cons hl, List.all_cons]
def ntS (v : Val) : Bool := (v.num == 0) && decide (v.text = ⟨#[]⟩)
def rfS (v : Val) : Bool :=
  if v.kind = 22 ∨ v.kind = 23 ∨ v.kind = 24 ∨ v.kind = 25 then famS v.kind v.kids && ntS v else v.kids.isEmpty && plainS v.kind v.num v.text
set_option maxHeartbeats 2000000 in
theorem rmay22 (v : Val) (hs : v.sz ≤ 40000000) (hc : ∀ x ∈ v.kids, EV 61 [x.d] [] = some (.ret (B (mayS x)), [])) (hk : v.kind = 22) : EV 61 [v.d] [] = some (.ret (B (mayL v.kids && rfS v)), []) := by
  have hl := szL_len v.kids
  have hz := Val.sz_eq v
  refine (ev_body ⟨[1], [(0, [1, 3]), (3, [1, 4, 5]), (5, [1, 4, 5, 6]), (7, [1, 4, 7])], [(19, [(0, 0, false), (1, 0, false), (2, 0, false), (3, 0, false), (4, 0, false), (5, 0, false), (6, 0, false), (7, 0, false), (8, 0, false), (9, 0, false), (10, 0, false)]), (25, [(0, 0, false), (1, 0, false), (2, 0, false), (3, 0, false), (4, 0, false), (5, 0, false), (6, 0, false), (7, 0, false), (8, 0, false), (9, 0, false), (10, 0, false)])], false, [], noIt⟩ [.tmp 2] rfl Tryd.func61 rfl rfl rfl (by kernel_rfl) (by show 1 ≤ 95; decide) (by kernel_rfl)).trans ?_
  simp +contextual (maxSteps := 10000000) only [↓reduceIte, go_sem, Nat.reduceEqDiff, Nat.reduceAdd, Nat.reduceSub, Nat.reduceMul, Nat.reduceLeDiff, Nat.reduceLT, Nat.reduceBEq, Nat.reduceDiv, Nat.reduceMod, Int.reduceLE, Int.reduceLT, Int.reduceEq, Int.reduceBEq, Int.reduceBNe, Int.reduceAdd, Int.reduceSub, Int.reduceNeg, Int.reduceToNat, Int.reduceMul, Int.reducePow, Nat.reducePow, reduceCtorEq]
  refine lpK_inv (fun m0 f es => ∃ (i : Nat) (j : Int), j = i ∧ i + m0 = v.kids.length ∧ mayL v.kids = mayL (v.kids.drop i) ∧ f = [(1, .rp v.cs), (3, I j)] ∧ es = []) v.kids.length ⟨0, _, rfl, by omega, rfl, rfl, rfl⟩ ?_
  rintro m0 _ _ ⟨i, _, rfl, hi, hm, rfl, rfl⟩ ih
  rcases Nat.lt_or_ge i v.kids.length with hlt | hge
  · obtain ⟨x, hx⟩ := get_lt hlt
    have hlt' : decide ((i : Int) < v.kids.length) = true := by simpa using hlt
    have hcx := hc x (List.mem_of_getElem? hx)
    simp +contextual (maxSteps := 10000000) only [↓reduceIte, go_sem, Nat.reduceEqDiff, Nat.reduceAdd, Nat.reduceSub, Nat.reduceMul, Nat.reduceLeDiff, Nat.reduceLT, Nat.reduceBEq, Nat.reduceDiv, Nat.reduceMod, Int.reduceLE, Int.reduceLT, Int.reduceEq, Int.reduceBEq, Int.reduceBNe, Int.reduceAdd, Int.reduceSub, Int.reduceNeg, Int.reduceToNat, Int.reduceMul, Int.reducePow, Nat.reducePow, reduceCtorEq, hx, hcx, hlt', wrap_i64 (n := (i : Int) + 1) (by omega) (by omega)]
    refine ite_intro (fun h => ?_) (fun h => ?_)
    · rw [hm, mayL_drop hx]; simp at h; simp [h]
    · exact ih (m0 - 1) _ _ (by omega) ⟨i + 1, _, by omega, by omega, by rw [hm, mayL_drop hx]; simp at h; simp [h], rfl, rfl⟩
  · have hlt' : decide ((i : Int) < v.kids.length) = false := by simpa using hge
    clear ih
    rw [List.drop_eq_nil_of_le hge] at hm
    rw [hm, mayL, Bool.true_and]
    simp +contextual (maxSteps := 10000000) only [↓reduceIte, go_sem, Nat.reduceEqDiff, Nat.reduceAdd, Nat.reduceSub, Nat.reduceMul, Nat.reduceLeDiff, Nat.reduceLT, Nat.reduceBEq, Nat.reduceDiv, Nat.reduceMod, Int.reduceLE, Int.reduceLT, Int.reduceEq, Int.reduceBEq, Int.reduceBNe, Int.reduceAdd, Int.reduceSub, Int.reduceNeg, Int.reduceToNat, Int.reduceMul, Int.reducePow, Nat.reducePow, reduceCtorEq, hlt', hk, rfS, famS]
    rfl
set_option maxHeartbeats 2000000 in
theorem rmay23 (v : Val) (hs : v.sz ≤ 40000000) (hc : ∀ x ∈ v.kids, EV 61 [x.d] [] = some (.ret (B (mayS x)), [])) (hk : v.kind = 23) : EV 61 [v.d] [] = some (.ret (B (mayL v.kids && rfS v)), []) := by
  have hl := szL_len v.kids
  have hz := Val.sz_eq v
  refine (ev_body ⟨[1], [(0, [1, 3]), (3, [1, 4, 5]), (5, [1, 4, 5, 6]), (7, [1, 4, 7])], [(19, [(0, 0, false), (1, 0, false), (2, 0, false), (3, 0, false), (4, 0, false), (5, 0, false), (6, 0, false), (7, 0, false), (8, 0, false), (9, 0, false), (10, 0, false)]), (25, [(0, 0, false), (1, 0, false), (2, 0, false), (3, 0, false), (4, 0, false), (5, 0, false), (6, 0, false), (7, 0, false), (8, 0, false), (9, 0, false), (10, 0, false)])], false, [], noIt⟩ [.tmp 2] rfl Tryd.func61 rfl rfl rfl (by kernel_rfl) (by show 1 ≤ 95; decide) (by kernel_rfl)).trans ?_
  simp +contextual (maxSteps := 10000000) only [↓reduceIte, go_sem, Nat.reduceEqDiff, Nat.reduceAdd, Nat.reduceSub, Nat.reduceMul, Nat.reduceLeDiff, Nat.reduceLT, Nat.reduceBEq, Nat.reduceDiv, Nat.reduceMod, Int.reduceLE, Int.reduceLT, Int.reduceEq, Int.reduceBEq, Int.reduceBNe, Int.reduceAdd, Int.reduceSub, Int.reduceNeg, Int.reduceToNat, Int.reduceMul, Int.reducePow, Nat.reducePow, reduceCtorEq]
  refine lpK_inv (fun m0 f es => ∃ (i : Nat) (j : Int), j = i ∧ i + m0 = v.kids.length ∧ mayL v.kids = mayL (v.kids.drop i) ∧ f = [(1, .rp v.cs), (3, I j)] ∧ es = []) v.kids.length ⟨0, _, rfl, by omega, rfl, rfl, rfl⟩ ?_
  rintro m0 _ _ ⟨i, _, rfl, hi, hm, rfl, rfl⟩ ih
  rcases Nat.lt_or_ge i v.kids.length with hlt | hge
  · obtain ⟨x, hx⟩ := get_lt hlt
    have hlt' : decide ((i : Int) < v.kids.length) = true := by simpa using hlt
    have hcx := hc x (List.mem_of_getElem? hx)
    simp +contextual (maxSteps := 10000000) only [↓reduceIte, go_sem, Nat.reduceEqDiff, Nat.reduceAdd, Nat.reduceSub, Nat.reduceMul, Nat.reduceLeDiff, Nat.reduceLT, Nat.reduceBEq, Nat.reduceDiv, Nat.reduceMod, Int.reduceLE, Int.reduceLT, Int.reduceEq, Int.reduceBEq, Int.reduceBNe, Int.reduceAdd, Int.reduceSub, Int.reduceNeg, Int.reduceToNat, Int.reduceMul, Int.reducePow, Nat.reducePow, reduceCtorEq, hx, hcx, hlt', wrap_i64 (n := (i : Int) + 1) (by omega) (by omega)]
    refine ite_intro (fun h => ?_) (fun h => ?_)
    · rw [hm, mayL_drop hx]; simp at h; simp [h]
    · exact ih (m0 - 1) _ _ (by omega) ⟨i + 1, _, by omega, by omega, by rw [hm, mayL_drop hx]; simp at h; simp [h], rfl, rfl⟩
  · have hlt' : decide ((i : Int) < v.kids.length) = false := by simpa using hge
    clear ih
    rw [List.drop_eq_nil_of_le hge] at hm
    rw [hm, mayL, Bool.true_and]
    have hk0 : rfS v = (famS 23 v.kids && ntS v) := by rw [rfS, if_pos (by simp [hk]), hk]
    rw [hk0]
    simp +contextual (maxSteps := 10000000) only [↓reduceIte, go_sem, Nat.reduceEqDiff, Nat.reduceAdd, Nat.reduceSub, Nat.reduceMul, Nat.reduceLeDiff, Nat.reduceLT, Nat.reduceBEq, Nat.reduceDiv, Nat.reduceMod, Int.reduceLE, Int.reduceLT, Int.reduceEq, Int.reduceBEq, Int.reduceBNe, Int.reduceAdd, Int.reduceSub, Int.reduceNeg, Int.reduceToNat, Int.reduceMul, Int.reducePow, Nat.reducePow, reduceCtorEq, hlt', hk, mod21]
    refine ite_intro (fun h => ?_) (fun h => ?_)
    · have : (v.kids.length % 2 == 0) = false := by simp at h ⊢ <;> omega
      simp only [famS, this]; rfl
    · have h2 : v.kids.length % 2 = 0 := by simp at h <;> omega
      have hf : famS 23 v.kids = noSame [] (keyL v.kids) := by simp only [famS, h2]; rfl
      rw [hf]
      obtain ⟨q1, q2⟩ := keyL_len v.kids
      refine lpK_inv (fun m0 f es => ∃ (a : Nat) (j : Int), j = 2 * a ∧ 2 * a + m0 = v.kids.length ∧ noSame [] (keyL v.kids) = noSame ((keyL v.kids).take a) ((keyL v.kids).drop a) ∧ f = [(1, .rp v.cs), (4, I v.kids.length), (5, I j)] ∧ es = []) v.kids.length ⟨0, _, rfl, by omega, rfl, rfl, rfl⟩ ?_
      rintro m1 _ _ ⟨a, j, hj, ha, hn, rfl, rfl⟩ ih
      rcases Nat.lt_or_ge (2 * a) v.kids.length with hlt | hge
      · obtain ⟨x, hx⟩ := get_lt hlt
        have hx2 := hx
        rw [← keyL_at _ _ (by omega)] at hx2
        have hlt2 : decide (j < v.kids.length) = true := by simp <;> omega
        simp +contextual (maxSteps := 10000000) only [↓reduceIte, go_sem, Nat.reduceEqDiff, Nat.reduceAdd, Nat.reduceSub, Nat.reduceMul, Nat.reduceLeDiff, Nat.reduceLT, Nat.reduceBEq, Nat.reduceDiv, Nat.reduceMod, Int.reduceLE, Int.reduceLT, Int.reduceEq, Int.reduceBEq, Int.reduceBNe, Int.reduceAdd, Int.reduceSub, Int.reduceNeg, Int.reduceToNat, Int.reduceMul, Int.reducePow, Nat.reducePow, reduceCtorEq, hlt2]
        refine lpK_inv (fun m2 f es => ∃ (b : Nat) (k : Int), k = 2 * b ∧ b + m2 = a ∧ (((keyL v.kids).take a).any fun s => same s x) = ((((keyL v.kids).take a).drop b).any fun s => same s x) ∧ f = [(1, .rp v.cs), (4, I v.kids.length), (5, I j), (6, I k)] ∧ es = []) a ⟨0, _, rfl, by omega, rfl, rfl, rfl⟩ ?_
        rintro m2 _ _ ⟨b, k, hk2, hb, hn2, rfl, rfl⟩ ih2
        rcases Nat.lt_or_ge b a with hba | hba
        · obtain ⟨y, hy⟩ := get_lt (show 2 * b < v.kids.length by omega)
          have hy2 := hy
          rw [← keyL_at _ _ (by omega)] at hy2
          have hlt3 : decide (k < j) = true := by simp <;> omega
          have h32 := same32 _ x y (Nat.le_refl _) (by have := szL_in (List.mem_of_getElem? hx); omega)
          have g1 : v.kids[j.toNat]? = some x := by rw [show j.toNat = 2 * a by omega]; exact hx
          have g2 : v.kids[k.toNat]? = some y := by rw [show k.toNat = 2 * b by omega]; exact hy
          simp +contextual (maxSteps := 10000000) only [↓reduceIte, go_sem, Nat.reduceEqDiff, Nat.reduceAdd, Nat.reduceSub, Nat.reduceMul, Nat.reduceLeDiff, Nat.reduceLT, Nat.reduceBEq, Nat.reduceDiv, Nat.reduceMod, Int.reduceLE, Int.reduceLT, Int.reduceEq, Int.reduceBEq, Int.reduceBNe, Int.reduceAdd, Int.reduceSub, Int.reduceNeg, Int.reduceToNat, Int.reduceMul, Int.reducePow, Nat.reducePow, reduceCtorEq, hlt3, g1, g2, h32, show 0 ≤ j by omega, show j < v.kids.length by omega, show 0 ≤ k by omega, show k < v.kids.length by omega, wrap_i64 (n := k + 2) (by omega) (by omega)]
          refine ite_intro (fun h => ?_) (fun h => ?_)
          · rw [hn, noSame_step hx2, hn2, any_step hba hy2, same_comm y x, h]; rfl
          · have e : same y x = false := by rw [same_comm]; simpa using h
            exact ih2 (m2 - 1) _ _ (by omega) ⟨b + 1, _, by omega, by omega, by rw [hn2, any_step hba hy2, e, Bool.false_or], rfl, rfl⟩
        · have hlt3 : decide (k < j) = false := by simp <;> omega
          clear ih2
          simp +contextual (maxSteps := 10000000) only [↓reduceIte, go_sem, Nat.reduceEqDiff, Nat.reduceAdd, Nat.reduceSub, Nat.reduceMul, Nat.reduceLeDiff, Nat.reduceLT, Nat.reduceBEq, Nat.reduceDiv, Nat.reduceMod, Int.reduceLE, Int.reduceLT, Int.reduceEq, Int.reduceBEq, Int.reduceBNe, Int.reduceAdd, Int.reduceSub, Int.reduceNeg, Int.reduceToNat, Int.reduceMul, Int.reducePow, Nat.reducePow, reduceCtorEq, hlt3, wrap_i64 (n := j + 2) (by omega) (by omega)]
          have e : (((keyL v.kids).take a).any fun s => same s x) = false := by
            rw [hn2, List.drop_eq_nil_of_le (by rw [List.length_take]; omega)]; rfl
          exact ih (m1 - 2) _ _ (by omega) ⟨a + 1, _, by omega, by omega, by rw [hn, noSame_step hx2, e]; rfl, rfl, rfl⟩
      · have hlt2 : decide (j < v.kids.length) = false := by simp <;> omega
        simp +contextual (maxSteps := 10000000) only [↓reduceIte, go_sem, Nat.reduceEqDiff, Nat.reduceAdd, Nat.reduceSub, Nat.reduceMul, Nat.reduceLeDiff, Nat.reduceLT, Nat.reduceBEq, Nat.reduceDiv, Nat.reduceMod, Int.reduceLE, Int.reduceLT, Int.reduceEq, Int.reduceBEq, Int.reduceBNe, Int.reduceAdd, Int.reduceSub, Int.reduceNeg, Int.reduceToNat, Int.reduceMul, Int.reducePow, Nat.reducePow, reduceCtorEq, hlt2]
        rw [hn, List.drop_eq_nil_of_le (by omega)]
        simp only [noSame, Bool.true_and]
        rfl
set_option maxHeartbeats 2000000 in
theorem rmay24 (v : Val) (hs : v.sz ≤ 40000000) (hc : ∀ x ∈ v.kids, EV 61 [x.d] [] = some (.ret (B (mayS x)), [])) (hk : v.kind = 24) : EV 61 [v.d] [] = some (.ret (B (mayL v.kids && rfS v)), []) := by
  have hl := szL_len v.kids
  have hz := Val.sz_eq v
  refine (ev_body ⟨[1], [(0, [1, 3]), (3, [1, 4, 5]), (5, [1, 4, 5, 6]), (7, [1, 4, 7])], [(19, [(0, 0, false), (1, 0, false), (2, 0, false), (3, 0, false), (4, 0, false), (5, 0, false), (6, 0, false), (7, 0, false), (8, 0, false), (9, 0, false), (10, 0, false)]), (25, [(0, 0, false), (1, 0, false), (2, 0, false), (3, 0, false), (4, 0, false), (5, 0, false), (6, 0, false), (7, 0, false), (8, 0, false), (9, 0, false), (10, 0, false)])], false, [], noIt⟩ [.tmp 2] rfl Tryd.func61 rfl rfl rfl (by kernel_rfl) (by show 1 ≤ 95; decide) (by kernel_rfl)).trans ?_
  simp +contextual (maxSteps := 10000000) only [↓reduceIte, go_sem, Nat.reduceEqDiff, Nat.reduceAdd, Nat.reduceSub, Nat.reduceMul, Nat.reduceLeDiff, Nat.reduceLT, Nat.reduceBEq, Nat.reduceDiv, Nat.reduceMod, Int.reduceLE, Int.reduceLT, Int.reduceEq, Int.reduceBEq, Int.reduceBNe, Int.reduceAdd, Int.reduceSub, Int.reduceNeg, Int.reduceToNat, Int.reduceMul, Int.reducePow, Nat.reducePow, reduceCtorEq]
  refine lpK_inv (fun m0 f es => ∃ (i : Nat) (j : Int), j = i ∧ i + m0 = v.kids.length ∧ mayL v.kids = mayL (v.kids.drop i) ∧ f = [(1, .rp v.cs), (3, I j)] ∧ es = []) v.kids.length ⟨0, _, rfl, by omega, rfl, rfl, rfl⟩ ?_
  rintro m0 _ _ ⟨i, _, rfl, hi, hm, rfl, rfl⟩ ih
  rcases Nat.lt_or_ge i v.kids.length with hlt | hge
  · obtain ⟨x, hx⟩ := get_lt hlt
    have hlt' : decide ((i : Int) < v.kids.length) = true := by simpa using hlt
    have hcx := hc x (List.mem_of_getElem? hx)
    simp +contextual (maxSteps := 10000000) only [↓reduceIte, go_sem, Nat.reduceEqDiff, Nat.reduceAdd, Nat.reduceSub, Nat.reduceMul, Nat.reduceLeDiff, Nat.reduceLT, Nat.reduceBEq, Nat.reduceDiv, Nat.reduceMod, Int.reduceLE, Int.reduceLT, Int.reduceEq, Int.reduceBEq, Int.reduceBNe, Int.reduceAdd, Int.reduceSub, Int.reduceNeg, Int.reduceToNat, Int.reduceMul, Int.reducePow, Nat.reducePow, reduceCtorEq, hx, hcx, hlt', wrap_i64 (n := (i : Int) + 1) (by omega) (by omega)]
    refine ite_intro (fun h => ?_) (fun h => ?_)
    · rw [hm, mayL_drop hx]; simp at h; simp [h]
    · exact ih (m0 - 1) _ _ (by omega) ⟨i + 1, _, by omega, by omega, by rw [hm, mayL_drop hx]; simp at h; simp [h], rfl, rfl⟩
  · have hlt' : decide ((i : Int) < v.kids.length) = false := by simpa using hge
    clear ih
    rw [List.drop_eq_nil_of_le hge] at hm
    rw [hm, mayL, Bool.true_and]
    have hk0 : rfS v = (famS 24 v.kids && ntS v) := by rw [rfS, if_pos (by simp [hk]), hk]
    rw [hk0, fam24_eq]
    have hall : v.kids.all (arS v.kids) = (v.kids.drop 1).all (arS v.kids) := by
      cases h0 : v.kids with
      | nil => rfl
      | cons y r =>
        rw [h0] at hm
        have : mayS y = true := mayL_at hm (i := 0) rfl
        rw [List.all_cons, show arS (y :: r) y = alike y y from rfl, alike_refl this]; rfl
    rw [hall]
    simp +contextual (maxSteps := 10000000) only [↓reduceIte, go_sem, Nat.reduceEqDiff, Nat.reduceAdd, Nat.reduceSub, Nat.reduceMul, Nat.reduceLeDiff, Nat.reduceLT, Nat.reduceBEq, Nat.reduceDiv, Nat.reduceMod, Int.reduceLE, Int.reduceLT, Int.reduceEq, Int.reduceBEq, Int.reduceBNe, Int.reduceAdd, Int.reduceSub, Int.reduceNeg, Int.reduceToNat, Int.reduceMul, Int.reducePow, Nat.reducePow, reduceCtorEq, hlt', hk]
    refine lpK_inv (fun m0 f es => ∃ (i : Nat) (j : Int), j = i ∧ 1 ≤ i ∧ v.kids.length - i = m0 ∧ (v.kids.drop 1).all (arS v.kids) = (v.kids.drop i).all (arS v.kids) ∧ f = [(1, .rp v.cs), (4, I v.kids.length), (7, I j)] ∧ es = []) (v.kids.length - 1) ⟨1, _, rfl, Nat.le_refl _, rfl, rfl, rfl, rfl⟩ ?_
    rintro m1 _ _ ⟨i, j, hj, h1, hi, ha, rfl, rfl⟩ ih
    rcases Nat.lt_or_ge i v.kids.length with hlt | hge
    · obtain ⟨x, hx⟩ := get_lt hlt
      obtain ⟨y, hy⟩ := get_lt (show 0 < v.kids.length by omega)
      have hlt2 : decide (j < v.kids.length) = true := by simp <;> omega
      have hal := ralike_c _ y x (Nat.le_refl _) (by have := szL_in (List.mem_of_getElem? hy); omega) (mayL_at hm hy) (mayL_at hm hx)
      have hp : arS v.kids x = alike y x := by
        cases h0 : v.kids with
        | nil => rw [h0] at hy; cases hy
        | cons z r => rw [h0] at hy; simp only [List.getElem?_cons_zero, Option.some.injEq] at hy; subst hy; rfl
      have g1 : v.kids[j.toNat]? = some x := by rw [show j.toNat = i by omega]; exact hx
      simp +contextual (maxSteps := 10000000) only [↓reduceIte, go_sem, Nat.reduceEqDiff, Nat.reduceAdd, Nat.reduceSub, Nat.reduceMul, Nat.reduceLeDiff, Nat.reduceLT, Nat.reduceBEq, Nat.reduceDiv, Nat.reduceMod, Int.reduceLE, Int.reduceLT, Int.reduceEq, Int.reduceBEq, Int.reduceBNe, Int.reduceAdd, Int.reduceSub, Int.reduceNeg, Int.reduceToNat, Int.reduceMul, Int.reducePow, Nat.reducePow, reduceCtorEq, hlt2, g1, hy, hal, show 0 ≤ j by omega, show j < v.kids.length by omega, show (0 : Int) < v.kids.length by omega, wrap_i64 (n := j + 1) (by omega) (by omega)]
      refine ite_intro (fun h => ?_) (fun h => ?_)
      · have e : alikeF y.sz y x = false := by simpa using h
        rw [ha, all_drop hx, hp, alike, e]; rfl
      · have e : alikeF y.sz y x = true := by simpa using h
        exact ih (m1 - 1) _ _ (by omega) ⟨i + 1, _, by omega, by omega, by omega, by rw [ha, all_drop hx, hp, alike, e]; rfl, rfl, rfl⟩
    · have hlt2 : decide (j < v.kids.length) = false := by simp <;> omega
      simp +contextual (maxSteps := 10000000) only [↓reduceIte, go_sem, Nat.reduceEqDiff, Nat.reduceAdd, Nat.reduceSub, Nat.reduceMul, Nat.reduceLeDiff, Nat.reduceLT, Nat.reduceBEq, Nat.reduceDiv, Nat.reduceMod, Int.reduceLE, Int.reduceLT, Int.reduceEq, Int.reduceBEq, Int.reduceBNe, Int.reduceAdd, Int.reduceSub, Int.reduceNeg, Int.reduceToNat, Int.reduceMul, Int.reducePow, Nat.reducePow, reduceCtorEq, hlt2]
      rw [ha, List.drop_eq_nil_of_le hge]
      simp only [List.all_nil, Bool.true_and]
      rfl
set_option maxHeartbeats 2000000 in
theorem rmay25 (v : Val) (hs : v.sz ≤ 40000000) (hc : ∀ x ∈ v.kids, EV 61 [x.d] [] = some (.ret (B (mayS x)), [])) (hk : v.kind = 25) : EV 61 [v.d] [] = some (.ret (B (mayL v.kids && rfS v)), []) := by
  have hl := szL_len v.kids
  have hz := Val.sz_eq v
  refine (ev_body ⟨[1], [(0, [1, 3]), (3, [1, 4, 5]), (5, [1, 4, 5, 6]), (7, [1, 4, 7])], [(19, [(0, 0, false), (1, 0, false), (2, 0, false), (3, 0, false), (4, 0, false), (5, 0, false), (6, 0, false), (7, 0, false), (8, 0, false), (9, 0, false), (10, 0, false)]), (25, [(0, 0, false), (1, 0, false), (2, 0, false), (3, 0, false), (4, 0, false), (5, 0, false), (6, 0, false), (7, 0, false), (8, 0, false), (9, 0, false), (10, 0, false)])], false, [], noIt⟩ [.tmp 2] rfl Tryd.func61 rfl rfl rfl (by kernel_rfl) (by show 1 ≤ 95; decide) (by kernel_rfl)).trans ?_
  simp +contextual (maxSteps := 10000000) only [↓reduceIte, go_sem, Nat.reduceEqDiff, Nat.reduceAdd, Nat.reduceSub, Nat.reduceMul, Nat.reduceLeDiff, Nat.reduceLT, Nat.reduceBEq, Nat.reduceDiv, Nat.reduceMod, Int.reduceLE, Int.reduceLT, Int.reduceEq, Int.reduceBEq, Int.reduceBNe, Int.reduceAdd, Int.reduceSub, Int.reduceNeg, Int.reduceToNat, Int.reduceMul, Int.reducePow, Nat.reducePow, reduceCtorEq]
  refine lpK_inv (fun m0 f es => ∃ (i : Nat) (j : Int), j = i ∧ i + m0 = v.kids.length ∧ mayL v.kids = mayL (v.kids.drop i) ∧ f = [(1, .rp v.cs), (3, I j)] ∧ es = []) v.kids.length ⟨0, _, rfl, by omega, rfl, rfl, rfl⟩ ?_
  rintro m0 _ _ ⟨i, _, rfl, hi, hm, rfl, rfl⟩ ih
  rcases Nat.lt_or_ge i v.kids.length with hlt | hge
  · obtain ⟨x, hx⟩ := get_lt hlt
    have hlt' : decide ((i : Int) < v.kids.length) = true := by simpa using hlt
    have hcx := hc x (List.mem_of_getElem? hx)
    simp +contextual (maxSteps := 10000000) only [↓reduceIte, go_sem, Nat.reduceEqDiff, Nat.reduceAdd, Nat.reduceSub, Nat.reduceMul, Nat.reduceLeDiff, Nat.reduceLT, Nat.reduceBEq, Nat.reduceDiv, Nat.reduceMod, Int.reduceLE, Int.reduceLT, Int.reduceEq, Int.reduceBEq, Int.reduceBNe, Int.reduceAdd, Int.reduceSub, Int.reduceNeg, Int.reduceToNat, Int.reduceMul, Int.reducePow, Nat.reducePow, reduceCtorEq, hx, hcx, hlt', wrap_i64 (n := (i : Int) + 1) (by omega) (by omega)]
    refine ite_intro (fun h => ?_) (fun h => ?_)
    · rw [hm, mayL_drop hx]; simp at h; simp [h]
    · exact ih (m0 - 1) _ _ (by omega) ⟨i + 1, _, by omega, by omega, by rw [hm, mayL_drop hx]; simp at h; simp [h], rfl, rfl⟩
  · have hlt' : decide ((i : Int) < v.kids.length) = false := by simpa using hge
    clear ih
    rw [List.drop_eq_nil_of_le hge] at hm
    rw [hm, mayL, Bool.true_and]
    have hk0 : rfS v = (famS 25 v.kids && ntS v) := by rw [rfS, if_pos (by simp [hk]), hk]
    rw [hk0]
    match h0 : v.kids, hge with
    | [], hge =>
      have hlt' : decide ((i : Int) < 0) = false := by simp
      simp +contextual (maxSteps := 10000000) only [↓reduceIte, go_sem, Nat.reduceEqDiff, Nat.reduceAdd, Nat.reduceSub, Nat.reduceMul, Nat.reduceLeDiff, Nat.reduceLT, Nat.reduceBEq, Nat.reduceDiv, Nat.reduceMod, Int.reduceLE, Int.reduceLT, Int.reduceEq, Int.reduceBEq, Int.reduceBNe, Int.reduceAdd, Int.reduceSub, Int.reduceNeg, Int.reduceToNat, Int.reduceMul, Int.reducePow, Nat.reducePow, reduceCtorEq, hlt', hk, h0, famS, List.map_nil, List.length_nil, Bool.false_and]
    | [x], hge =>
      have hlt' : decide ((i : Int) < 1) = false := by simp at hge ⊢ <;> omega
      simp +contextual (maxSteps := 10000000) only [↓reduceIte, go_sem, Nat.reduceEqDiff, Nat.reduceAdd, Nat.reduceSub, Nat.reduceMul, Nat.reduceLeDiff, Nat.reduceLT, Nat.reduceBEq, Nat.reduceDiv, Nat.reduceMod, Int.reduceLE, Int.reduceLT, Int.reduceEq, Int.reduceBEq, Int.reduceBNe, Int.reduceAdd, Int.reduceSub, Int.reduceNeg, Int.reduceToNat, Int.reduceMul, Int.reducePow, Nat.reducePow, reduceCtorEq, hlt', hk, h0, famS, List.map_cons, List.map_nil, List.length_nil, List.length_cons, Bool.false_and]
    | [x, y], hge =>
      have hlt' : decide ((i : Int) < 2) = false := by simp at hge ⊢ <;> omega
      have hcl := called_c x
      cases hx : (x.kind == 6 || x.kind == 21)
      · rw [hx] at hcl
        simp +contextual (maxSteps := 10000000) only [↓reduceIte, go_sem, Nat.reduceEqDiff, Nat.reduceAdd, Nat.reduceSub, Nat.reduceMul, Nat.reduceLeDiff, Nat.reduceLT, Nat.reduceBEq, Nat.reduceDiv, Nat.reduceMod, Int.reduceLE, Int.reduceLT, Int.reduceEq, Int.reduceBEq, Int.reduceBNe, Int.reduceAdd, Int.reduceSub, Int.reduceNeg, Int.reduceToNat, Int.reduceMul, Int.reducePow, Nat.reducePow, reduceCtorEq, hlt', hk, h0, famS, List.map_cons, List.map_nil, List.length_nil, List.length_cons, hcl, hx, Bool.false_and]
      · rw [hx] at hcl
        simp +contextual (maxSteps := 10000000) only [↓reduceIte, go_sem, Nat.reduceEqDiff, Nat.reduceAdd, Nat.reduceSub, Nat.reduceMul, Nat.reduceLeDiff, Nat.reduceLT, Nat.reduceBEq, Nat.reduceDiv, Nat.reduceMod, Int.reduceLE, Int.reduceLT, Int.reduceEq, Int.reduceBEq, Int.reduceBNe, Int.reduceAdd, Int.reduceSub, Int.reduceNeg, Int.reduceToNat, Int.reduceMul, Int.reducePow, Nat.reducePow, reduceCtorEq, hlt', hk, h0, famS, List.map_cons, List.map_nil, List.length_nil, List.length_cons, hcl, hx, Bool.true_and]
        rfl
    | x :: y :: z :: r, hge =>
      have hlt' : decide ((i : Int) < (r.length : Int) + 1 + 1 + 1) = false := by simp at hge ⊢ <;> omega
      have e : ((r.length : Int) + 1 + 1 + 1 == 2) = false := by simp <;> omega
      have e' : ((r.length : Int) + 1 + 1 + 1 != 2) = true := by rw [bne, e]; rfl
      simp +contextual (maxSteps := 10000000) only [↓reduceIte, go_sem, Nat.reduceEqDiff, Nat.reduceAdd, Nat.reduceSub, Nat.reduceMul, Nat.reduceLeDiff, Nat.reduceLT, Nat.reduceBEq, Nat.reduceDiv, Nat.reduceMod, Int.reduceLE, Int.reduceLT, Int.reduceEq, Int.reduceBEq, Int.reduceBNe, Int.reduceAdd, Int.reduceSub, Int.reduceNeg, Int.reduceToNat, Int.reduceMul, Int.reducePow, Nat.reducePow, reduceCtorEq, hlt', hk, h0, famS, List.map_cons, List.length_cons, e, e', Bool.false_and]
set_option maxHeartbeats 2000000 in
theorem rmay_no (v : Val) (hs : v.sz ≤ 40000000) (hc : ∀ x ∈ v.kids, EV 61 [x.d] [] = some (.ret (B (mayS x)), [])) (h2 : v.kind ≠ 22) (h3 : v.kind ≠ 23) (h4 : v.kind ≠ 24) (h5 : v.kind ≠ 25) : EV 61 [v.d] [] = some (.ret (B (mayL v.kids && rfS v)), []) := by
  have hl := szL_len v.kids
  have hz := Val.sz_eq v
  refine (ev_body ⟨[1], [(0, [1, 3]), (3, [1, 4, 5]), (5, [1, 4, 5, 6]), (7, [1, 4, 7])], [(19, [(0, 0, false), (1, 0, false), (2, 0, false), (3, 0, false), (4, 0, false), (5, 0, false), (6, 0, false), (7, 0, false), (8, 0, false), (9, 0, false), (10, 0, false)]), (25, [(0, 0, false), (1, 0, false), (2, 0, false), (3, 0, false), (4, 0, false), (5, 0, false), (6, 0, false), (7, 0, false), (8, 0, false), (9, 0, false), (10, 0, false)])], false, [], noIt⟩ [.tmp 2] rfl Tryd.func61 rfl rfl rfl (by kernel_rfl) (by show 1 ≤ 95; decide) (by kernel_rfl)).trans ?_
  simp +contextual (maxSteps := 10000000) only [↓reduceIte, go_sem, Nat.reduceEqDiff, Nat.reduceAdd, Nat.reduceSub, Nat.reduceMul, Nat.reduceLeDiff, Nat.reduceLT, Nat.reduceBEq, Nat.reduceDiv, Nat.reduceMod, Int.reduceLE, Int.reduceLT, Int.reduceEq, Int.reduceBEq, Int.reduceBNe, Int.reduceAdd, Int.reduceSub, Int.reduceNeg, Int.reduceToNat, Int.reduceMul, Int.reducePow, Nat.reducePow, reduceCtorEq]
  refine lpK_inv (fun m0 f es => ∃ (i : Nat) (j : Int), j = i ∧ i + m0 = v.kids.length ∧ mayL v.kids = mayL (v.kids.drop i) ∧ f = [(1, .rp v.cs), (3, I j)] ∧ es = []) v.kids.length ⟨0, _, rfl, by omega, rfl, rfl, rfl⟩ ?_
  rintro m0 _ _ ⟨i, _, rfl, hi, hm, rfl, rfl⟩ ih
  rcases Nat.lt_or_ge i v.kids.length with hlt | hge
  · obtain ⟨x, hx⟩ := get_lt hlt
    have hlt' : decide ((i : Int) < v.kids.length) = true := by simpa using hlt
    have hcx := hc x (List.mem_of_getElem? hx)
    simp +contextual (maxSteps := 10000000) only [↓reduceIte, go_sem, Nat.reduceEqDiff, Nat.reduceAdd, Nat.reduceSub, Nat.reduceMul, Nat.reduceLeDiff, Nat.reduceLT, Nat.reduceBEq, Nat.reduceDiv, Nat.reduceMod, Int.reduceLE, Int.reduceLT, Int.reduceEq, Int.reduceBEq, Int.reduceBNe, Int.reduceAdd, Int.reduceSub, Int.reduceNeg, Int.reduceToNat, Int.reduceMul, Int.reducePow, Nat.reducePow, reduceCtorEq, hx, hcx, hlt', wrap_i64 (n := (i : Int) + 1) (by omega) (by omega)]
    refine ite_intro (fun h => ?_) (fun h => ?_)
    · rw [hm, mayL_drop hx]; simp at h; simp [h]
    · exact ih (m0 - 1) _ _ (by omega) ⟨i + 1, _, by omega, by omega, by rw [hm, mayL_drop hx]; simp at h; simp [h], rfl, rfl⟩
  · have hlt' : decide ((i : Int) < v.kids.length) = false := by simpa using hge
    clear ih
    rw [List.drop_eq_nil_of_le hge] at hm
    rw [hm, mayL, Bool.true_and]
    have hk0 : rfS v = (v.kids.isEmpty && plainS v.kind v.num v.text) := by rw [rfS, if_neg (by simp [h2, h3, h4, h5])]
    rw [hk0]
    simp +contextual (maxSteps := 10000000) only [↓reduceIte, go_sem, Nat.reduceEqDiff, Nat.reduceAdd, Nat.reduceSub, Nat.reduceMul, Nat.reduceLeDiff, Nat.reduceLT, Nat.reduceBEq, Nat.reduceDiv, Nat.reduceMod, Int.reduceLE, Int.reduceLT, Int.reduceEq, Int.reduceBEq, Int.reduceBNe, Int.reduceAdd, Int.reduceSub, Int.reduceNeg, Int.reduceToNat, Int.reduceMul, Int.reducePow, Nat.reducePow, reduceCtorEq, hlt', fb h2, fb h3, fb h4, fb h5, plain_c v (by omega)]
theorem rf_eq (v : Val) : (mayL v.kids && rfS v) = mayS v := by
  rw [mayS_eq, rfS]
  by_cases h : v.kind = 22 ∨ v.kind = 23 ∨ v.kind = 24 ∨ v.kind = 25
  · rw [if_pos h]
    have hn : (numS v.kind v.num && textS v.kind v.text) = ntS v := by rcases h with h | h | h | h <;> (rw [h]; rfl)
    have hr : (decide (1 ≤ v.kind) && decide (v.kind ≤ 25)) = true := by rcases h with h | h | h | h <;> (rw [h]; rfl)
    rw [hn, hr, Bool.true_and, Bool.and_comm (ntS v)]
  · rw [if_neg h]
    simp only [not_or] at h
    obtain ⟨h2, h3, h4, h5⟩ := h
    have hf : famS v.kind v.kids = v.kids.isEmpty := by simp only [famS, fb h2, fb h3, fb h4, fb h5, Bool.false_eq_true, if_false]
    have hr : decide (v.kind ≤ 21) = decide (v.kind ≤ 25) := decide_eq_decide.2 (by omega)
    rw [hf, plainS, hr]
    cases mayL v.kids <;> cases v.kids.isEmpty <;> cases (decide (1 ≤ v.kind) && decide (v.kind ≤ 25)) <;> cases numS v.kind v.num <;> cases textS v.kind v.text <;> rfl
theorem rmay_c : ∀ (n : Nat) (v : Val), v.sz ≤ n → n ≤ 40000000 → EV 61 [v.d] [] = some (.ret (B (mayS v)), [])
  | 0, .mk .., h, _ => by simp [Val.sz] at h
  | n + 1, v, hs, hn => by
    have hz := Val.sz_eq v
    have hc : ∀ x ∈ v.kids, EV 61 [x.d] [] = some (.ret (B (mayS x)), []) := fun x hx => rmay_c n x (by have := szL_in hx; omega) (by omega)
    rw [← rf_eq]
    by_cases h2 : v.kind = 22
    · exact rmay22 v (by omega) hc h2
    by_cases h3 : v.kind = 23
    · exact rmay23 v (by omega) hc h3
    by_cases h4 : v.kind = 24
    · exact rmay24 v (by omega) hc h4
    by_cases h5 : v.kind = 25
    · exact rmay25 v (by omega) hc h5
    exact rmay_no v (by omega) hc h2 h3 h4 h5
set_option maxHeartbeats 2000000 in
theorem rright_v (v : Val) (h : v.sz ≤ 40000000) : EV 43 [v.d] [] = some (.ret (B (rightS v)), []) := by
  refine (ev_body ⟨[1], [], [], false, [], noIt⟩ [.tmp 2] rfl Tryd.func43 rfl rfl rfl (by kernel_rfl) (by show 1 ≤ 15; decide) (by kernel_rfl)).trans ?_
  have h1 := rdepth_c _ v (Nat.le_refl _) (by omega)
  have h2 := ritems_c _ v (Nat.le_refl _) (by omega)
  have h3 := rmay_c _ v (Nat.le_refl _) h
  by_cases k2 : v.items ≤ 1024
  · have e2 : decide ((v.items : Int) ≤ 1024) = true := by simp <;> omega
    have f2 : decide (v.items ≤ 1024) = true := by simpa using k2
    by_cases k1 : v.depth ≤ 16
    · have e1 : decide ((v.depth : Int) ≤ 16) = true := by simp <;> omega
      have f1 : decide (v.depth ≤ 16) = true := by simpa using k1
      simp +contextual (maxSteps := 10000000) only [↓reduceIte, go_sem, Nat.reduceEqDiff, Nat.reduceAdd, Nat.reduceSub, Nat.reduceMul, Nat.reduceLeDiff, Nat.reduceLT, Nat.reduceBEq, Nat.reduceDiv, Nat.reduceMod, Int.reduceLE, Int.reduceLT, Int.reduceEq, Int.reduceBEq, Int.reduceBNe, Int.reduceAdd, Int.reduceSub, Int.reduceNeg, Int.reduceToNat, Int.reduceMul, Int.reducePow, Nat.reducePow, reduceCtorEq, h1, h2, h3, e1, e2, rightS, f1, f2, Bool.true_and]
    · have e1 : decide ((v.depth : Int) ≤ 16) = false := by simp <;> omega
      have f1 : decide (v.depth ≤ 16) = false := by simp <;> omega
      simp +contextual (maxSteps := 10000000) only [↓reduceIte, go_sem, Nat.reduceEqDiff, Nat.reduceAdd, Nat.reduceSub, Nat.reduceMul, Nat.reduceLeDiff, Nat.reduceLT, Nat.reduceBEq, Nat.reduceDiv, Nat.reduceMod, Int.reduceLE, Int.reduceLT, Int.reduceEq, Int.reduceBEq, Int.reduceBNe, Int.reduceAdd, Int.reduceSub, Int.reduceNeg, Int.reduceToNat, Int.reduceMul, Int.reducePow, Nat.reducePow, reduceCtorEq, h1, h2, e1, e2, rightS, f1, f2, Bool.true_and, Bool.false_and]
  · have e2 : decide ((v.items : Int) ≤ 1024) = false := by simp <;> omega
    have f2 : decide (v.items ≤ 1024) = false := by simp <;> omega
    simp +contextual (maxSteps := 10000000) only [↓reduceIte, go_sem, Nat.reduceEqDiff, Nat.reduceAdd, Nat.reduceSub, Nat.reduceMul, Nat.reduceLeDiff, Nat.reduceLT, Nat.reduceBEq, Nat.reduceDiv, Nat.reduceMod, Int.reduceLE, Int.reduceLT, Int.reduceEq, Int.reduceBEq, Int.reduceBNe, Int.reduceAdd, Int.reduceSub, Int.reduceNeg, Int.reduceToNat, Int.reduceMul, Int.reducePow, Nat.reducePow, reduceCtorEq, h2, e2, rightS, f2, Bool.false_and, Bool.and_false]
end Go.Bw.R1

namespace Go.Bw
set_option maxRecDepth 5000
open Go
theorem Rd.slice_cases {P : Program} {t e : TypeId} {ds : List D} (hu : P.underlying t = some (.slice e)) (h : Rd P t ds) : ds = [.nils] ∨ ∃ dss : List (List D), ds = [.ro false (dss.map fun ds => (whole ((aggB P e).getD false) ds).getD .undef)] ∧ ∀ ds ∈ dss, Rd P e ds := by
  cases h with
  | nils h => exact .inl rfl
  | ro h dss hl k =>
    rw [hu] at h
    simp only [Option.some.injEq, TypeDesc.slice.injEq] at h
    subst h
    exact .inr ⟨dss, rfl, k⟩
  | veil h n => unfold Bw.veil at h; rw [hu] at h; cases h
  | _ h => rw [hu] at h; simp at h
theorem Arg.cells {P : Program} {t : TypeId} {d : D} {ag : Bool} (ha : aggB P t = some ag) (h : Arg P t d) : ∃ cs, Rd P t cs ∧ d = (whole ag cs).getD .undef := by
  obtain ⟨cs, h1, _, h3⟩ := h
  rw [ha] at h3
  exact ⟨cs, h1, h3⟩
end Go.Bw
namespace Go.Bw.R1
open Go Go.Bw Go.Proofs
theorem ag27' : aggB Tryd.prog 27 = some true := by kernel_rfl
theorem wh56 : (fun ds => (whole ((aggB Tryd.prog 27).getD false) ds).getD .undef) = D.agg := by rw [ag27']; rfl
theorem vals_of {n : Nat} (ih : ∀ ds, Rd Tryd.prog 27 ds → D.blkL ds ≤ n → ∃ v : Val, v.wf ∧ WkL ds v.cs ∧ v.sz ≤ D.blkL ds) : ∀ dss : List (List D), (∀ ds ∈ dss, Rd Tryd.prog 27 ds) → D.blkL (dss.map D.agg) ≤ n →
    ∃ l : List Val, Val.wfL l ∧ dss.length = l.length ∧ Val.szL l ≤ D.blkL (dss.map D.agg) ∧ ∀ (j : Nat) (ds : List D) (x : Val), dss[j]? = some ds → l[j]? = some x → WkL ds x.cs
  | [], _, _ => ⟨[], trivial, rfl, Nat.le_refl _, fun j ds x h => by simp at h⟩
  | ds :: dss, hr, hn => by
    rw [List.map_cons, D.blkL, D.blk] at hn ⊢
    obtain ⟨v, h1, h2, h3⟩ := ih ds (hr ds (List.mem_cons_self ..)) (by omega)
    obtain ⟨l, k1, k2, k3, k4⟩ := vals_of ih dss (fun d hd => hr d (List.mem_cons_of_mem _ hd)) (by omega)
    refine ⟨v :: l, ⟨h1, k1⟩, by simp [k2], by simp only [Val.szL]; omega, fun j d x hd hx => ?_⟩
    cases j with
    | zero => simp at hd hx; subst hd hx; exact h2
    | succ j => exact k4 j d x (by simpa using hd) (by simpa using hx)
theorem slice_rd {n : Nat} (ih : ∀ ds, Rd Tryd.prog 27 ds → D.blkL ds ≤ n → ∃ v : Val, v.wf ∧ WkL ds v.cs ∧ v.sz ≤ D.blkL ds) {ds : List D} (h : Rd Tryd.prog 25 ds) (hn : D.blkL ds ≤ n + 1) : ∃ l : List Val, Val.wfL l ∧ WkL ds [.ro false (l.map Val.d)] ∧ Val.szL l + 1 ≤ D.blkL ds := by
  rcases Rd.slice_cases Tryd.underlying25 h with rfl | ⟨dss, rfl, k⟩
  · exact ⟨[], trivial, .cons (.nils _) .nil, by simp [Val.szL, D.blkL, D.blk]⟩
  · rw [wh56] at hn ⊢
    simp only [D.blkL, D.blk] at hn ⊢
    have hn' : D.blkL (dss.map D.agg) ≤ n := by clear ih k; omega
    obtain ⟨l, k1, k2, k3, k4⟩ := vals_of ih dss k hn'
    refine ⟨l, k1, .cons (Wk.ro (by simp [k2]) fun j e1 e2 he1 he2 => ?_) .nil, by clear ih k k4 hn; omega⟩
    simp only [List.getElem?_map, Option.map_eq_some_iff] at he1 he2
    obtain ⟨d1, hd1, rfl⟩ := he1
    obtain ⟨x1, hx1, rfl⟩ := he2
    have q := k4 j d1 x1 hd1 hx1
    rw [Val.cells]
    exact q
theorem val_rd : ∀ (n : Nat) (ds : List D), Rd Tryd.prog 27 ds → D.blkL ds ≤ n → ∃ v : Val, v.wf ∧ WkL ds v.cs ∧ v.sz ≤ D.blkL ds := by
  intro n
  induction n with
  | zero =>
    intro ds h hn
    have h := Rd.fields Tryd.underlying27 h
    obtain ⟨a0, b0, rfl, h0, h⟩ := h
    obtain ⟨x0, rfl, _, _⟩ := Rd.int_inv Tryd.underlying5 h0
    rw [D.blkL_append] at hn
    simp [D.blkL, D.blk] at hn
  | succ n ih =>
    intro ds h hn
    have h := Rd.fields Tryd.underlying27 h
    obtain ⟨a0, b0, rfl, h0, h⟩ := h
    obtain ⟨a1, b1, rfl, h1, h⟩ := h
    obtain ⟨a2, b2, rfl, h2, h⟩ := h
    obtain ⟨a3, b3, rfl, h3, h⟩ := h
    obtain rfl : b3 = [] := h
    obtain ⟨x0, rfl, l0, u0⟩ := Rd.int_inv Tryd.underlying5 h0
    obtain ⟨x1, rfl, l1, u1⟩ := Rd.int_inv Tryd.underlying24 h1
    obtain ⟨x2, rfl, s2⟩ := Rd.str_inv Tryd.underlying9 h2
    simp only [D.blkL_append, D.blkL, D.blk] at hn ⊢
    obtain ⟨l, k1, k2, k3⟩ := slice_rd ih h3 (by omega)
    refine ⟨.mk x0 x1 x2 l, ⟨?_, k1⟩, ?_, ?_⟩
    · simp [IntKind.min, IntKind.max, IntKind.signed, IntKind.bits] at l0 u0 l1 u1
      omega
    · simp only [List.cons_append, List.nil_append, List.append_nil, Val.cs, Val.kind_mk, Val.num_mk, Val.text_mk, Val.kids_mk]
      exact .cons (.refl _) (.cons (.refl _) (.cons (.refl _) k2))
    · simp only [Val.sz]; omega
theorem val_arg {d : D} (h : Arg Tryd.prog 27 d) : ∃ v : Val, v.wf ∧ Wk d v.d ∧ v.sz ≤ d.blk := by
  obtain ⟨ds, h1, h3⟩ := h.cells ag27'
  have e : d = .agg ds := h3
  subst e
  obtain ⟨v, k1, k2, k3⟩ := val_rd _ ds h1 (Nat.le_refl _)
  refine ⟨v, k1, ?_, ?_⟩
  · have := Wk.agg k2
    rw [Val.fold, Val.eta] at this
    exact this
  · rw [D.blk]; omega
theorem ag25' : aggB Tryd.prog 25 = some false := by kernel_rfl
theorem vals_arg {d : D} (h : Arg Tryd.prog 25 d) : ∃ l : List Val, Val.wfL l ∧ Wk d (.ro false (l.map Val.d)) ∧ Val.szL l ≤ d.blk := by
  obtain ⟨ds, h1, h3⟩ := h.cells ag25'
  obtain ⟨l, k1, k2, k3⟩ := slice_rd (fun ds h _ => val_rd _ ds h (Nat.le_refl _)) h1 (Nat.le_succ (D.blkL ds))
  match ds, k2.1, h3 with
  | [y], _, h3 =>
    have e : d = y := h3
    subst e
    refine ⟨l, k1, k2.2 0 d _ rfl rfl, ?_⟩
    simp only [D.blkL] at k3; omega
end Go.Bw.R1

namespace Go.Bw.R1
set_option maxRecDepth 5000
open Go Go.Bw Go.Proofs
/-- how large values are, by Large -/
def lgS : List Val → Nat
  | [] => 0
  | v :: l => v.items + v.text.size / 8 + lgS l
theorem lgS_app : ∀ a b : List Val, lgS (a ++ b) = lgS a + lgS b
  | [], b => by simp [lgS]
  | v :: a, b => by simp only [List.cons_append, lgS, lgS_app a b]; omega
theorem lgS_sz : ∀ l : List Val, lgS l ≤ 2 * Val.szL l
  | [] => Nat.le_refl _
  | v :: l => by have := items_sz v; have := lgS_sz l; have := Val.sz_eq v; simp only [lgS, Val.szL]; omega
theorem lgS_take (l : List Val) (i : Nat) : lgS (l.take i) ≤ 2 * Val.szL l := by
  have := lgS_sz l
  have e : lgS l = lgS (l.take i) + lgS (l.drop i) := by rw [← lgS_app, List.take_append_drop]
  omega
theorem lgS_step {l : List Val} {i : Nat} {x : Val} (h : l[i]? = some x) : lgS (l.take (i + 1)) = lgS (l.take i) + (x.items + x.text.size / 8) := by
  rw [take_snoc h, lgS_app]; simp [lgS]
theorem tdiv8 (n : Nat) : ((n : Int)).tdiv 8 = ((n / 8 : Nat) : Int) := by
  rw [Int.tdiv_eq_ediv_of_nonneg (by omega)]; omega
set_option maxHeartbeats 1000000 in
theorem large_c (l : List Val) (hs : Val.szL l ≤ 40000000) : EV 17 [.ro false (l.map Val.d)] [] = some (.ret (B (decide (8192 < lgS l))), []) := by
  have hl := szL_len l
  refine (ev_body ⟨[], [(0, [0, 3, 4])], [(5, [(0, 0, false), (1, 0, false), (2, 0, false), (3, 0, false), (4, 0, false), (5, 0, false), (6, 0, false), (7, 0, false), (8, 0, false), (9, 0, false), (10, 0, false), (11, 0, false), (12, 0, false), (13, 0, false), (14, 0, false), (15, 0, false)])], false, [], noIt⟩ [.tmp 2] rfl Tryd.func17 rfl rfl rfl (by kernel_rfl) (by show 1 ≤ 28; decide) (by kernel_rfl)).trans ?_
  simp +contextual (maxSteps := 10000000) only [↓reduceIte, go_sem, Nat.reduceEqDiff, Nat.reduceAdd, Nat.reduceSub, Nat.reduceMul, Nat.reduceLeDiff, Nat.reduceLT, Nat.reduceBEq, Nat.reduceDiv, Nat.reduceMod, Int.reduceLE, Int.reduceLT, Int.reduceEq, Int.reduceBEq, Int.reduceBNe, Int.reduceAdd, Int.reduceSub, Int.reduceNeg, Int.reduceToNat, Int.reduceMul, Int.reducePow, Nat.reducePow, reduceCtorEq]
  refine lpK_inv (fun m0 f es => ∃ (i : Nat) (j n : Int), j = i ∧ n = lgS (l.take i) ∧ i + m0 = l.length ∧ f = [(0, .ro false (l.map Val.d)), (3, I n), (4, I j)] ∧ es = []) l.length ⟨0, 0, 0, rfl, by simp [lgS], by omega, rfl, rfl⟩ ?_
  rintro m0 _ _ ⟨i, j, n, hj, hn, hi, rfl, rfl⟩ ih
  rcases Nat.lt_or_ge i l.length with hlt | hge
  · obtain ⟨x, hx⟩ := get_lt hlt
    have hlt' : decide (j < l.length) = true := by simp <;> omega
    have hxm := szL_in (List.mem_of_getElem? hx)
    have h1 := ritems_c _ x (Nat.le_refl _) (by omega)
    have g1 : l[j.toNat]? = some x := by rw [show j.toNat = i by omega]; exact hx
    have hstep := lgS_step hx
    have hb := lgS_take l (i + 1)
    have hz := Val.sz_eq x
    simp +contextual (maxSteps := 10000000) only [↓reduceIte, go_sem, Nat.reduceEqDiff, Nat.reduceAdd, Nat.reduceSub, Nat.reduceMul, Nat.reduceLeDiff, Nat.reduceLT, Nat.reduceBEq, Nat.reduceDiv, Nat.reduceMod, Int.reduceLE, Int.reduceLT, Int.reduceEq, Int.reduceBEq, Int.reduceBNe, Int.reduceAdd, Int.reduceSub, Int.reduceNeg, Int.reduceToNat, Int.reduceMul, Int.reducePow, Nat.reducePow, reduceCtorEq, hlt', g1, h1, tdiv8, wrap_i64 (n := ((x.text.size / 8 : Nat) : Int)) (by omega) (by omega), show 0 ≤ j by omega, show j < l.length by omega, wrap_i64 (n := j + 1) (by omega) (by omega), wrap_i64 (n := n + x.items) (by omega) (by omega), wrap_i64 (n := n + x.items + (x.text.size / 8 : Nat)) (by omega) (by omega)]
    exact ih (m0 - 1) _ _ (by omega) ⟨i + 1, _, _, by omega, by omega, by omega, rfl, rfl⟩
  · have hlt' : decide (j < l.length) = false := by simp <;> omega
    simp +contextual (maxSteps := 10000000) only [↓reduceIte, go_sem, Nat.reduceEqDiff, Nat.reduceAdd, Nat.reduceSub, Nat.reduceMul, Nat.reduceLeDiff, Nat.reduceLT, Nat.reduceBEq, Nat.reduceDiv, Nat.reduceMod, Int.reduceLE, Int.reduceLT, Int.reduceEq, Int.reduceBEq, Int.reduceBNe, Int.reduceAdd, Int.reduceSub, Int.reduceNeg, Int.reduceToNat, Int.reduceMul, Int.reducePow, Nat.reducePow, reduceCtorEq, hlt']
    have e : decide (8192 < n) = decide (8192 < lgS l) := by
      rw [List.take_of_length_le hge] at hn
      exact decide_eq_decide.2 (by omega)
    rw [e]
theorem large1 (v : Val) (hs : v.sz ≤ 40000000) : EV 17 [.ro false [v.d]] [] = some (.ret (B (decide (8192 < lgS [v]))), []) := large_c [v] (by simp only [Val.szL]; omega)
end Go.Bw.R1

/- Own: arguments. -/
namespace Go.Bw.R1
set_option maxRecDepth 5000
open Go Go.Bw Go.Proofs
theorem blk_one {d : D} {n : Nat} (h : D.blkL [d] ≤ n) : d.blk ≤ n := by simp only [D.blkL] at h; omega
theorem u64_arg {d : D} (h : Arg Tryd.prog 24 d) : ∃ n : Int, (0 ≤ n ∧ n < 18446744073709551616) ∧ Wk d (.sc (.int .u64 n)) := by
  obtain ⟨n, h, hw⟩ := Arg.one (by kernel_rfl) (fun n : Int => IntKind.u64.min ≤ n ∧ n ≤ IntKind.u64.max) (fun n => .sc (.int .u64 n)) (fun ds hd => by
    obtain ⟨n, rfl, h1, h2⟩ := Rd.int_inv Tryd.underlying24 hd
    exact ⟨n, ⟨h1, h2⟩, .refl _⟩) h
  simp [IntKind.min, IntKind.max, IntKind.signed, IntKind.bits] at h
  exact ⟨n, by omega, hw⟩
theorem str_arg {d : D} (h : Arg Tryd.prog 9 d) : ∃ s : ByteArray, Wk d (.sc (.string s)) ∧ s.size + 1 ≤ d.blk := by
  obtain ⟨s, _, hw, hb⟩ := Arg.oneW (fun s : ByteArray => s.size + 1) (by kernel_rfl) (fun _ => True) (fun s => .sc (.string s)) (fun ds hd => by
    obtain ⟨s, rfl, _⟩ := Rd.str_inv Tryd.underlying9 hd
    exact ⟨s, trivial, .refl _, by simp [D.blkL, D.blk]⟩) h
  exact ⟨s, hw, hb⟩
theorem u8_arg {d : D} (h : Arg Tryd.prog 5 d) : ∃ n : Int, (0 ≤ n ∧ n < 256) ∧ Wk d (.sc (.int .u8 n)) := by
  obtain ⟨n, h, hw⟩ := Arg.one (by kernel_rfl) (fun n : Int => IntKind.u8.min ≤ n ∧ n ≤ IntKind.u8.max) (fun n => .sc (.int .u8 n)) (fun ds hd => by
    obtain ⟨n, rfl, h1, h2⟩ := Rd.int_inv Tryd.underlying5 hd
    exact ⟨n, ⟨h1, h2⟩, .refl _⟩) h
  simp [IntKind.min, IntKind.max, IntKind.signed, IntKind.bits] at h
  exact ⟨n, by omega, hw⟩
theorem int_arg {d : D} (h : Arg Tryd.prog 3 d) : ∃ n : Int, (-9223372036854775808 ≤ n ∧ n ≤ 9223372036854775807) ∧ Wk d (.sc (.int .i64 n)) := by
  obtain ⟨n, h, hw⟩ := Arg.one (by kernel_rfl) (fun n : Int => IntKind.i64.min ≤ n ∧ n ≤ IntKind.i64.max) (fun n => .sc (.int .i64 n)) (fun ds hd => by
    obtain ⟨n, rfl, h1, h2⟩ := Rd.int_inv Tryd.underlying3 hd
    exact ⟨n, ⟨h1, h2⟩, .refl _⟩) h
  simp [IntKind.min, IntKind.max, IntKind.signed, IntKind.bits] at h
  exact ⟨n, by omega, hw⟩
end Go.Bw.R1

/- Plain: what bytes tell: the decoder. -/
namespace Go.Bw.R1
set_option maxRecDepth 5000
open Go Go.Bw
def toL (s : ByteArray) : List UInt8 := s.data.toList
def mkT (l : List UInt8) : ByteArray := ⟨l.toArray⟩
theorem toL_app (a b : ByteArray) : toL (a ++ b) = toL a ++ toL b := by unfold toL; rw [ByteArray.data_append, Array.toList_append]
theorem toL_len (s : ByteArray) : (toL s).length = s.size := rfl
theorem toL_e0 : toL e0 = [] := rfl
theorem toL_e : toL ⟨#[]⟩ = [] := rfl
theorem mkT_toL (s : ByteArray) : mkT (toL s) = s := by unfold mkT toL; rw [Array.toArray_toList]
theorem toL_b1 (n : Int) : toL (b1 n) = [UInt8.ofNat n.toNat] := rfl
theorem toL_inj {a b : ByteArray} (h : toL a = toL b) : a = b := by rw [← mkT_toL a, h, mkT_toL]
def u8I (x : UInt8) : Int := x.toNat
theorem u8I_of {c : Int} (h0 : 0 ≤ c) (h1 : c ≤ 255) : u8I (UInt8.ofNat c.toNat) = c := by
  unfold u8I; rw [UInt8.toNat_ofNat']; omega
def takeL (n : Nat) (l : List UInt8) : Except Int (List UInt8 × List UInt8) := if l.length < n then .error 7 else .ok (l.take n, l.drop n)
def beN (l : List UInt8) : Nat := l.foldl (fun a x => a * 256 + x.toNat) 0
def wideC (c : Int) : Nat := if c / 16 % 2 = 1 then 4 else 1
def fixC (c : Int) : Nat := if c / 16 = 4 then 0 else if c / 16 = 5 then 1 else if c / 16 = 6 then 2 else if c / 16 = 7 then 4 else if c / 16 = 8 then 8 else 16
def dataL (c : Int) (l : List UInt8) : Except Int (List UInt8 × List UInt8) :=
  if c < 160 then takeL (fixC c) l else
  match takeL (wideC c) l with
  | .error e => .error e
  | .ok (h, l1) => match takeL (beN h) l1 with
    | .error e => .error e
    | .ok (d, l2) => .ok (h ++ d, l2)
/-- a number of some bytes, with its sign, as one of 64 bits -/
def sgnX (x : Int) (w : Nat) : Int := if w < 1 ∨ 8 ≤ w then x else if x < 2 ^ (8 * w - 1) then x else x + (2 ^ 64 - 2 ^ (8 * w))
def leafV (c : Int) (d : List UInt8) : Val :=
  if c = 65 then .mk 2 1 e0 [] else if c = 66 ∨ c = 67 ∨ c = 68 ∨ c = 69 ∨ c = 64 then .mk (kindC c) 0 e0 []
  else if c / 16 = 9 ∨ kindC c = 16 ∨ kindC c = 17 then .mk (kindC c) 0 (mkT d) []
  else if 160 ≤ c then .mk (kindC c) 0 (mkT (d.drop (wideC c))) []
  else if kindC c = 7 ∨ kindC c = 8 ∨ kindC c = 9 ∨ kindC c = 10 ∨ kindC c = 14 then .mk (kindC c) (sgnX (beN d) d.length) e0 []
  else .mk (kindC c) (beN d) e0 []
/-- what is told ahead of a value -/
def nameS (go : List UInt8 → Except Int ((List Val × Int) × List UInt8)) (k : Int) (r2 : List UInt8) : Except Int ((List Val × Int) × List UInt8) :=
  if kindC k ≠ 6 ∧ kindC k ≠ 21 then .error 6 else match dataL k r2 with
    | .error e => .error e
    | .ok (d, r3) => match go r3 with
      | .error e => .error e
      | .ok ((ns, C), r4) => .ok ((leafV k d :: ns, C), r4)
def consS (go : List UInt8 → Except Int ((List Val × Int) × List UInt8)) : List UInt8 → Except Int ((List Val × Int) × List UInt8)
  | [] => .error 7
  | c :: r =>
    if u8I c = 0 then
      match r with
      | [] => .error 7
      | k :: r2 => nameS go (u8I k) r2
    else if kindC (u8I c) = 0 then .error 6 else .ok (([], u8I c), r)
def consL : Nat → List UInt8 → Except Int ((List Val × Int) × List UInt8)
  | 0, _ => .error 7
  | n + 1, l => consS (consL n) l
theorem consL_succ (n : Nat) (l : List UInt8) : consL (n + 1) l = consS (consL n) l := rfl
def callV (ns : List Val) (v : Val) : Val := ns.foldr (fun n x => .mk 25 0 e0 [n, x]) v
def manyF (step : List UInt8 → Except Int (Val × List UInt8)) : Nat → List UInt8 → Except Int (List Val × List UInt8)
  | 0, l => .ok ([], l)
  | n + 1, l => match step l with
    | .error e => .error e
    | .ok (v, l1) => match manyF step n l1 with
      | .error e => .error e
      | .ok (vs, l2) => .ok (v :: vs, l2)
def itemF (rd : Int → List UInt8 → Except Int Val) (ns : List Val) (c : Int) (l : List UInt8) : Except Int (Val × List UInt8) :=
  match dataL c l with
  | .error e => .error e
  | .ok (d, r) => match rd c d with
    | .error e => .error e
    | .ok v => .ok (callV ns v, r)
def valF (rd : Int → List UInt8 → Except Int Val) (l : List UInt8) : Except Int (Val × List UInt8) :=
  match consL (l.length + 1) l with
  | .error e => .error e
  | .ok ((ns, c), r) => itemF rd ns c r
def endF (k : Int) : Except Int (List Val × List UInt8) → Except Int Val
  | .error e => .error e
  | .ok (vs, r) => if r.isEmpty = true then .ok (.mk k 0 e0 vs) else .error 6
def bodyF (rd : Int → List UInt8 → Except Int Val) (c : Int) (m : Nat) (r1 : List UInt8) : Except Int Val :=
  if 1024 < m then .error 6 else
  if kindC c = 24 then
    match consL (r1.length + 1) r1 with
    | .error e => .error e
    | .ok ((ns, C), r2) => endF (kindC c) (manyF (itemF rd ns C) m r2)
  else endF (kindC c) (manyF (valF rd) m r1)
def readS (rd : Int → List UInt8 → Except Int Val) (c : Int) (d : List UInt8) : Except Int Val :=
  if c < 192 then .ok (leafV c d) else
  match takeL (wideC c) d with
  | .error e => .error e
  | .ok (_, r) => match takeL (wideC c) r with
    | .error e => .error e
    | .ok (h, r1) => bodyF rd c (beN h) r1
def readF : Nat → Int → List UInt8 → Except Int Val
  | 0, _, _ => .error 6
  | n + 1, c, d => readS (readF n) c d
theorem readF_succ (n : Nat) (c : Int) (d : List UInt8) : readF (n + 1) c d = readS (readF n) c d := rfl
end Go.Bw.R1

/- Plain: the decoder, by places. -/
namespace Go.Bw.R1
set_option maxRecDepth 5000
open Go Go.Bw
theorem toL_ext (s : ByteArray) (a b : Nat) : toL (s.extract a b) = ((toL s).drop a).take (b - a) := by
  unfold toL
  rw [ByteArray.data_extract, Array.toList_extract, List.extract_eq_take_drop]
theorem takeL_at (s : ByteArray) (at_ n : Nat) : takeL n ((toL s).drop at_) = if s.size - at_ < n then .error 7 else .ok (toL (s.extract at_ (at_ + n)), (toL s).drop (at_ + n)) := by
  unfold takeL
  rw [List.length_drop, toL_len, toL_ext, Nat.add_sub_cancel_left, List.drop_drop]
theorem ext_join (s : ByteArray) (a b c : Nat) (h1 : a ≤ b) (h2 : b ≤ c) : toL (s.extract a b) ++ toL (s.extract b c) = toL (s.extract a c) := by
  rw [toL_ext, toL_ext, toL_ext]
  have : (toL s).drop b = ((toL s).drop a).drop (b - a) := by rw [List.drop_drop]; congr 1; omega
  rw [this, ← List.take_append_drop (b - a) (((toL s).drop a).take (c - a)), List.take_take, List.drop_take]
  congr 2
  · omega
  · omega
theorem mkT_ext (s : ByteArray) (a b : Nat) : mkT (toL (s.extract a b)) = s.extract a b := mkT_toL _
theorem toL_mkT (l : List UInt8) : toL (mkT l) = l := by unfold toL mkT; rfl
theorem beN_snoc (l : List UInt8) (x : UInt8) : beN (l ++ [x]) = beN l * 256 + x.toNat := by unfold beN; rw [List.foldl_append]; rfl
theorem beN_lt : ∀ (n : Nat) (l : List UInt8), l.length = n → beN l < 256 ^ n
  | 0, l, h => by rw [List.length_eq_zero_iff.1 h]; decide
  | n + 1, l, h => by
    obtain ⟨a, x, rfl⟩ : ∃ a x, l = a ++ [x] := ⟨l.dropLast, l.getLast (by intro hh; rw [hh] at h; cases h), (List.dropLast_concat_getLast _).symm⟩
    have := beN_lt n a (by rw [List.length_append] at h; simpa using h)
    have := x.toNat_lt
    rw [beN_snoc, Nat.pow_succ]; omega
/-- data, by places -/
theorem dataL_short {c : Int} (s : ByteArray) (at_ : Nat) (hc : c < 160) : dataL c ((toL s).drop at_) = if s.size - at_ < fixC c then .error 7 else .ok (toL (s.extract at_ (at_ + fixC c)), (toL s).drop (at_ + fixC c)) := by
  unfold dataL; rw [if_pos hc, takeL_at]
theorem dataL_long {c : Int} (s : ByteArray) (at_ : Nat) (hc : ¬ c < 160) : dataL c ((toL s).drop at_) = if s.size - at_ < wideC c then .error 7 else
    if s.size - (at_ + wideC c) < beN (toL (s.extract at_ (at_ + wideC c))) then .error 7 else
    .ok (toL (s.extract at_ (at_ + wideC c + beN (toL (s.extract at_ (at_ + wideC c))))), (toL s).drop (at_ + wideC c + beN (toL (s.extract at_ (at_ + wideC c))))) := by
  unfold dataL
  rw [if_neg hc, takeL_at]
  by_cases h : s.size - at_ < wideC c
  · rw [if_pos h, if_pos h]
  · rw [if_neg h, if_neg h]
    dsimp only
    rw [takeL_at]
    by_cases h2 : s.size - (at_ + wideC c) < beN (toL (s.extract at_ (at_ + wideC c)))
    · rw [if_pos h2, if_pos h2]
    · rw [if_neg h2, if_neg h2]
      dsimp only
      rw [ext_join _ _ _ _ (by omega) (by omega)]
end Go.Bw.R1

/- decode: the reader. -/
namespace Go.Bw.R1
set_option maxRecDepth 5000
open Go Go.Bw Go.Proofs
/-- a reader, and what it throws -/
abbrev rdr (s : ByteArray) (at_ : Nat) : List D := [.ro false (bytesD s), I at_]
abbrev thr (e : Int) : R := .pan (.ifc 28 (I e))
theorem all1 (s : ByteArray) : ((bytesD s).all fun e => e.cells.length == 1) = true := by
  rw [List.all_eq_true]
  intro x hx
  obtain ⟨_, _, rfl⟩ := List.mem_map.1 hx; rfl
theorem cutB (s : ByteArray) (a b : Nat) : (List.take b (bytesD s)).drop a = bytesD (s.extract a b) := by
  unfold bytesD
  rw [← List.map_take, ← List.map_drop]
  congr 1
  rw [ByteArray.data_extract, Array.toList_extract, List.extract_eq_take_drop, List.drop_take]
theorem take_ok (s : ByteArray) (at_ n : Nat) (h : at_ + n ≤ s.size) (hs : s.size ≤ 100000000) : EV 51 [.ptr 0 0 0, I n] [some ⟨0, rdr s at_⟩] = some (.ret (.ro false (bytesD (s.extract at_ (at_ + n)))), [some ⟨0, rdr s (at_ + n)⟩]) := by
  refine (ev_body ⟨[], [], [(1, [(0, 0, false), (1, 0, false), (2, 0, false), (3, 0, false), (4, 0, false), (5, 0, false), (6, 0, false), (7, 0, false), (8, 0, false), (9, 0, false), (10, 0, false), (11, 0, false)]), (4, [(0, 0, false), (1, 0, false), (2, 0, false), (3, 0, false), (4, 0, false), (5, 0, false), (6, 0, false), (7, 0, false), (8, 0, false), (9, 0, false), (10, 0, false), (11, 0, false), (12, 0, false), (13, 0, false), (14, 0, false), (15, 0, false)])], true, [], noIt⟩ [.tmp 4] rfl Tryd.func51 rfl rfl rfl (by kernel_rfl) (by show 2 ≤ 41; decide) (by kernel_rfl)).trans ?_
  have hgt : decide ((n : Int) > (s.size : Int) - at_) = false := decide_eq_false (by omega)
  simp +contextual (maxSteps := 10000000) only [↓reduceIte, go_sem, Nat.reduceEqDiff, Nat.reduceAdd, Nat.reduceSub, Nat.reduceMul, Nat.reduceLeDiff, Nat.reduceLT, Nat.reduceBEq, Nat.reduceDiv, Nat.reduceMod, Int.reduceLE, Int.reduceLT, Int.reduceEq, Int.reduceBEq, Int.reduceBNe, Int.reduceAdd, Int.reduceSub, Int.reduceNeg, Int.reduceToNat, Int.reduceMul, Int.reducePow, Nat.reducePow, reduceCtorEq, wrap_i64 (n := (s.size : Int) - at_) (by omega) (by omega), wrap_i64 (n := (at_ : Int) + n) (by omega) (by omega), show ((at_ : Int) + n).toNat = at_ + n by omega, show (0 ≤ (at_ : Int) + n) = True from eq_true (by omega), show IntKind.i64.wrap ((at_ : Int) + n - n) = at_ by rw [wrap_i64 (by omega) (by omega)]; omega,
    show (at_ ≤ at_ + n) = True from eq_true (by omega), show (at_ + n ≤ s.size) = True from eq_true h, all1, cutB, Bool.false_and, hgt]
  rfl
theorem take_no (s : ByteArray) (at_ n : Nat) (ha : at_ ≤ s.size) (h : s.size < at_ + n) (hs : s.size ≤ 100000000) : EV 51 [.ptr 0 0 0, I n] [some ⟨0, rdr s at_⟩] = some (thr 7, [some ⟨0, [.undef, .undef]⟩]) := by
  refine (ev_body ⟨[], [], [(1, [(0, 0, false), (1, 0, false), (2, 0, false), (3, 0, false), (4, 0, false), (5, 0, false), (6, 0, false), (7, 0, false), (8, 0, false), (9, 0, false), (10, 0, false), (11, 0, false)]), (4, [(0, 0, false), (1, 0, false), (2, 0, false), (3, 0, false), (4, 0, false), (5, 0, false), (6, 0, false), (7, 0, false), (8, 0, false), (9, 0, false), (10, 0, false), (11, 0, false), (12, 0, false), (13, 0, false), (14, 0, false), (15, 0, false)])], true, [], noIt⟩ [.tmp 4] rfl Tryd.func51 rfl rfl rfl (by kernel_rfl) (by show 2 ≤ 41; decide) (by kernel_rfl)).trans ?_
  have hgt : decide ((s.size : Int) - at_ < n) = true := decide_eq_true (by omega)
  simp +contextual (maxSteps := 10000000) only [↓reduceIte, go_sem, Nat.reduceEqDiff, Nat.reduceAdd, Nat.reduceSub, Nat.reduceMul, Nat.reduceLeDiff, Nat.reduceLT, Nat.reduceBEq, Nat.reduceDiv, Nat.reduceMod, Int.reduceLE, Int.reduceLT, Int.reduceEq, Int.reduceBEq, Int.reduceBNe, Int.reduceAdd, Int.reduceSub, Int.reduceNeg, Int.reduceToNat, Int.reduceMul, Int.reducePow, Nat.reducePow, reduceCtorEq, wrap_i64 (n := (s.size : Int) - at_) (by omega) (by omega), hgt]
theorem fde (n c : Int) (hc : 0 ≤ c) : n.fdiv c = n / c := Int.fdiv_eq_ediv_of_nonneg _ hc
theorem wide_c (c : Int) (h0 : 0 ≤ c) (h1 : c ≤ 255) : EV 53 [.sc (.int .u8 c)] [] = some (.ret (I (wideC c)), []) := by
  refine (ev_body ⟨[], [], [], false, [], noIt⟩ [.tmp 2] rfl Tryd.func53 rfl rfl rfl (by kernel_rfl) (by show 1 ≤ 7; decide) (by kernel_rfl)).trans ?_
  simp +contextual (maxSteps := 10000000) only [↓reduceIte, go_sem, Nat.reduceEqDiff, Nat.reduceAdd, Nat.reduceSub, Nat.reduceMul, Nat.reduceLeDiff, Nat.reduceLT, Nat.reduceBEq, Nat.reduceDiv, Nat.reduceMod, Int.reduceLE, Int.reduceLT, Int.reduceEq, Int.reduceBEq, Int.reduceBNe, Int.reduceAdd, Int.reduceSub, Int.reduceNeg, Int.reduceToNat, Int.reduceMul, Int.reducePow, Nat.reducePow, reduceCtorEq]
  have e : andB .u8 (c.fdiv 16) 1 = c / 16 % 2 := by rw [fde c 16 (by decide)]; exact and_u8 1 rfl (by decide) (by omega) (by omega)
  rw [e]
  unfold wideC
  split <;> rename_i h
  · rw [if_pos (by simpa using h)]; rfl
  · rw [if_neg (by simpa using h)]; rfl
theorem tell_c (d : ByteArray) (hd : d.size ≤ 8) : EV 74 [.ro false (bytesD d)] [] = some (.ret (.tup [.sc (.int .u64 (beN (toL d))), B true]), []) := by
  refine (ev_body ⟨[], [(0, [2, 9, 10, 11])], [], false, [], noIt⟩ [.tmp 2, .tmp 3] rfl Tryd.func74 rfl rfl rfl (by kernel_rfl) (by show 1 ≤ 22; decide) (by kernel_rfl)).trans ?_
  have h8 : decide ((8 : Int) < d.size) = false := decide_eq_false (by omega)
  simp +contextual (maxSteps := 10000000) only [↓reduceIte, go_sem, Nat.reduceEqDiff, Nat.reduceAdd, Nat.reduceSub, Nat.reduceMul, Nat.reduceLeDiff, Nat.reduceLT, Nat.reduceBEq, Nat.reduceDiv, Nat.reduceMod, Int.reduceLE, Int.reduceLT, Int.reduceEq, Int.reduceBEq, Int.reduceBNe, Int.reduceAdd, Int.reduceSub, Int.reduceNeg, Int.reduceToNat, Int.reduceMul, Int.reducePow, Nat.reducePow, reduceCtorEq, h8]
  refine lpK_inv (fun m0 f es => ∃ (i : Nat), i + m0 = d.size ∧ f = [(2, .sc (.int .u64 (beN ((toL d).take i)))), (9, .ro false (bytesD d)), (10, I d.size), (11, I i)] ∧ es = []) d.size ⟨0, Nat.zero_add _, rfl, rfl⟩ ?_
  rintro m0 _ _ ⟨i, hi, rfl, rfl⟩ ih
  rcases Nat.lt_or_ge i d.size with hlt | hge
  · obtain ⟨x, hx⟩ := get_lt (l := toL d) (i := i) hlt
    have hlt' : decide ((i : Int) < d.size) = true := decide_eq_true (by omega)
    have hx2 : (bytesD d)[i]? = some (.sc (.int .u8 x.toNat)) := by
      unfold bytesD; rw [List.getElem?_map]; unfold toL at hx; rw [hx]; rfl
    have hsn := take_snoc hx
    simp +contextual (maxSteps := 10000000) only [↓reduceIte, go_sem, Nat.reduceEqDiff, Nat.reduceAdd, Nat.reduceSub, Nat.reduceMul, Nat.reduceLeDiff, Nat.reduceLT, Nat.reduceBEq, Nat.reduceDiv, Nat.reduceMod, Int.reduceLE, Int.reduceLT, Int.reduceEq, Int.reduceBEq, Int.reduceBNe, Int.reduceAdd, Int.reduceSub, Int.reduceNeg, Int.reduceToNat, Int.reduceMul, Int.reducePow, Nat.reducePow, reduceCtorEq, hlt', hx2, wrap_i64 (n := (i : Int) + 1) (by omega) (by omega)]
    have hb := beN_lt _ ((toL d).take i) rfl
    have hle : 256 ^ ((toL d).take i).length ≤ 256 ^ 7 := Nat.pow_le_pow_right (by decide) (by rw [List.length_take]; omega)
    have hx8 := x.toNat_lt
    have hb2 : beN ((toL d).take i) < 72057594037927936 := Nat.lt_of_lt_of_le hb hle
    rw [fit_u64 (n := (beN ((toL d).take i) : Int) * 256) (by omega) (by omega), fit_u64 (n := (x.toNat : Int)) (by omega) (by omega), fit_u64 (by omega) (by omega)]
    refine ih (m0 - 1) _ _ (by omega) ⟨i + 1, by omega, ?_, rfl⟩
    rw [hsn, beN_snoc]; rfl
  · have hlt' : decide ((i : Int) < d.size) = false := decide_eq_false (by omega)
    have e : (toL d).take i = toL d := List.take_of_length_le (by rw [toL_len]; omega)
    rw [e]
    simp +contextual (maxSteps := 10000000) only [↓reduceIte, go_sem, Nat.reduceEqDiff, Nat.reduceAdd, Nat.reduceSub, Nat.reduceMul, Nat.reduceLeDiff, Nat.reduceLT, Nat.reduceBEq, Nat.reduceDiv, Nat.reduceMod, Int.reduceLE, Int.reduceLT, Int.reduceEq, Int.reduceBEq, Int.reduceBNe, Int.reduceAdd, Int.reduceSub, Int.reduceNeg, Int.reduceToNat, Int.reduceMul, Int.reducePow, Nat.reducePow, reduceCtorEq, hlt']
/-- what a reading function answers: a reader further on, or what it throws -/
def numR (s : ByteArray) (at_ w : Nat) : R × Sto := if s.size - at_ < w then (thr 7, [some ⟨0, [.undef, .undef]⟩]) else (.ret (I (beN (toL (s.extract at_ (at_ + w))))), [some ⟨0, rdr s (at_ + w)⟩])
theorem number_c' (s : ByteArray) (at_ w : Nat) (ha : at_ ≤ s.size) (hs : s.size ≤ 100000000) (hw : w ≤ 4) : EV 52 [.ptr 0 0 0, I w] [some ⟨0, rdr s at_⟩] = some (numR s at_ w) := by
  refine (ev_body ⟨[], [], [], false, [], noIt⟩ [.tmp 4] rfl Tryd.func52 rfl rfl rfl (by kernel_rfl) (by show 2 ≤ 16; decide) (by kernel_rfl)).trans ?_
  unfold numR
  by_cases h : s.size - at_ < w
  · rw [if_pos h]
    have ht := take_no s at_ w ha (by omega) hs
    simp +contextual (maxSteps := 10000000) only [↓reduceIte, go_sem, Nat.reduceEqDiff, Nat.reduceAdd, Nat.reduceSub, Nat.reduceMul, Nat.reduceLeDiff, Nat.reduceLT, Nat.reduceBEq, Nat.reduceDiv, Nat.reduceMod, Int.reduceLE, Int.reduceLT, Int.reduceEq, Int.reduceBEq, Int.reduceBNe, Int.reduceAdd, Int.reduceSub, Int.reduceNeg, Int.reduceToNat, Int.reduceMul, Int.reducePow, Nat.reducePow, reduceCtorEq, ht]
  · rw [if_neg h]
    have ht := take_ok s at_ w (by omega) hs
    have hz : (s.extract at_ (at_ + w)).size = w := by rw [ByteArray.size_extract]; omega
    have htl := tell_c (s.extract at_ (at_ + w)) (by omega)
    have hb := beN_lt _ (toL (s.extract at_ (at_ + w))) rfl
    have hle : 256 ^ (toL (s.extract at_ (at_ + w))).length ≤ 256 ^ 4 := Nat.pow_le_pow_right (by decide) (by rw [toL_len]; omega)
    simp +contextual (maxSteps := 10000000) only [↓reduceIte, go_sem, Nat.reduceEqDiff, Nat.reduceAdd, Nat.reduceSub, Nat.reduceMul, Nat.reduceLeDiff, Nat.reduceLT, Nat.reduceBEq, Nat.reduceDiv, Nat.reduceMod, Int.reduceLE, Int.reduceLT, Int.reduceEq, Int.reduceBEq, Int.reduceBNe, Int.reduceAdd, Int.reduceSub, Int.reduceNeg, Int.reduceToNat, Int.reduceMul, Int.reducePow, Nat.reducePow, reduceCtorEq, ht, htl, wrap_i64 (n := (beN (toL (s.extract at_ (at_ + w))) : Int)) (by omega) (by omega)]
def datR (c : Int) (s : ByteArray) (at_ : Nat) : R × Sto := match dataL c ((toL s).drop at_) with
  | .error e => (thr e, [some ⟨0, [.undef, .undef]⟩])
  | .ok (d, r) => (.ret (.ro false (bytesD (mkT d))), [some ⟨0, rdr s (s.size - r.length)⟩])
set_option maxHeartbeats 2000000 in
theorem data_c' (c : Int) (s : ByteArray) (at_ : Nat) (ha : at_ ≤ s.size) (hs : s.size ≤ 100000000) (h0 : 64 ≤ c) (h1 : c ≤ 255) : EV 34 [.ptr 0 0 0, .sc (.int .u8 c)] [some ⟨0, rdr s at_⟩] = some (datR c s at_) := by
  refine (ev_body ⟨[], [], [(6, [(0, 0, false), (1, 0, false), (2, 0, false), (3, 0, false), (4, 0, false), (5, 0, false), (6, 0, false), (7, 0, false), (8, 0, false), (9, 0, false), (10, 0, false)])], true, [], noIt⟩ [.tmp 4] rfl Tryd.func34 rfl rfl rfl (by kernel_rfl) (by show 2 ≤ 37; decide) (by kernel_rfl)).trans ?_
  unfold datR
  have hb1 : ∀ n, at_ + n ≤ s.size → s.size - ((toL s).drop (at_ + n)).length = at_ + n := fun n hn => by rw [List.length_drop, toL_len]; omega
  by_cases hc : c < 160
  · have hcd : decide (c < 160) = true := decide_eq_true hc
    rw [dataL_short s at_ hc]
    have hq : (c / 16 = 4 ∧ fixC c = 0) ∨ (c / 16 = 5 ∧ fixC c = 1) ∨ (c / 16 = 6 ∧ fixC c = 2) ∨ (c / 16 = 7 ∧ fixC c = 4) ∨ (c / 16 = 8 ∧ fixC c = 8) ∨ (c / 16 = 9 ∧ fixC c = 16) := by
      unfold fixC
      rcases (show c / 16 = 4 ∨ c / 16 = 5 ∨ c / 16 = 6 ∨ c / 16 = 7 ∨ c / 16 = 8 ∨ c / 16 = 9 by omega) with h | h | h | h | h | h <;> rw [h] <;> simp
    rcases hq with ⟨hq, hf⟩ | ⟨hq, hf⟩ | ⟨hq, hf⟩ | ⟨hq, hf⟩ | ⟨hq, hf⟩ | ⟨hq, hf⟩
    · have hi : (c.fdiv 16 - 4) % 256 = 0 := by rw [fde c 16 (by decide)]; omega
      rw [hf]
      by_cases h : s.size - at_ < 0
      · rw [if_pos h]
        have ht := take_no s at_ 0 ha (by omega) hs
        simp only [Int.cast_ofNat_Int] at ht
        simp +contextual (maxSteps := 10000000) only [↓reduceIte, go_sem, Nat.reduceEqDiff, Nat.reduceAdd, Nat.reduceSub, Nat.reduceMul, Nat.reduceLeDiff, Nat.reduceLT, Nat.reduceBEq, Nat.reduceDiv, Nat.reduceMod, Int.reduceLE, Int.reduceLT, Int.reduceEq, Int.reduceBEq, Int.reduceBNe, Int.reduceAdd, Int.reduceSub, Int.reduceNeg, Int.reduceToNat, Int.reduceMul, Int.reducePow, Nat.reducePow, reduceCtorEq, hcd, ht, hi]
      · rw [if_neg h]
        have ht := take_ok s at_ 0 (by omega) hs
        simp only [Int.cast_ofNat_Int] at ht
        have e := hb1 0 (by omega)
        simp +contextual (maxSteps := 10000000) only [↓reduceIte, go_sem, Nat.reduceEqDiff, Nat.reduceAdd, Nat.reduceSub, Nat.reduceMul, Nat.reduceLeDiff, Nat.reduceLT, Nat.reduceBEq, Nat.reduceDiv, Nat.reduceMod, Int.reduceLE, Int.reduceLT, Int.reduceEq, Int.reduceBEq, Int.reduceBNe, Int.reduceAdd, Int.reduceSub, Int.reduceNeg, Int.reduceToNat, Int.reduceMul, Int.reducePow, Nat.reducePow, reduceCtorEq, hcd, ht, hi]
        rw [mkT_ext, show s.size - (List.drop at_ (toL s)).length = at_ from e]
    · have hi : (c.fdiv 16 - 4) % 256 = 1 := by rw [fde c 16 (by decide)]; omega
      rw [hf]
      by_cases h : s.size - at_ < 1
      · rw [if_pos h]
        have ht := take_no s at_ 1 ha (by omega) hs
        simp only [Int.cast_ofNat_Int] at ht
        simp +contextual (maxSteps := 10000000) only [↓reduceIte, go_sem, Nat.reduceEqDiff, Nat.reduceAdd, Nat.reduceSub, Nat.reduceMul, Nat.reduceLeDiff, Nat.reduceLT, Nat.reduceBEq, Nat.reduceDiv, Nat.reduceMod, Int.reduceLE, Int.reduceLT, Int.reduceEq, Int.reduceBEq, Int.reduceBNe, Int.reduceAdd, Int.reduceSub, Int.reduceNeg, Int.reduceToNat, Int.reduceMul, Int.reducePow, Nat.reducePow, reduceCtorEq, hcd, ht, hi]
      · rw [if_neg h]
        have ht := take_ok s at_ 1 (by omega) hs
        simp only [Int.cast_ofNat_Int] at ht
        have e := hb1 1 (by omega)
        simp +contextual (maxSteps := 10000000) only [↓reduceIte, go_sem, Nat.reduceEqDiff, Nat.reduceAdd, Nat.reduceSub, Nat.reduceMul, Nat.reduceLeDiff, Nat.reduceLT, Nat.reduceBEq, Nat.reduceDiv, Nat.reduceMod, Int.reduceLE, Int.reduceLT, Int.reduceEq, Int.reduceBEq, Int.reduceBNe, Int.reduceAdd, Int.reduceSub, Int.reduceNeg, Int.reduceToNat, Int.reduceMul, Int.reducePow, Nat.reducePow, reduceCtorEq, hcd, ht, hi]
        rw [mkT_ext, e]; rfl
    · have hi : (c.fdiv 16 - 4) % 256 = 2 := by rw [fde c 16 (by decide)]; omega
      rw [hf]
      by_cases h : s.size - at_ < 2
      · rw [if_pos h]
        have ht := take_no s at_ 2 ha (by omega) hs
        simp only [Int.cast_ofNat_Int] at ht
        simp +contextual (maxSteps := 10000000) only [↓reduceIte, go_sem, Nat.reduceEqDiff, Nat.reduceAdd, Nat.reduceSub, Nat.reduceMul, Nat.reduceLeDiff, Nat.reduceLT, Nat.reduceBEq, Nat.reduceDiv, Nat.reduceMod, Int.reduceLE, Int.reduceLT, Int.reduceEq, Int.reduceBEq, Int.reduceBNe, Int.reduceAdd, Int.reduceSub, Int.reduceNeg, Int.reduceToNat, Int.reduceMul, Int.reducePow, Nat.reducePow, reduceCtorEq, hcd, ht, hi]
      · rw [if_neg h]
        have ht := take_ok s at_ 2 (by omega) hs
        simp only [Int.cast_ofNat_Int] at ht
        have e := hb1 2 (by omega)
        simp +contextual (maxSteps := 10000000) only [↓reduceIte, go_sem, Nat.reduceEqDiff, Nat.reduceAdd, Nat.reduceSub, Nat.reduceMul, Nat.reduceLeDiff, Nat.reduceLT, Nat.reduceBEq, Nat.reduceDiv, Nat.reduceMod, Int.reduceLE, Int.reduceLT, Int.reduceEq, Int.reduceBEq, Int.reduceBNe, Int.reduceAdd, Int.reduceSub, Int.reduceNeg, Int.reduceToNat, Int.reduceMul, Int.reducePow, Nat.reducePow, reduceCtorEq, hcd, ht, hi]
        rw [mkT_ext, e]; rfl
    · have hi : (c.fdiv 16 - 4) % 256 = 3 := by rw [fde c 16 (by decide)]; omega
      rw [hf]
      by_cases h : s.size - at_ < 4
      · rw [if_pos h]
        have ht := take_no s at_ 4 ha (by omega) hs
        simp only [Int.cast_ofNat_Int] at ht
        simp +contextual (maxSteps := 10000000) only [↓reduceIte, go_sem, Nat.reduceEqDiff, Nat.reduceAdd, Nat.reduceSub, Nat.reduceMul, Nat.reduceLeDiff, Nat.reduceLT, Nat.reduceBEq, Nat.reduceDiv, Nat.reduceMod, Int.reduceLE, Int.reduceLT, Int.reduceEq, Int.reduceBEq, Int.reduceBNe, Int.reduceAdd, Int.reduceSub, Int.reduceNeg, Int.reduceToNat, Int.reduceMul, Int.reducePow, Nat.reducePow, reduceCtorEq, hcd, ht, hi]
      · rw [if_neg h]
        have ht := take_ok s at_ 4 (by omega) hs
        simp only [Int.cast_ofNat_Int] at ht
        have e := hb1 4 (by omega)
        simp +contextual (maxSteps := 10000000) only [↓reduceIte, go_sem, Nat.reduceEqDiff, Nat.reduceAdd, Nat.reduceSub, Nat.reduceMul, Nat.reduceLeDiff, Nat.reduceLT, Nat.reduceBEq, Nat.reduceDiv, Nat.reduceMod, Int.reduceLE, Int.reduceLT, Int.reduceEq, Int.reduceBEq, Int.reduceBNe, Int.reduceAdd, Int.reduceSub, Int.reduceNeg, Int.reduceToNat, Int.reduceMul, Int.reducePow, Nat.reducePow, reduceCtorEq, hcd, ht, hi]
        rw [mkT_ext, e]; rfl
    · have hi : (c.fdiv 16 - 4) % 256 = 4 := by rw [fde c 16 (by decide)]; omega
      rw [hf]
      by_cases h : s.size - at_ < 8
      · rw [if_pos h]
        have ht := take_no s at_ 8 ha (by omega) hs
        simp only [Int.cast_ofNat_Int] at ht
        simp +contextual (maxSteps := 10000000) only [↓reduceIte, go_sem, Nat.reduceEqDiff, Nat.reduceAdd, Nat.reduceSub, Nat.reduceMul, Nat.reduceLeDiff, Nat.reduceLT, Nat.reduceBEq, Nat.reduceDiv, Nat.reduceMod, Int.reduceLE, Int.reduceLT, Int.reduceEq, Int.reduceBEq, Int.reduceBNe, Int.reduceAdd, Int.reduceSub, Int.reduceNeg, Int.reduceToNat, Int.reduceMul, Int.reducePow, Nat.reducePow, reduceCtorEq, hcd, ht, hi]
      · rw [if_neg h]
        have ht := take_ok s at_ 8 (by omega) hs
        simp only [Int.cast_ofNat_Int] at ht
        have e := hb1 8 (by omega)
        simp +contextual (maxSteps := 10000000) only [↓reduceIte, go_sem, Nat.reduceEqDiff, Nat.reduceAdd, Nat.reduceSub, Nat.reduceMul, Nat.reduceLeDiff, Nat.reduceLT, Nat.reduceBEq, Nat.reduceDiv, Nat.reduceMod, Int.reduceLE, Int.reduceLT, Int.reduceEq, Int.reduceBEq, Int.reduceBNe, Int.reduceAdd, Int.reduceSub, Int.reduceNeg, Int.reduceToNat, Int.reduceMul, Int.reducePow, Nat.reducePow, reduceCtorEq, hcd, ht, hi]
        rw [mkT_ext, e]; rfl
    · have hi : (c.fdiv 16 - 4) % 256 = 5 := by rw [fde c 16 (by decide)]; omega
      rw [hf]
      by_cases h : s.size - at_ < 16
      · rw [if_pos h]
        have ht := take_no s at_ 16 ha (by omega) hs
        simp only [Int.cast_ofNat_Int] at ht
        simp +contextual (maxSteps := 10000000) only [↓reduceIte, go_sem, Nat.reduceEqDiff, Nat.reduceAdd, Nat.reduceSub, Nat.reduceMul, Nat.reduceLeDiff, Nat.reduceLT, Nat.reduceBEq, Nat.reduceDiv, Nat.reduceMod, Int.reduceLE, Int.reduceLT, Int.reduceEq, Int.reduceBEq, Int.reduceBNe, Int.reduceAdd, Int.reduceSub, Int.reduceNeg, Int.reduceToNat, Int.reduceMul, Int.reducePow, Nat.reducePow, reduceCtorEq, hcd, ht, hi]
      · rw [if_neg h]
        have ht := take_ok s at_ 16 (by omega) hs
        simp only [Int.cast_ofNat_Int] at ht
        have e := hb1 16 (by omega)
        simp +contextual (maxSteps := 10000000) only [↓reduceIte, go_sem, Nat.reduceEqDiff, Nat.reduceAdd, Nat.reduceSub, Nat.reduceMul, Nat.reduceLeDiff, Nat.reduceLT, Nat.reduceBEq, Nat.reduceDiv, Nat.reduceMod, Int.reduceLE, Int.reduceLT, Int.reduceEq, Int.reduceBEq, Int.reduceBNe, Int.reduceAdd, Int.reduceSub, Int.reduceNeg, Int.reduceToNat, Int.reduceMul, Int.reducePow, Nat.reducePow, reduceCtorEq, hcd, ht, hi]
        rw [mkT_ext, e]; rfl
  · have hcd : decide (c < 160) = false := decide_eq_false hc
    rw [dataL_long s at_ hc]
    have hwd := wide_c c (by omega) h1
    have hw4 : wideC c ≤ 4 := by unfold wideC; split <;> omega
    have hn := number_c' s at_ (wideC c) ha hs hw4
    unfold numR at hn
    by_cases h : s.size - at_ < wideC c
    · rw [if_pos h] at hn ⊢
      simp +contextual (maxSteps := 10000000) only [↓reduceIte, go_sem, Nat.reduceEqDiff, Nat.reduceAdd, Nat.reduceSub, Nat.reduceMul, Nat.reduceLeDiff, Nat.reduceLT, Nat.reduceBEq, Nat.reduceDiv, Nat.reduceMod, Int.reduceLE, Int.reduceLT, Int.reduceEq, Int.reduceBEq, Int.reduceBNe, Int.reduceAdd, Int.reduceSub, Int.reduceNeg, Int.reduceToNat, Int.reduceMul, Int.reducePow, Nat.reducePow, reduceCtorEq, hcd, hwd, hn]
    · rw [if_neg h] at hn ⊢
      generalize hN : beN (toL (s.extract at_ (at_ + wideC c))) = N at *
      by_cases h2 : s.size - (at_ + wideC c) < N
      · rw [if_pos h2]
        have ht := take_no s (at_ + wideC c) N (by omega) (by omega) hs
        simp only [rdr, Int.natCast_add] at ht
        simp +contextual (maxSteps := 10000000) only [↓reduceIte, go_sem, Nat.reduceEqDiff, Nat.reduceAdd, Nat.reduceSub, Nat.reduceMul, Nat.reduceLeDiff, Nat.reduceLT, Nat.reduceBEq, Nat.reduceDiv, Nat.reduceMod, Int.reduceLE, Int.reduceLT, Int.reduceEq, Int.reduceBEq, Int.reduceBNe, Int.reduceAdd, Int.reduceSub, Int.reduceNeg, Int.reduceToNat, Int.reduceMul, Int.reducePow, Nat.reducePow, reduceCtorEq, hcd, hwd, hn, ht]
      · rw [if_neg h2]
        have ht := take_ok s (at_ + wideC c) N (by omega) hs
        simp only [rdr, Int.natCast_add] at ht
        simp +contextual (maxSteps := 10000000) only [↓reduceIte, go_sem, Nat.reduceEqDiff, Nat.reduceAdd, Nat.reduceSub, Nat.reduceMul, Nat.reduceLeDiff, Nat.reduceLT, Nat.reduceBEq, Nat.reduceDiv, Nat.reduceMod, Int.reduceLE, Int.reduceLT, Int.reduceEq, Int.reduceBEq, Int.reduceBNe, Int.reduceAdd, Int.reduceSub, Int.reduceNeg, Int.reduceToNat, Int.reduceMul, Int.reducePow, Nat.reducePow, reduceCtorEq, hcd, hwd, hn, ht, show ((at_ : Int) + wideC c + N).toNat = at_ + wideC c + N by omega, show (0 ≤ (at_ : Int) + wideC c + N) = True from eq_true (by omega), show (at_ ≤ at_ + wideC c + N) = True from eq_true (by omega), show (at_ + wideC c + N ≤ s.size) = True from eq_true (by omega), all1, cutB, Bool.false_and]
        have e := hb1 (wideC c + N) (by omega)
        rw [← Nat.add_assoc] at e
        rw [mkT_ext, e]; rfl
end Go.Bw.R1

/- decode.read, of what has no kids. -/
namespace Go.Bw.R1
set_option maxRecDepth 5000
open Go Go.Bw Go.Proofs
theorem mapTk : MapT Tryd.prog 77 := ⟨5, 5, by rw [Tryd.underlying77], by rw [Tryd.underlying5], ze5, by kernel_rfl, by kernel_rfl⟩
theorem gl_kinds : gl0 0 = .rp [kindsD] := nr rfl
theorem sgn_8 (x : Int) : EV 76 [.sc (.int .u64 x), I 8] [] = some (.ret (.sc (.int .u64 x)), []) := by
  refine (ev_body ⟨[], [], [], false, [], noIt⟩ [.tmp 4] rfl Tryd.func76 rfl rfl rfl (by kernel_rfl) (by show 2 ≤ 23; decide) (by kernel_rfl)).trans ?_
  simp +contextual (maxSteps := 10000000) only [↓reduceIte, go_sem, Nat.reduceEqDiff, Nat.reduceAdd, Nat.reduceSub, Nat.reduceMul, Nat.reduceLeDiff, Nat.reduceLT, Nat.reduceBEq, Nat.reduceDiv, Nat.reduceMod, Int.reduceLE, Int.reduceLT, Int.reduceEq, Int.reduceBEq, Int.reduceBNe, Int.reduceAdd, Int.reduceSub, Int.reduceNeg, Int.reduceToNat, Int.reduceMul, Int.reducePow, Nat.reducePow, reduceCtorEq]
theorem sgn_1 (x : Int) (h0 : 0 ≤ x) (h1 : x < 256) : EV 76 [.sc (.int .u64 x), I 1] [] = some (.ret (.sc (.int .u64 (sgnX x 1))), []) := by
  refine (ev_body ⟨[], [], [], false, [], noIt⟩ [.tmp 4] rfl Tryd.func76 rfl rfl rfl (by kernel_rfl) (by show 2 ≤ 23; decide) (by kernel_rfl)).trans ?_
  have e : IntKind.u64.wrap ((IntKind.i64.wrap (IntKind.u64.wrap (x * 72057594037927936))).fdiv 72057594037927936) = sgnX x 1 := by
    have s1 : sgnX x 1 = if x < 128 then x else x + 18446744073709551360 := by
      unfold sgnX; rw [if_neg (by decide), show (2 : Int) ^ (8 * 1 - 1) = 128 from rfl, show (2 : Int) ^ 64 - 2 ^ (8 * 1) = 18446744073709551360 from rfl]
    rw [fit_u64 (n := x * 72057594037927936) (by omega) (by omega), fde _ _ (by decide), wrap_i64_eq, s1, wrap_u64]
    split <;> split <;> omega
  simp +contextual (maxSteps := 10000000) only [↓reduceIte, go_sem, Nat.reduceEqDiff, Nat.reduceAdd, Nat.reduceSub, Nat.reduceMul, Nat.reduceLeDiff, Nat.reduceLT, Nat.reduceBEq, Nat.reduceDiv, Nat.reduceMod, Int.reduceLE, Int.reduceLT, Int.reduceEq, Int.reduceBEq, Int.reduceBNe, Int.reduceAdd, Int.reduceSub, Int.reduceNeg, Int.reduceToNat, Int.reduceMul, Int.reducePow, Nat.reducePow, reduceCtorEq, e]
theorem sgn_2 (x : Int) (h0 : 0 ≤ x) (h1 : x < 65536) : EV 76 [.sc (.int .u64 x), I 2] [] = some (.ret (.sc (.int .u64 (sgnX x 2))), []) := by
  refine (ev_body ⟨[], [], [], false, [], noIt⟩ [.tmp 4] rfl Tryd.func76 rfl rfl rfl (by kernel_rfl) (by show 2 ≤ 23; decide) (by kernel_rfl)).trans ?_
  have e : IntKind.u64.wrap ((IntKind.i64.wrap (IntKind.u64.wrap (x * 281474976710656))).fdiv 281474976710656) = sgnX x 2 := by
    have s1 : sgnX x 2 = if x < 32768 then x else x + 18446744073709486080 := by
      unfold sgnX; rw [if_neg (by decide), show (2 : Int) ^ (8 * 2 - 1) = 32768 from rfl, show (2 : Int) ^ 64 - 2 ^ (8 * 2) = 18446744073709486080 from rfl]
    rw [fit_u64 (n := x * 281474976710656) (by omega) (by omega), fde _ _ (by decide), wrap_i64_eq, s1, wrap_u64]
    split <;> split <;> omega
  simp +contextual (maxSteps := 10000000) only [↓reduceIte, go_sem, Nat.reduceEqDiff, Nat.reduceAdd, Nat.reduceSub, Nat.reduceMul, Nat.reduceLeDiff, Nat.reduceLT, Nat.reduceBEq, Nat.reduceDiv, Nat.reduceMod, Int.reduceLE, Int.reduceLT, Int.reduceEq, Int.reduceBEq, Int.reduceBNe, Int.reduceAdd, Int.reduceSub, Int.reduceNeg, Int.reduceToNat, Int.reduceMul, Int.reducePow, Nat.reducePow, reduceCtorEq, e]
theorem sgn_4 (x : Int) (h0 : 0 ≤ x) (h1 : x < 4294967296) : EV 76 [.sc (.int .u64 x), I 4] [] = some (.ret (.sc (.int .u64 (sgnX x 4))), []) := by
  refine (ev_body ⟨[], [], [], false, [], noIt⟩ [.tmp 4] rfl Tryd.func76 rfl rfl rfl (by kernel_rfl) (by show 2 ≤ 23; decide) (by kernel_rfl)).trans ?_
  have e : IntKind.u64.wrap ((IntKind.i64.wrap (IntKind.u64.wrap (x * 4294967296))).fdiv 4294967296) = sgnX x 4 := by
    have s1 : sgnX x 4 = if x < 2147483648 then x else x + 18446744069414584320 := by
      unfold sgnX; rw [if_neg (by decide), show (2 : Int) ^ (8 * 4 - 1) = 2147483648 from rfl, show (2 : Int) ^ 64 - 2 ^ (8 * 4) = 18446744069414584320 from rfl]
    rw [fit_u64 (n := x * 4294967296) (by omega) (by omega), fde _ _ (by decide), wrap_i64_eq, s1, wrap_u64]
    split <;> split <;> omega
  simp +contextual (maxSteps := 10000000) only [↓reduceIte, go_sem, Nat.reduceEqDiff, Nat.reduceAdd, Nat.reduceSub, Nat.reduceMul, Nat.reduceLeDiff, Nat.reduceLT, Nat.reduceBEq, Nat.reduceDiv, Nat.reduceMod, Int.reduceLE, Int.reduceLT, Int.reduceEq, Int.reduceBEq, Int.reduceBNe, Int.reduceAdd, Int.reduceSub, Int.reduceNeg, Int.reduceToNat, Int.reduceMul, Int.reducePow, Nat.reducePow, reduceCtorEq, e]
theorem bd_ro {d : ByteArray} (h : d.size = 0) : bytesD d = [] := by
  have : d = ⟨#[]⟩ := ByteArray.ext (Array.eq_empty_of_size_eq_zero h)
  rw [this]; rfl
theorem dropB (s : ByteArray) (a : Nat) (h : a ≤ s.size) : List.drop a (bytesD s) = bytesD (mkT ((toL s).drop a)) := by
  unfold bytesD toL mkT; rw [List.map_drop]
set_option maxHeartbeats 1000000 in
theorem read_64 (d : ByteArray) (h : d.size = 0) : EV 54 [.sc (.int .u8 64), .ro false (bytesD d)] [] = some (.ret (leafV 64 (toL d)).d, []) := by
  have hk : kindC 64 = 1 := by decide
  refine (ev_body ⟨[], [], [], true, [], noIt⟩ [.cell 4 27] rfl Tryd.func54 rfl rfl rfl (by kernel_rfl) (by show 2 ≤ 75; decide) (by kernel_rfl)).trans ?_
  simp +contextual (maxSteps := 10000000) only [↓reduceIte, go_sem, Nat.reduceEqDiff, Nat.reduceAdd, Nat.reduceSub, Nat.reduceMul, Nat.reduceLeDiff, Nat.reduceLT, Nat.reduceBEq, Nat.reduceDiv, Nat.reduceMod, Int.reduceLE, Int.reduceLT, Int.reduceEq, Int.reduceBEq, Int.reduceBNe, Int.reduceAdd, Int.reduceSub, Int.reduceNeg, Int.reduceToNat, Int.reduceMul, Int.reducePow, Nat.reducePow, reduceCtorEq, look_kinds mapTk, gl_kinds, hk, number_c]
  rfl
set_option maxHeartbeats 1000000 in
theorem read_65 (d : ByteArray) (h : d.size = 0) : EV 54 [.sc (.int .u8 65), .ro false (bytesD d)] [] = some (.ret (leafV 65 (toL d)).d, []) := by
  have hk : kindC 65 = 2 := by decide
  refine (ev_body ⟨[], [], [], true, [], noIt⟩ [.cell 4 27] rfl Tryd.func54 rfl rfl rfl (by kernel_rfl) (by show 2 ≤ 75; decide) (by kernel_rfl)).trans ?_
  simp +contextual (maxSteps := 10000000) only [↓reduceIte, go_sem, Nat.reduceEqDiff, Nat.reduceAdd, Nat.reduceSub, Nat.reduceMul, Nat.reduceLeDiff, Nat.reduceLT, Nat.reduceBEq, Nat.reduceDiv, Nat.reduceMod, Int.reduceLE, Int.reduceLT, Int.reduceEq, Int.reduceBEq, Int.reduceBNe, Int.reduceAdd, Int.reduceSub, Int.reduceNeg, Int.reduceToNat, Int.reduceMul, Int.reducePow, Nat.reducePow, reduceCtorEq, look_kinds mapTk, gl_kinds, hk, bool_c]
  rfl
set_option maxHeartbeats 1000000 in
theorem read_66 (d : ByteArray) (h : d.size = 0) : EV 54 [.sc (.int .u8 66), .ro false (bytesD d)] [] = some (.ret (leafV 66 (toL d)).d, []) := by
  have hk : kindC 66 = 2 := by decide
  refine (ev_body ⟨[], [], [], true, [], noIt⟩ [.cell 4 27] rfl Tryd.func54 rfl rfl rfl (by kernel_rfl) (by show 2 ≤ 75; decide) (by kernel_rfl)).trans ?_
  simp +contextual (maxSteps := 10000000) only [↓reduceIte, go_sem, Nat.reduceEqDiff, Nat.reduceAdd, Nat.reduceSub, Nat.reduceMul, Nat.reduceLeDiff, Nat.reduceLT, Nat.reduceBEq, Nat.reduceDiv, Nat.reduceMod, Int.reduceLE, Int.reduceLT, Int.reduceEq, Int.reduceBEq, Int.reduceBNe, Int.reduceAdd, Int.reduceSub, Int.reduceNeg, Int.reduceToNat, Int.reduceMul, Int.reducePow, Nat.reducePow, reduceCtorEq, look_kinds mapTk, gl_kinds, hk, number_c]
  rfl
set_option maxHeartbeats 1000000 in
theorem read_67 (d : ByteArray) (h : d.size = 0) : EV 54 [.sc (.int .u8 67), .ro false (bytesD d)] [] = some (.ret (leafV 67 (toL d)).d, []) := by
  have hk : kindC 67 = 5 := by decide
  refine (ev_body ⟨[], [], [], true, [], noIt⟩ [.cell 4 27] rfl Tryd.func54 rfl rfl rfl (by kernel_rfl) (by show 2 ≤ 75; decide) (by kernel_rfl)).trans ?_
  simp +contextual (maxSteps := 10000000) only [↓reduceIte, go_sem, Nat.reduceEqDiff, Nat.reduceAdd, Nat.reduceSub, Nat.reduceMul, Nat.reduceLeDiff, Nat.reduceLT, Nat.reduceBEq, Nat.reduceDiv, Nat.reduceMod, Int.reduceLE, Int.reduceLT, Int.reduceEq, Int.reduceBEq, Int.reduceBNe, Int.reduceAdd, Int.reduceSub, Int.reduceNeg, Int.reduceToNat, Int.reduceMul, Int.reducePow, Nat.reducePow, reduceCtorEq, look_kinds mapTk, gl_kinds, hk, number_c]
  rfl
set_option maxHeartbeats 1000000 in
theorem read_68 (d : ByteArray) (h : d.size = 0) : EV 54 [.sc (.int .u8 68), .ro false (bytesD d)] [] = some (.ret (leafV 68 (toL d)).d, []) := by
  have hk : kindC 68 = 6 := by decide
  refine (ev_body ⟨[], [], [], true, [], noIt⟩ [.cell 4 27] rfl Tryd.func54 rfl rfl rfl (by kernel_rfl) (by show 2 ≤ 75; decide) (by kernel_rfl)).trans ?_
  simp +contextual (maxSteps := 10000000) only [↓reduceIte, go_sem, Nat.reduceEqDiff, Nat.reduceAdd, Nat.reduceSub, Nat.reduceMul, Nat.reduceLeDiff, Nat.reduceLT, Nat.reduceBEq, Nat.reduceDiv, Nat.reduceMod, Int.reduceLE, Int.reduceLT, Int.reduceEq, Int.reduceBEq, Int.reduceBNe, Int.reduceAdd, Int.reduceSub, Int.reduceNeg, Int.reduceToNat, Int.reduceMul, Int.reducePow, Nat.reducePow, reduceCtorEq, look_kinds mapTk, gl_kinds, hk, number_c]
  rfl
set_option maxHeartbeats 1000000 in
theorem read_69 (d : ByteArray) (h : d.size = 0) : EV 54 [.sc (.int .u8 69), .ro false (bytesD d)] [] = some (.ret (leafV 69 (toL d)).d, []) := by
  have hk : kindC 69 = 22 := by decide
  refine (ev_body ⟨[], [], [], true, [], noIt⟩ [.cell 4 27] rfl Tryd.func54 rfl rfl rfl (by kernel_rfl) (by show 2 ≤ 75; decide) (by kernel_rfl)).trans ?_
  simp +contextual (maxSteps := 10000000) only [↓reduceIte, go_sem, Nat.reduceEqDiff, Nat.reduceAdd, Nat.reduceSub, Nat.reduceMul, Nat.reduceLeDiff, Nat.reduceLT, Nat.reduceBEq, Nat.reduceDiv, Nat.reduceMod, Int.reduceLE, Int.reduceLT, Int.reduceEq, Int.reduceBEq, Int.reduceBNe, Int.reduceAdd, Int.reduceSub, Int.reduceNeg, Int.reduceToNat, Int.reduceMul, Int.reducePow, Nat.reducePow, reduceCtorEq, look_kinds mapTk, gl_kinds, hk, number_c]
  rfl
set_option maxHeartbeats 1000000 in
theorem read_80 (d : ByteArray) (h : d.size = 1) : EV 54 [.sc (.int .u8 80), .ro false (bytesD d)] [] = some (.ret (leafV 80 (toL d)).d, []) := by
  have hk : kindC 80 = 3 := by decide
  refine (ev_body ⟨[], [], [], true, [], noIt⟩ [.cell 4 27] rfl Tryd.func54 rfl rfl rfl (by kernel_rfl) (by show 2 ≤ 75; decide) (by kernel_rfl)).trans ?_
  have ht := tell_c d (by omega)
  have hb := beN_lt _ (toL d) rfl
  rw [toL_len, h] at hb
  rw [show leafV 80 (toL d) = .mk 3 (beN (toL d)) ⟨#[]⟩ [] from rfl]
  simp +contextual (maxSteps := 10000000) only [↓reduceIte, go_sem, Nat.reduceEqDiff, Nat.reduceAdd, Nat.reduceSub, Nat.reduceMul, Nat.reduceLeDiff, Nat.reduceLT, Nat.reduceBEq, Nat.reduceDiv, Nat.reduceMod, Int.reduceLE, Int.reduceLT, Int.reduceEq, Int.reduceBEq, Int.reduceBNe, Int.reduceAdd, Int.reduceSub, Int.reduceNeg, Int.reduceToNat, Int.reduceMul, Int.reducePow, Nat.reducePow, reduceCtorEq, look_kinds mapTk, gl_kinds, hk, show (Int.fdiv 80 16 == 9) = false from rfl, ht, number_c, h]
set_option maxHeartbeats 1000000 in
theorem read_81 (d : ByteArray) (h : d.size = 1) : EV 54 [.sc (.int .u8 81), .ro false (bytesD d)] [] = some (.ret (leafV 81 (toL d)).d, []) := by
  have hk : kindC 81 = 7 := by decide
  refine (ev_body ⟨[], [], [], true, [], noIt⟩ [.cell 4 27] rfl Tryd.func54 rfl rfl rfl (by kernel_rfl) (by show 2 ≤ 75; decide) (by kernel_rfl)).trans ?_
  have ht := tell_c d (by omega)
  have hb := beN_lt _ (toL d) rfl
  rw [toL_len, h] at hb
  have hsg := sgn_1 (beN (toL d)) (by omega) (by omega)
  rw [show leafV 81 (toL d) = .mk 7 (sgnX (beN (toL d)) (toL d).length) ⟨#[]⟩ [] from rfl, toL_len, h]
  obtain ⟨S, hS⟩ : ∃ S, sgnX (beN (toL d)) 1 = S := ⟨_, rfl⟩
  rw [hS] at hsg ⊢
  simp +contextual (maxSteps := 10000000) only [↓reduceIte, go_sem, Nat.reduceEqDiff, Nat.reduceAdd, Nat.reduceSub, Nat.reduceMul, Nat.reduceLeDiff, Nat.reduceLT, Nat.reduceBEq, Nat.reduceDiv, Nat.reduceMod, Int.reduceLE, Int.reduceLT, Int.reduceEq, Int.reduceBEq, Int.reduceBNe, Int.reduceAdd, Int.reduceSub, Int.reduceNeg, Int.reduceToNat, Int.reduceMul, Int.reducePow, Nat.reducePow, reduceCtorEq, look_kinds mapTk, gl_kinds, hk, show (Int.fdiv 81 16 == 9) = false from rfl, ht, number_c, h, hsg]
set_option maxHeartbeats 1000000 in
theorem read_82 (d : ByteArray) (h : d.size = 1) : EV 54 [.sc (.int .u8 82), .ro false (bytesD d)] [] = some (.ret (leafV 82 (toL d)).d, []) := by
  have hk : kindC 82 = 5 := by decide
  refine (ev_body ⟨[], [], [], true, [], noIt⟩ [.cell 4 27] rfl Tryd.func54 rfl rfl rfl (by kernel_rfl) (by show 2 ≤ 75; decide) (by kernel_rfl)).trans ?_
  have ht := tell_c d (by omega)
  have hb := beN_lt _ (toL d) rfl
  rw [toL_len, h] at hb
  rw [show leafV 82 (toL d) = .mk 5 (beN (toL d)) ⟨#[]⟩ [] from rfl]
  simp +contextual (maxSteps := 10000000) only [↓reduceIte, go_sem, Nat.reduceEqDiff, Nat.reduceAdd, Nat.reduceSub, Nat.reduceMul, Nat.reduceLeDiff, Nat.reduceLT, Nat.reduceBEq, Nat.reduceDiv, Nat.reduceMod, Int.reduceLE, Int.reduceLT, Int.reduceEq, Int.reduceBEq, Int.reduceBNe, Int.reduceAdd, Int.reduceSub, Int.reduceNeg, Int.reduceToNat, Int.reduceMul, Int.reducePow, Nat.reducePow, reduceCtorEq, look_kinds mapTk, gl_kinds, hk, show (Int.fdiv 82 16 == 9) = false from rfl, ht, number_c, h]
set_option maxHeartbeats 1000000 in
theorem read_83 (d : ByteArray) (h : d.size = 1) : EV 54 [.sc (.int .u8 83), .ro false (bytesD d)] [] = some (.ret (leafV 83 (toL d)).d, []) := by
  have hk : kindC 83 = 6 := by decide
  refine (ev_body ⟨[], [], [], true, [], noIt⟩ [.cell 4 27] rfl Tryd.func54 rfl rfl rfl (by kernel_rfl) (by show 2 ≤ 75; decide) (by kernel_rfl)).trans ?_
  have ht := tell_c d (by omega)
  have hb := beN_lt _ (toL d) rfl
  rw [toL_len, h] at hb
  rw [show leafV 83 (toL d) = .mk 6 (beN (toL d)) ⟨#[]⟩ [] from rfl]
  simp +contextual (maxSteps := 10000000) only [↓reduceIte, go_sem, Nat.reduceEqDiff, Nat.reduceAdd, Nat.reduceSub, Nat.reduceMul, Nat.reduceLeDiff, Nat.reduceLT, Nat.reduceBEq, Nat.reduceDiv, Nat.reduceMod, Int.reduceLE, Int.reduceLT, Int.reduceEq, Int.reduceBEq, Int.reduceBNe, Int.reduceAdd, Int.reduceSub, Int.reduceNeg, Int.reduceToNat, Int.reduceMul, Int.reducePow, Nat.reducePow, reduceCtorEq, look_kinds mapTk, gl_kinds, hk, show (Int.fdiv 83 16 == 9) = false from rfl, ht, number_c, h]
set_option maxHeartbeats 1000000 in
theorem read_84 (d : ByteArray) (h : d.size = 1) : EV 54 [.sc (.int .u8 84), .ro false (bytesD d)] [] = some (.ret (leafV 84 (toL d)).d, []) := by
  have hk : kindC 84 = 9 := by decide
  refine (ev_body ⟨[], [], [], true, [], noIt⟩ [.cell 4 27] rfl Tryd.func54 rfl rfl rfl (by kernel_rfl) (by show 2 ≤ 75; decide) (by kernel_rfl)).trans ?_
  have ht := tell_c d (by omega)
  have hb := beN_lt _ (toL d) rfl
  rw [toL_len, h] at hb
  have hsg := sgn_1 (beN (toL d)) (by omega) (by omega)
  rw [show leafV 84 (toL d) = .mk 9 (sgnX (beN (toL d)) (toL d).length) ⟨#[]⟩ [] from rfl, toL_len, h]
  obtain ⟨S, hS⟩ : ∃ S, sgnX (beN (toL d)) 1 = S := ⟨_, rfl⟩
  rw [hS] at hsg ⊢
  simp +contextual (maxSteps := 10000000) only [↓reduceIte, go_sem, Nat.reduceEqDiff, Nat.reduceAdd, Nat.reduceSub, Nat.reduceMul, Nat.reduceLeDiff, Nat.reduceLT, Nat.reduceBEq, Nat.reduceDiv, Nat.reduceMod, Int.reduceLE, Int.reduceLT, Int.reduceEq, Int.reduceBEq, Int.reduceBNe, Int.reduceAdd, Int.reduceSub, Int.reduceNeg, Int.reduceToNat, Int.reduceMul, Int.reducePow, Nat.reducePow, reduceCtorEq, look_kinds mapTk, gl_kinds, hk, show (Int.fdiv 84 16 == 9) = false from rfl, ht, number_c, h, hsg]
set_option maxHeartbeats 1000000 in
theorem read_85 (d : ByteArray) (h : d.size = 1) : EV 54 [.sc (.int .u8 85), .ro false (bytesD d)] [] = some (.ret (leafV 85 (toL d)).d, []) := by
  have hk : kindC 85 = 10 := by decide
  refine (ev_body ⟨[], [], [], true, [], noIt⟩ [.cell 4 27] rfl Tryd.func54 rfl rfl rfl (by kernel_rfl) (by show 2 ≤ 75; decide) (by kernel_rfl)).trans ?_
  have ht := tell_c d (by omega)
  have hb := beN_lt _ (toL d) rfl
  rw [toL_len, h] at hb
  have hsg := sgn_1 (beN (toL d)) (by omega) (by omega)
  rw [show leafV 85 (toL d) = .mk 10 (sgnX (beN (toL d)) (toL d).length) ⟨#[]⟩ [] from rfl, toL_len, h]
  obtain ⟨S, hS⟩ : ∃ S, sgnX (beN (toL d)) 1 = S := ⟨_, rfl⟩
  rw [hS] at hsg ⊢
  simp +contextual (maxSteps := 10000000) only [↓reduceIte, go_sem, Nat.reduceEqDiff, Nat.reduceAdd, Nat.reduceSub, Nat.reduceMul, Nat.reduceLeDiff, Nat.reduceLT, Nat.reduceBEq, Nat.reduceDiv, Nat.reduceMod, Int.reduceLE, Int.reduceLT, Int.reduceEq, Int.reduceBEq, Int.reduceBNe, Int.reduceAdd, Int.reduceSub, Int.reduceNeg, Int.reduceToNat, Int.reduceMul, Int.reducePow, Nat.reducePow, reduceCtorEq, look_kinds mapTk, gl_kinds, hk, show (Int.fdiv 85 16 == 9) = false from rfl, ht, number_c, h, hsg]
set_option maxHeartbeats 1000000 in
theorem read_86 (d : ByteArray) (h : d.size = 1) : EV 54 [.sc (.int .u8 86), .ro false (bytesD d)] [] = some (.ret (leafV 86 (toL d)).d, []) := by
  have hk : kindC 86 = 2 := by decide
  refine (ev_body ⟨[], [], [], true, [], noIt⟩ [.cell 4 27] rfl Tryd.func54 rfl rfl rfl (by kernel_rfl) (by show 2 ≤ 75; decide) (by kernel_rfl)).trans ?_
  have ht := tell_c d (by omega)
  have hb := beN_lt _ (toL d) rfl
  rw [toL_len, h] at hb
  rw [show leafV 86 (toL d) = .mk 2 (beN (toL d)) ⟨#[]⟩ [] from rfl]
  simp +contextual (maxSteps := 10000000) only [↓reduceIte, go_sem, Nat.reduceEqDiff, Nat.reduceAdd, Nat.reduceSub, Nat.reduceMul, Nat.reduceLeDiff, Nat.reduceLT, Nat.reduceBEq, Nat.reduceDiv, Nat.reduceMod, Int.reduceLE, Int.reduceLT, Int.reduceEq, Int.reduceBEq, Int.reduceBNe, Int.reduceAdd, Int.reduceSub, Int.reduceNeg, Int.reduceToNat, Int.reduceMul, Int.reducePow, Nat.reducePow, reduceCtorEq, look_kinds mapTk, gl_kinds, hk, show (Int.fdiv 86 16 == 9) = false from rfl, ht, number_c, h]
set_option maxHeartbeats 1000000 in
theorem read_96 (d : ByteArray) (h : d.size = 2) : EV 54 [.sc (.int .u8 96), .ro false (bytesD d)] [] = some (.ret (leafV 96 (toL d)).d, []) := by
  have hk : kindC 96 = 4 := by decide
  refine (ev_body ⟨[], [], [], true, [], noIt⟩ [.cell 4 27] rfl Tryd.func54 rfl rfl rfl (by kernel_rfl) (by show 2 ≤ 75; decide) (by kernel_rfl)).trans ?_
  have ht := tell_c d (by omega)
  have hb := beN_lt _ (toL d) rfl
  rw [toL_len, h] at hb
  rw [show leafV 96 (toL d) = .mk 4 (beN (toL d)) ⟨#[]⟩ [] from rfl]
  simp +contextual (maxSteps := 10000000) only [↓reduceIte, go_sem, Nat.reduceEqDiff, Nat.reduceAdd, Nat.reduceSub, Nat.reduceMul, Nat.reduceLeDiff, Nat.reduceLT, Nat.reduceBEq, Nat.reduceDiv, Nat.reduceMod, Int.reduceLE, Int.reduceLT, Int.reduceEq, Int.reduceBEq, Int.reduceBNe, Int.reduceAdd, Int.reduceSub, Int.reduceNeg, Int.reduceToNat, Int.reduceMul, Int.reducePow, Nat.reducePow, reduceCtorEq, look_kinds mapTk, gl_kinds, hk, show (Int.fdiv 96 16 == 9) = false from rfl, ht, number_c, h]
set_option maxHeartbeats 1000000 in
theorem read_97 (d : ByteArray) (h : d.size = 2) : EV 54 [.sc (.int .u8 97), .ro false (bytesD d)] [] = some (.ret (leafV 97 (toL d)).d, []) := by
  have hk : kindC 97 = 8 := by decide
  refine (ev_body ⟨[], [], [], true, [], noIt⟩ [.cell 4 27] rfl Tryd.func54 rfl rfl rfl (by kernel_rfl) (by show 2 ≤ 75; decide) (by kernel_rfl)).trans ?_
  have ht := tell_c d (by omega)
  have hb := beN_lt _ (toL d) rfl
  rw [toL_len, h] at hb
  have hsg := sgn_2 (beN (toL d)) (by omega) (by omega)
  rw [show leafV 97 (toL d) = .mk 8 (sgnX (beN (toL d)) (toL d).length) ⟨#[]⟩ [] from rfl, toL_len, h]
  obtain ⟨S, hS⟩ : ∃ S, sgnX (beN (toL d)) 2 = S := ⟨_, rfl⟩
  rw [hS] at hsg ⊢
  simp +contextual (maxSteps := 10000000) only [↓reduceIte, go_sem, Nat.reduceEqDiff, Nat.reduceAdd, Nat.reduceSub, Nat.reduceMul, Nat.reduceLeDiff, Nat.reduceLT, Nat.reduceBEq, Nat.reduceDiv, Nat.reduceMod, Int.reduceLE, Int.reduceLT, Int.reduceEq, Int.reduceBEq, Int.reduceBNe, Int.reduceAdd, Int.reduceSub, Int.reduceNeg, Int.reduceToNat, Int.reduceMul, Int.reducePow, Nat.reducePow, reduceCtorEq, look_kinds mapTk, gl_kinds, hk, show (Int.fdiv 97 16 == 9) = false from rfl, ht, number_c, h, hsg]
set_option maxHeartbeats 1000000 in
theorem read_112 (d : ByteArray) (h : d.size = 4) : EV 54 [.sc (.int .u8 112), .ro false (bytesD d)] [] = some (.ret (leafV 112 (toL d)).d, []) := by
  have hk : kindC 112 = 5 := by decide
  refine (ev_body ⟨[], [], [], true, [], noIt⟩ [.cell 4 27] rfl Tryd.func54 rfl rfl rfl (by kernel_rfl) (by show 2 ≤ 75; decide) (by kernel_rfl)).trans ?_
  have ht := tell_c d (by omega)
  have hb := beN_lt _ (toL d) rfl
  rw [toL_len, h] at hb
  rw [show leafV 112 (toL d) = .mk 5 (beN (toL d)) ⟨#[]⟩ [] from rfl]
  simp +contextual (maxSteps := 10000000) only [↓reduceIte, go_sem, Nat.reduceEqDiff, Nat.reduceAdd, Nat.reduceSub, Nat.reduceMul, Nat.reduceLeDiff, Nat.reduceLT, Nat.reduceBEq, Nat.reduceDiv, Nat.reduceMod, Int.reduceLE, Int.reduceLT, Int.reduceEq, Int.reduceBEq, Int.reduceBNe, Int.reduceAdd, Int.reduceSub, Int.reduceNeg, Int.reduceToNat, Int.reduceMul, Int.reducePow, Nat.reducePow, reduceCtorEq, look_kinds mapTk, gl_kinds, hk, show (Int.fdiv 112 16 == 9) = false from rfl, ht, number_c, h]
set_option maxHeartbeats 1000000 in
theorem read_113 (d : ByteArray) (h : d.size = 4) : EV 54 [.sc (.int .u8 113), .ro false (bytesD d)] [] = some (.ret (leafV 113 (toL d)).d, []) := by
  have hk : kindC 113 = 9 := by decide
  refine (ev_body ⟨[], [], [], true, [], noIt⟩ [.cell 4 27] rfl Tryd.func54 rfl rfl rfl (by kernel_rfl) (by show 2 ≤ 75; decide) (by kernel_rfl)).trans ?_
  have ht := tell_c d (by omega)
  have hb := beN_lt _ (toL d) rfl
  rw [toL_len, h] at hb
  have hsg := sgn_4 (beN (toL d)) (by omega) (by omega)
  rw [show leafV 113 (toL d) = .mk 9 (sgnX (beN (toL d)) (toL d).length) ⟨#[]⟩ [] from rfl, toL_len, h]
  obtain ⟨S, hS⟩ : ∃ S, sgnX (beN (toL d)) 4 = S := ⟨_, rfl⟩
  rw [hS] at hsg ⊢
  simp +contextual (maxSteps := 10000000) only [↓reduceIte, go_sem, Nat.reduceEqDiff, Nat.reduceAdd, Nat.reduceSub, Nat.reduceMul, Nat.reduceLeDiff, Nat.reduceLT, Nat.reduceBEq, Nat.reduceDiv, Nat.reduceMod, Int.reduceLE, Int.reduceLT, Int.reduceEq, Int.reduceBEq, Int.reduceBNe, Int.reduceAdd, Int.reduceSub, Int.reduceNeg, Int.reduceToNat, Int.reduceMul, Int.reducePow, Nat.reducePow, reduceCtorEq, look_kinds mapTk, gl_kinds, hk, show (Int.fdiv 113 16 == 9) = false from rfl, ht, number_c, h, hsg]
set_option maxHeartbeats 1000000 in
theorem read_114 (d : ByteArray) (h : d.size = 4) : EV 54 [.sc (.int .u8 114), .ro false (bytesD d)] [] = some (.ret (leafV 114 (toL d)).d, []) := by
  have hk : kindC 114 = 11 := by decide
  refine (ev_body ⟨[], [], [], true, [], noIt⟩ [.cell 4 27] rfl Tryd.func54 rfl rfl rfl (by kernel_rfl) (by show 2 ≤ 75; decide) (by kernel_rfl)).trans ?_
  have ht := tell_c d (by omega)
  have hb := beN_lt _ (toL d) rfl
  rw [toL_len, h] at hb
  rw [show leafV 114 (toL d) = .mk 11 (beN (toL d)) ⟨#[]⟩ [] from rfl]
  simp +contextual (maxSteps := 10000000) only [↓reduceIte, go_sem, Nat.reduceEqDiff, Nat.reduceAdd, Nat.reduceSub, Nat.reduceMul, Nat.reduceLeDiff, Nat.reduceLT, Nat.reduceBEq, Nat.reduceDiv, Nat.reduceMod, Int.reduceLE, Int.reduceLT, Int.reduceEq, Int.reduceBEq, Int.reduceBNe, Int.reduceAdd, Int.reduceSub, Int.reduceNeg, Int.reduceToNat, Int.reduceMul, Int.reducePow, Nat.reducePow, reduceCtorEq, look_kinds mapTk, gl_kinds, hk, show (Int.fdiv 114 16 == 9) = false from rfl, ht, number_c, h]
set_option maxHeartbeats 1000000 in
theorem read_115 (d : ByteArray) (h : d.size = 4) : EV 54 [.sc (.int .u8 115), .ro false (bytesD d)] [] = some (.ret (leafV 115 (toL d)).d, []) := by
  have hk : kindC 115 = 13 := by decide
  refine (ev_body ⟨[], [], [], true, [], noIt⟩ [.cell 4 27] rfl Tryd.func54 rfl rfl rfl (by kernel_rfl) (by show 2 ≤ 75; decide) (by kernel_rfl)).trans ?_
  have ht := tell_c d (by omega)
  have hb := beN_lt _ (toL d) rfl
  rw [toL_len, h] at hb
  rw [show leafV 115 (toL d) = .mk 13 (beN (toL d)) ⟨#[]⟩ [] from rfl]
  simp +contextual (maxSteps := 10000000) only [↓reduceIte, go_sem, Nat.reduceEqDiff, Nat.reduceAdd, Nat.reduceSub, Nat.reduceMul, Nat.reduceLeDiff, Nat.reduceLT, Nat.reduceBEq, Nat.reduceDiv, Nat.reduceMod, Int.reduceLE, Int.reduceLT, Int.reduceEq, Int.reduceBEq, Int.reduceBNe, Int.reduceAdd, Int.reduceSub, Int.reduceNeg, Int.reduceToNat, Int.reduceMul, Int.reducePow, Nat.reducePow, reduceCtorEq, look_kinds mapTk, gl_kinds, hk, show (Int.fdiv 115 16 == 9) = false from rfl, ht, number_c, h]
set_option maxHeartbeats 1000000 in
theorem read_116 (d : ByteArray) (h : d.size = 4) : EV 54 [.sc (.int .u8 116), .ro false (bytesD d)] [] = some (.ret (leafV 116 (toL d)).d, []) := by
  have hk : kindC 116 = 16 := by decide
  refine (ev_body ⟨[], [], [], true, [], noIt⟩ [.cell 4 27] rfl Tryd.func54 rfl rfl rfl (by kernel_rfl) (by show 2 ≤ 75; decide) (by kernel_rfl)).trans ?_
  simp +contextual (maxSteps := 10000000) only [↓reduceIte, go_sem, Nat.reduceEqDiff, Nat.reduceAdd, Nat.reduceSub, Nat.reduceMul, Nat.reduceLeDiff, Nat.reduceLT, Nat.reduceBEq, Nat.reduceDiv, Nat.reduceMod, Int.reduceLE, Int.reduceLT, Int.reduceEq, Int.reduceBEq, Int.reduceBNe, Int.reduceAdd, Int.reduceSub, Int.reduceNeg, Int.reduceToNat, Int.reduceMul, Int.reducePow, Nat.reducePow, reduceCtorEq, look_kinds mapTk, gl_kinds, hk, show (Int.fdiv 116 16 == 9) = false from rfl, text_c]
  rw [show leafV 116 (toL d) = .mk 16 0 (mkT (toL d)) [] from rfl, mkT_toL]
set_option maxHeartbeats 1000000 in
theorem read_128 (d : ByteArray) (h : d.size = 8) : EV 54 [.sc (.int .u8 128), .ro false (bytesD d)] [] = some (.ret (leafV 128 (toL d)).d, []) := by
  have hk : kindC 128 = 6 := by decide
  refine (ev_body ⟨[], [], [], true, [], noIt⟩ [.cell 4 27] rfl Tryd.func54 rfl rfl rfl (by kernel_rfl) (by show 2 ≤ 75; decide) (by kernel_rfl)).trans ?_
  have ht := tell_c d (by omega)
  have hb := beN_lt _ (toL d) rfl
  rw [toL_len, h] at hb
  rw [show leafV 128 (toL d) = .mk 6 (beN (toL d)) ⟨#[]⟩ [] from rfl]
  simp +contextual (maxSteps := 10000000) only [↓reduceIte, go_sem, Nat.reduceEqDiff, Nat.reduceAdd, Nat.reduceSub, Nat.reduceMul, Nat.reduceLeDiff, Nat.reduceLT, Nat.reduceBEq, Nat.reduceDiv, Nat.reduceMod, Int.reduceLE, Int.reduceLT, Int.reduceEq, Int.reduceBEq, Int.reduceBNe, Int.reduceAdd, Int.reduceSub, Int.reduceNeg, Int.reduceToNat, Int.reduceMul, Int.reducePow, Nat.reducePow, reduceCtorEq, look_kinds mapTk, gl_kinds, hk, show (Int.fdiv 128 16 == 9) = false from rfl, ht, number_c, h]
set_option maxHeartbeats 1000000 in
theorem read_129 (d : ByteArray) (h : d.size = 8) : EV 54 [.sc (.int .u8 129), .ro false (bytesD d)] [] = some (.ret (leafV 129 (toL d)).d, []) := by
  have hk : kindC 129 = 10 := by decide
  refine (ev_body ⟨[], [], [], true, [], noIt⟩ [.cell 4 27] rfl Tryd.func54 rfl rfl rfl (by kernel_rfl) (by show 2 ≤ 75; decide) (by kernel_rfl)).trans ?_
  have ht := tell_c d (by omega)
  have hb := beN_lt _ (toL d) rfl
  rw [toL_len, h] at hb
  have hsg := sgn_8 (beN (toL d)) 
  rw [show leafV 129 (toL d) = .mk 10 (sgnX (beN (toL d)) (toL d).length) ⟨#[]⟩ [] from rfl, toL_len, h, show sgnX (beN (toL d)) 8 = beN (toL d) from rfl]
  simp +contextual (maxSteps := 10000000) only [↓reduceIte, go_sem, Nat.reduceEqDiff, Nat.reduceAdd, Nat.reduceSub, Nat.reduceMul, Nat.reduceLeDiff, Nat.reduceLT, Nat.reduceBEq, Nat.reduceDiv, Nat.reduceMod, Int.reduceLE, Int.reduceLT, Int.reduceEq, Int.reduceBEq, Int.reduceBNe, Int.reduceAdd, Int.reduceSub, Int.reduceNeg, Int.reduceToNat, Int.reduceMul, Int.reducePow, Nat.reducePow, reduceCtorEq, look_kinds mapTk, gl_kinds, hk, show (Int.fdiv 129 16 == 9) = false from rfl, ht, number_c, h, hsg]
set_option maxHeartbeats 1000000 in
theorem read_130 (d : ByteArray) (h : d.size = 8) : EV 54 [.sc (.int .u8 130), .ro false (bytesD d)] [] = some (.ret (leafV 130 (toL d)).d, []) := by
  have hk : kindC 130 = 12 := by decide
  refine (ev_body ⟨[], [], [], true, [], noIt⟩ [.cell 4 27] rfl Tryd.func54 rfl rfl rfl (by kernel_rfl) (by show 2 ≤ 75; decide) (by kernel_rfl)).trans ?_
  have ht := tell_c d (by omega)
  have hb := beN_lt _ (toL d) rfl
  rw [toL_len, h] at hb
  rw [show leafV 130 (toL d) = .mk 12 (beN (toL d)) ⟨#[]⟩ [] from rfl]
  simp +contextual (maxSteps := 10000000) only [↓reduceIte, go_sem, Nat.reduceEqDiff, Nat.reduceAdd, Nat.reduceSub, Nat.reduceMul, Nat.reduceLeDiff, Nat.reduceLT, Nat.reduceBEq, Nat.reduceDiv, Nat.reduceMod, Int.reduceLE, Int.reduceLT, Int.reduceEq, Int.reduceBEq, Int.reduceBNe, Int.reduceAdd, Int.reduceSub, Int.reduceNeg, Int.reduceToNat, Int.reduceMul, Int.reducePow, Nat.reducePow, reduceCtorEq, look_kinds mapTk, gl_kinds, hk, show (Int.fdiv 130 16 == 9) = false from rfl, ht, number_c, h]
set_option maxHeartbeats 1000000 in
theorem read_131 (d : ByteArray) (h : d.size = 8) : EV 54 [.sc (.int .u8 131), .ro false (bytesD d)] [] = some (.ret (leafV 131 (toL d)).d, []) := by
  have hk : kindC 131 = 14 := by decide
  refine (ev_body ⟨[], [], [], true, [], noIt⟩ [.cell 4 27] rfl Tryd.func54 rfl rfl rfl (by kernel_rfl) (by show 2 ≤ 75; decide) (by kernel_rfl)).trans ?_
  have ht := tell_c d (by omega)
  have hb := beN_lt _ (toL d) rfl
  rw [toL_len, h] at hb
  have hsg := sgn_8 (beN (toL d)) 
  rw [show leafV 131 (toL d) = .mk 14 (sgnX (beN (toL d)) (toL d).length) ⟨#[]⟩ [] from rfl, toL_len, h, show sgnX (beN (toL d)) 8 = beN (toL d) from rfl]
  simp +contextual (maxSteps := 10000000) only [↓reduceIte, go_sem, Nat.reduceEqDiff, Nat.reduceAdd, Nat.reduceSub, Nat.reduceMul, Nat.reduceLeDiff, Nat.reduceLT, Nat.reduceBEq, Nat.reduceDiv, Nat.reduceMod, Int.reduceLE, Int.reduceLT, Int.reduceEq, Int.reduceBEq, Int.reduceBNe, Int.reduceAdd, Int.reduceSub, Int.reduceNeg, Int.reduceToNat, Int.reduceMul, Int.reducePow, Nat.reducePow, reduceCtorEq, look_kinds mapTk, gl_kinds, hk, show (Int.fdiv 131 16 == 9) = false from rfl, ht, number_c, h, hsg]
set_option maxHeartbeats 1000000 in
theorem read_132 (d : ByteArray) (h : d.size = 8) : EV 54 [.sc (.int .u8 132), .ro false (bytesD d)] [] = some (.ret (leafV 132 (toL d)).d, []) := by
  have hk : kindC 132 = 17 := by decide
  refine (ev_body ⟨[], [], [], true, [], noIt⟩ [.cell 4 27] rfl Tryd.func54 rfl rfl rfl (by kernel_rfl) (by show 2 ≤ 75; decide) (by kernel_rfl)).trans ?_
  simp +contextual (maxSteps := 10000000) only [↓reduceIte, go_sem, Nat.reduceEqDiff, Nat.reduceAdd, Nat.reduceSub, Nat.reduceMul, Nat.reduceLeDiff, Nat.reduceLT, Nat.reduceBEq, Nat.reduceDiv, Nat.reduceMod, Int.reduceLE, Int.reduceLT, Int.reduceEq, Int.reduceBEq, Int.reduceBNe, Int.reduceAdd, Int.reduceSub, Int.reduceNeg, Int.reduceToNat, Int.reduceMul, Int.reducePow, Nat.reducePow, reduceCtorEq, look_kinds mapTk, gl_kinds, hk, show (Int.fdiv 132 16 == 9) = false from rfl, text_c]
  rw [show leafV 132 (toL d) = .mk 17 0 (mkT (toL d)) [] from rfl, mkT_toL]
set_option maxHeartbeats 1000000 in
theorem read_148 (d : ByteArray) (h : d.size = 16) : EV 54 [.sc (.int .u8 148), .ro false (bytesD d)] [] = some (.ret (leafV 148 (toL d)).d, []) := by
  have hk : kindC 148 = 18 := by decide
  refine (ev_body ⟨[], [], [], true, [], noIt⟩ [.cell 4 27] rfl Tryd.func54 rfl rfl rfl (by kernel_rfl) (by show 2 ≤ 75; decide) (by kernel_rfl)).trans ?_
  simp +contextual (maxSteps := 10000000) only [↓reduceIte, go_sem, Nat.reduceEqDiff, Nat.reduceAdd, Nat.reduceSub, Nat.reduceMul, Nat.reduceLeDiff, Nat.reduceLT, Nat.reduceBEq, Nat.reduceDiv, Nat.reduceMod, Int.reduceLE, Int.reduceLT, Int.reduceEq, Int.reduceBEq, Int.reduceBNe, Int.reduceAdd, Int.reduceSub, Int.reduceNeg, Int.reduceToNat, Int.reduceMul, Int.reducePow, Nat.reducePow, reduceCtorEq, look_kinds mapTk, gl_kinds, hk, show (Int.fdiv 148 16 == 9) = true from rfl, text_c]
  rw [show leafV 148 (toL d) = .mk 18 0 (mkT (toL d)) [] from rfl, mkT_toL]
set_option maxHeartbeats 1000000 in
theorem read_152 (d : ByteArray) (h : d.size = 16) : EV 54 [.sc (.int .u8 152), .ro false (bytesD d)] [] = some (.ret (leafV 152 (toL d)).d, []) := by
  have hk : kindC 152 = 15 := by decide
  refine (ev_body ⟨[], [], [], true, [], noIt⟩ [.cell 4 27] rfl Tryd.func54 rfl rfl rfl (by kernel_rfl) (by show 2 ≤ 75; decide) (by kernel_rfl)).trans ?_
  simp +contextual (maxSteps := 10000000) only [↓reduceIte, go_sem, Nat.reduceEqDiff, Nat.reduceAdd, Nat.reduceSub, Nat.reduceMul, Nat.reduceLeDiff, Nat.reduceLT, Nat.reduceBEq, Nat.reduceDiv, Nat.reduceMod, Int.reduceLE, Int.reduceLT, Int.reduceEq, Int.reduceBEq, Int.reduceBNe, Int.reduceAdd, Int.reduceSub, Int.reduceNeg, Int.reduceToNat, Int.reduceMul, Int.reducePow, Nat.reducePow, reduceCtorEq, look_kinds mapTk, gl_kinds, hk, show (Int.fdiv 152 16 == 9) = true from rfl, text_c]
  rw [show leafV 152 (toL d) = .mk 15 0 (mkT (toL d)) [] from rfl, mkT_toL]
set_option maxHeartbeats 1000000 in
theorem read_160 (d : ByteArray) (h : 1 ≤ d.size) (hs : d.size ≤ 100000000) : EV 54 [.sc (.int .u8 160), .ro false (bytesD d)] [] = some (.ret (leafV 160 (toL d)).d, []) := by
  have hk : kindC 160 = 19 := by decide
  refine (ev_body ⟨[], [], [], true, [], noIt⟩ [.cell 4 27] rfl Tryd.func54 rfl rfl rfl (by kernel_rfl) (by show 2 ≤ 75; decide) (by kernel_rfl)).trans ?_
  have hw := wide_c 160 (by decide) (by decide)
  rw [show wideC 160 = 1 from rfl] at hw
  simp only [Int.cast_ofNat_Int] at hw
  simp +contextual (maxSteps := 10000000) only [↓reduceIte, go_sem, Nat.reduceEqDiff, Nat.reduceAdd, Nat.reduceSub, Nat.reduceMul, Nat.reduceLeDiff, Nat.reduceLT, Nat.reduceBEq, Nat.reduceDiv, Nat.reduceMod, Int.reduceLE, Int.reduceLT, Int.reduceEq, Int.reduceBEq, Int.reduceBNe, Int.reduceAdd, Int.reduceSub, Int.reduceNeg, Int.reduceToNat, Int.reduceMul, Int.reducePow, Nat.reducePow, reduceCtorEq, look_kinds mapTk, gl_kinds, hk, show (Int.fdiv 160 16 == 9) = false from rfl, text_c, hw, show (1 ≤ d.size) = True from eq_true h, all1, dropB d 1 h, List.take_of_length_le (Nat.le_of_eq (bytesD_len d))]
  rfl
set_option maxHeartbeats 1000000 in
theorem read_161 (d : ByteArray) (h : 1 ≤ d.size) (hs : d.size ≤ 100000000) : EV 54 [.sc (.int .u8 161), .ro false (bytesD d)] [] = some (.ret (leafV 161 (toL d)).d, []) := by
  have hk : kindC 161 = 20 := by decide
  refine (ev_body ⟨[], [], [], true, [], noIt⟩ [.cell 4 27] rfl Tryd.func54 rfl rfl rfl (by kernel_rfl) (by show 2 ≤ 75; decide) (by kernel_rfl)).trans ?_
  have hw := wide_c 161 (by decide) (by decide)
  rw [show wideC 161 = 1 from rfl] at hw
  simp only [Int.cast_ofNat_Int] at hw
  simp +contextual (maxSteps := 10000000) only [↓reduceIte, go_sem, Nat.reduceEqDiff, Nat.reduceAdd, Nat.reduceSub, Nat.reduceMul, Nat.reduceLeDiff, Nat.reduceLT, Nat.reduceBEq, Nat.reduceDiv, Nat.reduceMod, Int.reduceLE, Int.reduceLT, Int.reduceEq, Int.reduceBEq, Int.reduceBNe, Int.reduceAdd, Int.reduceSub, Int.reduceNeg, Int.reduceToNat, Int.reduceMul, Int.reducePow, Nat.reducePow, reduceCtorEq, look_kinds mapTk, gl_kinds, hk, show (Int.fdiv 161 16 == 9) = false from rfl, text_c, hw, show (1 ≤ d.size) = True from eq_true h, all1, dropB d 1 h, List.take_of_length_le (Nat.le_of_eq (bytesD_len d))]
  rfl
set_option maxHeartbeats 1000000 in
theorem read_163 (d : ByteArray) (h : 1 ≤ d.size) (hs : d.size ≤ 100000000) : EV 54 [.sc (.int .u8 163), .ro false (bytesD d)] [] = some (.ret (leafV 163 (toL d)).d, []) := by
  have hk : kindC 163 = 21 := by decide
  refine (ev_body ⟨[], [], [], true, [], noIt⟩ [.cell 4 27] rfl Tryd.func54 rfl rfl rfl (by kernel_rfl) (by show 2 ≤ 75; decide) (by kernel_rfl)).trans ?_
  have hw := wide_c 163 (by decide) (by decide)
  rw [show wideC 163 = 1 from rfl] at hw
  simp only [Int.cast_ofNat_Int] at hw
  simp +contextual (maxSteps := 10000000) only [↓reduceIte, go_sem, Nat.reduceEqDiff, Nat.reduceAdd, Nat.reduceSub, Nat.reduceMul, Nat.reduceLeDiff, Nat.reduceLT, Nat.reduceBEq, Nat.reduceDiv, Nat.reduceMod, Int.reduceLE, Int.reduceLT, Int.reduceEq, Int.reduceBEq, Int.reduceBNe, Int.reduceAdd, Int.reduceSub, Int.reduceNeg, Int.reduceToNat, Int.reduceMul, Int.reducePow, Nat.reducePow, reduceCtorEq, look_kinds mapTk, gl_kinds, hk, show (Int.fdiv 163 16 == 9) = false from rfl, text_c, hw, show (1 ≤ d.size) = True from eq_true h, all1, dropB d 1 h, List.take_of_length_le (Nat.le_of_eq (bytesD_len d))]
  rfl
set_option maxHeartbeats 1000000 in
theorem read_176 (d : ByteArray) (h : 4 ≤ d.size) (hs : d.size ≤ 100000000) : EV 54 [.sc (.int .u8 176), .ro false (bytesD d)] [] = some (.ret (leafV 176 (toL d)).d, []) := by
  have hk : kindC 176 = 19 := by decide
  refine (ev_body ⟨[], [], [], true, [], noIt⟩ [.cell 4 27] rfl Tryd.func54 rfl rfl rfl (by kernel_rfl) (by show 2 ≤ 75; decide) (by kernel_rfl)).trans ?_
  have hw := wide_c 176 (by decide) (by decide)
  rw [show wideC 176 = 4 from rfl] at hw
  simp only [Int.cast_ofNat_Int] at hw
  simp +contextual (maxSteps := 10000000) only [↓reduceIte, go_sem, Nat.reduceEqDiff, Nat.reduceAdd, Nat.reduceSub, Nat.reduceMul, Nat.reduceLeDiff, Nat.reduceLT, Nat.reduceBEq, Nat.reduceDiv, Nat.reduceMod, Int.reduceLE, Int.reduceLT, Int.reduceEq, Int.reduceBEq, Int.reduceBNe, Int.reduceAdd, Int.reduceSub, Int.reduceNeg, Int.reduceToNat, Int.reduceMul, Int.reducePow, Nat.reducePow, reduceCtorEq, look_kinds mapTk, gl_kinds, hk, show (Int.fdiv 176 16 == 9) = false from rfl, text_c, hw, show (4 ≤ d.size) = True from eq_true h, all1, dropB d 4 h, List.take_of_length_le (Nat.le_of_eq (bytesD_len d))]
  rfl
set_option maxHeartbeats 1000000 in
theorem read_177 (d : ByteArray) (h : 4 ≤ d.size) (hs : d.size ≤ 100000000) : EV 54 [.sc (.int .u8 177), .ro false (bytesD d)] [] = some (.ret (leafV 177 (toL d)).d, []) := by
  have hk : kindC 177 = 20 := by decide
  refine (ev_body ⟨[], [], [], true, [], noIt⟩ [.cell 4 27] rfl Tryd.func54 rfl rfl rfl (by kernel_rfl) (by show 2 ≤ 75; decide) (by kernel_rfl)).trans ?_
  have hw := wide_c 177 (by decide) (by decide)
  rw [show wideC 177 = 4 from rfl] at hw
  simp only [Int.cast_ofNat_Int] at hw
  simp +contextual (maxSteps := 10000000) only [↓reduceIte, go_sem, Nat.reduceEqDiff, Nat.reduceAdd, Nat.reduceSub, Nat.reduceMul, Nat.reduceLeDiff, Nat.reduceLT, Nat.reduceBEq, Nat.reduceDiv, Nat.reduceMod, Int.reduceLE, Int.reduceLT, Int.reduceEq, Int.reduceBEq, Int.reduceBNe, Int.reduceAdd, Int.reduceSub, Int.reduceNeg, Int.reduceToNat, Int.reduceMul, Int.reducePow, Nat.reducePow, reduceCtorEq, look_kinds mapTk, gl_kinds, hk, show (Int.fdiv 177 16 == 9) = false from rfl, text_c, hw, show (4 ≤ d.size) = True from eq_true h, all1, dropB d 4 h, List.take_of_length_le (Nat.le_of_eq (bytesD_len d))]
  rfl
set_option maxHeartbeats 1000000 in
theorem read_179 (d : ByteArray) (h : 4 ≤ d.size) (hs : d.size ≤ 100000000) : EV 54 [.sc (.int .u8 179), .ro false (bytesD d)] [] = some (.ret (leafV 179 (toL d)).d, []) := by
  have hk : kindC 179 = 21 := by decide
  refine (ev_body ⟨[], [], [], true, [], noIt⟩ [.cell 4 27] rfl Tryd.func54 rfl rfl rfl (by kernel_rfl) (by show 2 ≤ 75; decide) (by kernel_rfl)).trans ?_
  have hw := wide_c 179 (by decide) (by decide)
  rw [show wideC 179 = 4 from rfl] at hw
  simp only [Int.cast_ofNat_Int] at hw
  simp +contextual (maxSteps := 10000000) only [↓reduceIte, go_sem, Nat.reduceEqDiff, Nat.reduceAdd, Nat.reduceSub, Nat.reduceMul, Nat.reduceLeDiff, Nat.reduceLT, Nat.reduceBEq, Nat.reduceDiv, Nat.reduceMod, Int.reduceLE, Int.reduceLT, Int.reduceEq, Int.reduceBEq, Int.reduceBNe, Int.reduceAdd, Int.reduceSub, Int.reduceNeg, Int.reduceToNat, Int.reduceMul, Int.reducePow, Nat.reducePow, reduceCtorEq, look_kinds mapTk, gl_kinds, hk, show (Int.fdiv 179 16 == 9) = false from rfl, text_c, hw, show (4 ≤ d.size) = True from eq_true h, all1, dropB d 4 h, List.take_of_length_le (Nat.le_of_eq (bytesD_len d))]
  rfl
end Go.Bw.R1

/- decode: constructors. -/
namespace Go.Bw.R1
set_option maxRecDepth 5000
open Go Go.Bw Go.Proofs
theorem tabS_in : ∀ (l : List (Int × Int)) (k : Int), tabS l k = 0 ∨ ∃ p ∈ l, p.1 = k
  | [], _ => .inl rfl
  | (a, b) :: r, k => by
    by_cases h : a = k
    · exact .inr ⟨(a, b), by simp, h⟩
    · rcases tabS_in r k with h1 | ⟨p, h1, h2⟩
      · left; rw [tabS, if_neg h, h1]
      · exact .inr ⟨p, by simp [h1], h2⟩
theorem code_in {c : Int} (h : kindC c ≠ 0) : c ∈ ([64, 65, 66, 67, 68, 69, 80, 81, 82, 83, 84, 85, 86, 96, 97, 112, 113, 114, 115, 116, 128, 129, 130, 131, 132, 148, 152, 160, 161, 163, 176, 177, 179, 192, 193, 208, 209, 224, 240] : List Int) := by
  rcases tabS_in kindsTab c with h1 | ⟨p, h1, h2⟩
  · exact absurd h1 h
  · have : ∀ p ∈ kindsTab, p.1 ∈ ([64, 65, 66, 67, 68, 69, 80, 81, 82, 83, 84, 85, 86, 96, 97, 112, 113, 114, 115, 116, 128, 129, 130, 131, 132, 148, 152, 160, 161, 163, 176, 177, 179, 192, 193, 208, 209, 224, 240] : List Int) := by decide
    rw [← h2]; exact this p h1
theorem code_byte {c : Int} (h : kindC c ≠ 0) : 64 ≤ c ∧ c ≤ 255 := by
  have : ∀ c ∈ ([64, 65, 66, 67, 68, 69, 80, 81, 82, 83, 84, 85, 86, 96, 97, 112, 113, 114, 115, 116, 128, 129, 130, 131, 132, 148, 152, 160, 161, 163, 176, 177, 179, 192, 193, 208, 209, 224, 240] : List Int), 64 ≤ c ∧ c ≤ 255 := by decide
  exact this c (code_in h)
/-- read, of a leaf's code -/
theorem read_leaf {c : Int} (h : kindC c ≠ 0) (hc : c < 192) (d : ByteArray) (h1 : c < 160 → d.size = fixC c) (h2 : 160 ≤ c → wideC c ≤ d.size) (hs : d.size ≤ 100000000) : EV 54 [.sc (.int .u8 c), .ro false (bytesD d)] [] = some (.ret (leafV c (toL d)).d, []) := by
  have hin := code_in h
  simp only [List.mem_cons, List.not_mem_nil, or_false] at hin
  rcases hin with rfl | rfl | rfl | rfl | rfl | rfl | rfl | rfl | rfl | rfl | rfl | rfl | rfl | rfl | rfl | rfl | rfl | rfl | rfl | rfl | rfl | rfl | rfl | rfl | rfl | rfl | rfl | rfl | rfl | rfl | rfl | rfl | rfl | rfl | rfl | rfl | rfl | rfl | rfl
  · exact read_64 d (h1 (by decide))
  · exact read_65 d (h1 (by decide))
  · exact read_66 d (h1 (by decide))
  · exact read_67 d (h1 (by decide))
  · exact read_68 d (h1 (by decide))
  · exact read_69 d (h1 (by decide))
  · exact read_80 d (h1 (by decide))
  · exact read_81 d (h1 (by decide))
  · exact read_82 d (h1 (by decide))
  · exact read_83 d (h1 (by decide))
  · exact read_84 d (h1 (by decide))
  · exact read_85 d (h1 (by decide))
  · exact read_86 d (h1 (by decide))
  · exact read_96 d (h1 (by decide))
  · exact read_97 d (h1 (by decide))
  · exact read_112 d (h1 (by decide))
  · exact read_113 d (h1 (by decide))
  · exact read_114 d (h1 (by decide))
  · exact read_115 d (h1 (by decide))
  · exact read_116 d (h1 (by decide))
  · exact read_128 d (h1 (by decide))
  · exact read_129 d (h1 (by decide))
  · exact read_130 d (h1 (by decide))
  · exact read_131 d (h1 (by decide))
  · exact read_132 d (h1 (by decide))
  · exact read_148 d (h1 (by decide))
  · exact read_152 d (h1 (by decide))
  · exact read_160 d (h2 (by decide)) hs
  · exact read_161 d (h2 (by decide)) hs
  · exact read_163 d (h2 (by decide)) hs
  · exact read_176 d (h2 (by decide)) hs
  · exact read_177 d (h2 (by decide)) hs
  · exact read_179 d (h2 (by decide)) hs
  all_goals exact absurd hc (by decide)
/-- what data hands over is long enough -/
theorem dataL_len {c : Int} {l d r : List UInt8} (h : dataL c l = .ok (d, r)) : (c < 160 → d.length = fixC c) ∧ (160 ≤ c → wideC c ≤ d.length) ∧ d.length + r.length = l.length ∧ l = d ++ r := by
  have tk : ∀ {n : Nat} {l a b : List UInt8}, takeL n l = .ok (a, b) → a.length = n ∧ l = a ++ b := fun {n l a b} h => by
    unfold takeL at h
    split at h
    · cases h
    · injection h with h
      injection h with h1 h2
      subst h1 h2
      exact ⟨by rw [List.length_take]; omega, (List.take_append_drop _ _).symm⟩
  unfold dataL at h
  split at h
  · rename_i hc
    obtain ⟨a, b⟩ := tk h
    exact ⟨fun _ => a, fun h => by omega, by rw [b, List.length_append], b⟩
  · rename_i hc
    split at h
    · cases h
    · rename_i hh l1 h1
      obtain ⟨a1, b1⟩ := tk h1
      split at h
      · cases h
      · rename_i d' l2 h2
        obtain ⟨a2, b2⟩ := tk h2
        injection h with h
        injection h with e1 e2
        subst e1 e2
        exact ⟨fun h => absurd h hc, fun _ => by rw [List.length_append]; omega, by rw [b1, b2]; simp only [List.length_append]; omega, by rw [b1, b2, List.append_assoc]⟩
theorem consL_code' {n : Nat} {c : UInt8} {r : List UInt8} (h : u8I c ≠ 0) (hk : kindC (u8I c) ≠ 0) : consL (n + 1) (c :: r) = .ok (([], u8I c), r) := by
  rw [consL_succ]; unfold consS; dsimp only; rw [if_neg h, if_neg hk]
theorem consL_fuel : ∀ (n m : Nat) (l : List UInt8), l.length < n → l.length < m → consL n l = consL m l
  | 0, _, _, h, _ => by omega
  | _ + 1, 0, _, _, h => by omega
  | n + 1, m + 1, l, h1, h2 => by
    rw [consL_succ, consL_succ]
    unfold consS
    match l, h1, h2 with
    | [], _, _ => rfl
    | c :: [], _, _ => rfl
    | c :: k :: r2, h1, h2 =>
      dsimp only
      split
      · unfold nameS
        split
        · rfl
        · cases hd : dataL (u8I k) r2 with
          | error e => rfl
          | ok x =>
            obtain ⟨d, r3⟩ := x
            have hl := (dataL_len hd).2.2.1
            simp only [List.length_cons] at h1 h2
            dsimp only
            rw [consL_fuel n m r3 (by omega) (by omega)]
      · rfl
end Go.Bw.R1

/- decode.reader.constructor. -/
namespace Go.Bw.R1
set_option maxRecDepth 5000
open Go Go.Bw Go.Proofs
def conR (s : ByteArray) (x : Except Int ((List Val × Int) × List UInt8)) : R × Sto := match x with
  | .error e => (thr e, [some ⟨0, [.undef, .undef]⟩])
  | .ok ((ns, C), r) => (.ret (.agg [.ro false (ns.map Val.d), .sc (.int .u8 C)]), [some ⟨0, rdr s (s.size - r.length)⟩])
def addN (ns : List Val) : Except Int ((List Val × Int) × List UInt8) → Except Int ((List Val × Int) × List UInt8)
  | .error e => .error e
  | .ok ((ms, C), r) => .ok ((ns ++ ms, C), r)
theorem addN_nil (x : Except Int ((List Val × Int) × List UInt8)) : addN [] x = x := by
  cases x with
  | error e => rfl
  | ok y => rfl
theorem addN_add (a b : List Val) (x : Except Int ((List Val × Int) × List UInt8)) : addN a (addN b x) = addN (a ++ b) x := by
  cases x with
  | error e => rfl
  | ok y => obtain ⟨⟨ms, C⟩, r⟩ := y; simp only [addN, List.append_assoc]
theorem drop_cons' (s : ByteArray) (p : Nat) (h : p < s.size) : ∃ x, (toL s)[p]? = some x ∧ (toL s).drop p = x :: (toL s).drop (p + 1) := by
  obtain ⟨x, hx⟩ := get_lt (l := toL s) (i := p) h
  refine ⟨x, hx, ?_⟩
  obtain ⟨h1, h2⟩ := List.getElem?_eq_some_iff.1 hx
  rw [List.drop_eq_getElem_cons h1, h2]
theorem ext_one (s : ByteArray) (p : Nat) (x : UInt8) (h : (toL s)[p]? = some x) : bytesD (s.extract p (p + 1)) = [.sc (.int .u8 (u8I x))] := by
  have e : toL (s.extract p (p + 1)) = [x] := by
    obtain ⟨h1, h2⟩ := List.getElem?_eq_some_iff.1 h
    rw [toL_ext, List.drop_eq_getElem_cons h1, h2, Nat.add_sub_cancel_left]; rfl
  unfold bytesD; unfold toL at e; rw [e]; rfl
theorem take_one (s : ByteArray) (p : Nat) (x : UInt8) (h : (toL s)[p]? = some x) (hs : s.size ≤ 100000000) : EV 51 [.ptr 0 0 0, I 1] [some ⟨0, rdr s p⟩] = some (.ret (.ro false [.sc (.int .u8 (u8I x))]), [some ⟨0, rdr s (p + 1)⟩]) := by
  have hp := (List.getElem?_eq_some_iff.1 h).1
  have := take_ok s p 1 (by rw [toL_len] at hp; omega) hs
  rw [ext_one s p x h] at this
  exact this
/-- an empty list of names is none -/
def nmD (ns : List Val) : D := match ns with | [] => .nils | _ :: _ => .ref 2 0 4 0 ns.length
def nmE (ns : List Val) : Sto := match ns with | [] => [] | _ :: _ => [some ⟨0, rowE Val.d ns⟩]
theorem left_at (s : ByteArray) (q : Nat) (h : q ≤ s.size) : s.size - ((toL s).drop q).length = q := by rw [List.length_drop, toL_len]; omega
theorem u8I_byte (x : UInt8) : 0 ≤ u8I x ∧ u8I x ≤ 255 := by unfold u8I; have := x.toNat_lt; omega
/-- a name is told, or not -/
theorem name_step (s : ByteArray) (p : Nat) (x k : UInt8) (hp : p + 1 < s.size) (hx : (toL s).drop p = x :: k :: (toL s).drop (p + 2)) (hx0 : u8I x = 0) (hk : kindC (u8I k) = 6 ∨ kindC (u8I k) = 21) :
    (∃ e, dataL (u8I k) ((toL s).drop (p + 2)) = .error e ∧ consL (s.size - p + 1) ((toL s).drop p) = .error e) ∨
    ∃ d q, dataL (u8I k) ((toL s).drop (p + 2)) = .ok (d, (toL s).drop q) ∧ p + 2 ≤ q ∧ q ≤ s.size ∧ consL (s.size - p + 1) ((toL s).drop p) = addN [leafV (u8I k) d] (consL (s.size - q + 1) ((toL s).drop q)) := by
  rw [hx, consL_succ]
  unfold consS
  dsimp only
  rw [if_pos hx0]
  unfold nameS
  rw [if_neg (by omega)]
  cases hd : dataL (u8I k) ((toL s).drop (p + 2)) with
  | error e => exact .inl ⟨e, rfl, rfl⟩
  | ok y =>
    obtain ⟨d, r⟩ := y
    obtain ⟨_, _, hl, he⟩ := dataL_len hd
    rw [List.length_drop, toL_len] at hl
    have hr : r = (toL s).drop (p + 2 + d.length) := by
      rw [← List.drop_drop, he, List.drop_left]
    refine .inr ⟨d, p + 2 + d.length, by rw [← hr], by omega, by omega, ?_⟩
    dsimp only
    rw [hr, consL_fuel (s.size - p) (s.size - (p + 2 + d.length) + 1) _ (by rw [List.length_drop, toL_len]; omega) (by rw [List.length_drop, toL_len]; omega)]
    cases consL (s.size - (p + 2 + d.length) + 1) ((toL s).drop (p + 2 + d.length)) with
    | error e => rfl
    | ok y => obtain ⟨⟨ms, C⟩, r⟩ := y; rfl
set_option maxHeartbeats 8000000 in
theorem cons_c' (s : ByteArray) (at_ : Nat) (ha : at_ ≤ s.size) (hs : s.size ≤ 100000000) : EV 35 [.ptr 0 0 0] [some ⟨0, rdr s at_⟩] = some (conR s (consL (s.size - at_ + 1) ((toL s).drop at_))) := by
  refine (ev_body ⟨[], [(0, [0, 2])], [(7, [(3, 0, false), (4, 0, false), (5, 0, true), (2, 0, false), (6, 0, true), (0, 0, false), (1, 0, false), (7, 0, false), (8, 0, true), (9, 3, false), (10, 0, true)]), (4000007, [(5, 0, false), (0, 0, false), (1, 0, false), (2, 0, false), (3, 0, false), (4, 0, false)])], true, [], noIt⟩ [.cell 2 63] rfl Tryd.func35 rfl rfl rfl (by kernel_rfl) (by show 1 ≤ 44; decide) (by kernel_rfl)).trans ?_
  simp +contextual (maxSteps := 10000000) only [↓reduceIte, go_sem, Nat.reduceEqDiff, Nat.reduceAdd, Nat.reduceSub, Nat.reduceMul, Nat.reduceLeDiff, Nat.reduceLT, Nat.reduceBEq, Nat.reduceDiv, Nat.reduceMod, Int.reduceLE, Int.reduceLT, Int.reduceEq, Int.reduceBEq, Int.reduceBNe, Int.reduceAdd, Int.reduceSub, Int.reduceNeg, Int.reduceToNat, Int.reduceMul, Int.reducePow, Nat.reducePow, reduceCtorEq]
  refine lpK_inv (fun m0 f es => ∃ (p : Nat) (ns : List Val), p ≤ s.size ∧ ns.length ≤ p ∧ m0 = s.size - p ∧ consL (s.size - at_ + 1) ((toL s).drop at_) = addN ns (consL (s.size - p + 1) ((toL s).drop p)) ∧ f = [(0, .ptr 0 0 0), (2, .ptr 1 0 0)] ∧ es = [some ⟨0, rdr s p⟩, some ⟨0, [nmD ns, .sc (.int .u8 0)]⟩] ++ nmE ns) (s.size - at_) ⟨at_, [], ha, Nat.zero_le _, rfl, (addN_nil _).symm, rfl, rfl⟩ ?_
  rintro m0 _ _ ⟨p, ns, hp, hns, hm, hcon, rfl, rfl⟩ ih
  rw [hcon]
  rcases Nat.lt_or_ge p s.size with hlt | hge
  · obtain ⟨x, hx, hdx⟩ := drop_cons' s p hlt
    have ht := take_one s p x hx hs
    simp only [rdr, Int.natCast_add, Int.cast_ofNat_Int] at ht
    by_cases hx0 : u8I x = 0
    · have hne : (u8I x != 0) = false := by rw [hx0]; rfl
      rcases Nat.lt_or_ge (p + 1) s.size with hlt2 | hge2
      · obtain ⟨k, hkx, hdk⟩ := drop_cons' s (p + 1) hlt2
        have ht2 := take_one s (p + 1) k hkx hs
        simp only [rdr, Int.natCast_add, Int.cast_ofNat_Int] at ht2
        have hdx2 : (toL s).drop p = x :: k :: (toL s).drop (p + 2) := by rw [hdx, hdk]
        by_cases hk6 : kindC (u8I k) = 6 ∨ kindC (u8I k) = 21
        · have hk0 : kindC (u8I k) ≠ 0 := by omega
          obtain ⟨c0, c1⟩ := code_byte hk0
          have hdat := data_c' (u8I k) s (p + 2) (by omega) hs c0 c1
          have hlow : u8I k < 192 := by
            have : ∀ c ∈ ([64, 65, 66, 67, 68, 69, 80, 81, 82, 83, 84, 85, 86, 96, 97, 112, 113, 114, 115, 116, 128, 129, 130, 131, 132, 148, 152, 160, 161, 163, 176, 177, 179, 192, 193, 208, 209, 224, 240] : List Int), kindC c = 6 ∨ kindC c = 21 → c < 192 := by decide
            exact this _ (code_in hk0) hk6
          unfold datR at hdat
          rcases name_step s p x k hlt2 hdx2 hx0 hk6 with ⟨e, he1, he2⟩ | ⟨d, q, hd1, hq1, hq2, hq3⟩
          · rw [he1] at hdat
            rw [he2]
            simp only [rdr, Int.natCast_add, Int.cast_ofNat_Int] at hdat
            rcases hk6 with h6 | h6
            · cases ns with
              | nil =>
                simp only [nmD, nmE, List.append_nil]
                simp +contextual (maxSteps := 10000000) only [↓reduceIte, go_sem, Nat.reduceEqDiff, Nat.reduceAdd, Nat.reduceSub, Nat.reduceMul, Nat.reduceLeDiff, Nat.reduceLT, Nat.reduceBEq, Nat.reduceDiv, Nat.reduceMod, Int.reduceLE, Int.reduceLT, Int.reduceEq, Int.reduceBEq, Int.reduceBNe, Int.reduceAdd, Int.reduceSub, Int.reduceNeg, Int.reduceToNat, Int.reduceMul, Int.reducePow, Nat.reducePow, reduceCtorEq, ht, ht2, hne, hx0, look_kinds mapTk, gl_kinds, h6, hdat, show (p : Int) + 1 + 1 = p + 2 by omega]
                rfl
              | cons n0 ns =>
                simp only [nmD, nmE, List.cons_append, List.nil_append, List.length_cons]
                simp +contextual (maxSteps := 10000000) only [↓reduceIte, go_sem, Nat.reduceEqDiff, Nat.reduceAdd, Nat.reduceSub, Nat.reduceMul, Nat.reduceLeDiff, Nat.reduceLT, Nat.reduceBEq, Nat.reduceDiv, Nat.reduceMod, Int.reduceLE, Int.reduceLT, Int.reduceEq, Int.reduceBEq, Int.reduceBNe, Int.reduceAdd, Int.reduceSub, Int.reduceNeg, Int.reduceToNat, Int.reduceMul, Int.reducePow, Nat.reducePow, reduceCtorEq, ht, ht2, hne, hx0, look_kinds mapTk, gl_kinds, h6, hdat, show (p : Int) + 1 + 1 = p + 2 by omega]
                rfl
            · cases ns with
              | nil =>
                simp only [nmD, nmE, List.append_nil]
                simp +contextual (maxSteps := 10000000) only [↓reduceIte, go_sem, Nat.reduceEqDiff, Nat.reduceAdd, Nat.reduceSub, Nat.reduceMul, Nat.reduceLeDiff, Nat.reduceLT, Nat.reduceBEq, Nat.reduceDiv, Nat.reduceMod, Int.reduceLE, Int.reduceLT, Int.reduceEq, Int.reduceBEq, Int.reduceBNe, Int.reduceAdd, Int.reduceSub, Int.reduceNeg, Int.reduceToNat, Int.reduceMul, Int.reducePow, Nat.reducePow, reduceCtorEq, ht, ht2, hne, hx0, look_kinds mapTk, gl_kinds, h6, hdat, show (p : Int) + 1 + 1 = p + 2 by omega]
                rfl
              | cons n0 ns =>
                simp only [nmD, nmE, List.cons_append, List.nil_append, List.length_cons]
                simp +contextual (maxSteps := 10000000) only [↓reduceIte, go_sem, Nat.reduceEqDiff, Nat.reduceAdd, Nat.reduceSub, Nat.reduceMul, Nat.reduceLeDiff, Nat.reduceLT, Nat.reduceBEq, Nat.reduceDiv, Nat.reduceMod, Int.reduceLE, Int.reduceLT, Int.reduceEq, Int.reduceBEq, Int.reduceBNe, Int.reduceAdd, Int.reduceSub, Int.reduceNeg, Int.reduceToNat, Int.reduceMul, Int.reducePow, Nat.reducePow, reduceCtorEq, ht, ht2, hne, hx0, look_kinds mapTk, gl_kinds, h6, hdat, show (p : Int) + 1 + 1 = p + 2 by omega]
                rfl
          · rw [hd1] at hdat
            dsimp only at hdat
            rw [left_at s q hq2] at hdat
            obtain ⟨l1, l2, l3, _⟩ := dataL_len hd1
            have hdz : (mkT d).size = d.length := rfl
            have hrd := read_leaf hk0 hlow (mkT d) (fun h => (hdz.trans (l1 h))) (fun h => by rw [hdz]; exact l2 h) (by rw [hdz]; simp only [List.length_drop, toL_len] at l3; omega)
            rw [toL_mkT] at hrd
            generalize leafV (u8I k) d = v at *
            have hq4 : consL (s.size - at_ + 1) ((toL s).drop at_) = addN (ns ++ [v]) (consL (s.size - q + 1) ((toL s).drop q)) := by rw [hcon, hq3, addN_add]
            rw [← hcon]
            simp only [rdr, Int.natCast_add, Int.cast_ofNat_Int] at hdat
            rcases hk6 with h6 | h6
            · cases ns with
              | nil =>
                simp only [nmD, nmE, List.append_nil]
                simp +contextual (maxSteps := 10000000) only [↓reduceIte, go_sem, Nat.reduceEqDiff, Nat.reduceAdd, Nat.reduceSub, Nat.reduceMul, Nat.reduceLeDiff, Nat.reduceLT, Nat.reduceBEq, Nat.reduceDiv, Nat.reduceMod, Int.reduceLE, Int.reduceLT, Int.reduceEq, Int.reduceBEq, Int.reduceBNe, Int.reduceAdd, Int.reduceSub, Int.reduceNeg, Int.reduceToNat, Int.reduceMul, Int.reducePow, Nat.reducePow, reduceCtorEq, ht, ht2, hne, hx0, look_kinds mapTk, gl_kinds, h6, hdat, hrd, show (p : Int) + 1 + 1 = p + 2 by omega]
                refine ih (s.size - q) _ _ (by omega) ⟨q, [v], hq2, by simp only [List.length_cons, List.length_nil]; omega, rfl, hq4, rfl, ?_⟩
                rw [rowV_one]; rfl
              | cons n0 ns =>
                simp only [nmD, nmE, List.cons_append, List.nil_append, List.length_cons]
                have r1 := valOk.row_len (n0 :: ns)
                rw [List.length_cons] at r1
                have hb56 : ((ns.length + 1 + 1) * 56 ≤ 140737488355328) = True := eq_true (by simp only [List.length_cons] at hns; omega)
                simp +contextual (maxSteps := 10000000) only [↓reduceIte, go_sem, Nat.reduceEqDiff, Nat.reduceAdd, Nat.reduceSub, Nat.reduceMul, Nat.reduceLeDiff, Nat.reduceLT, Nat.reduceBEq, Nat.reduceDiv, Nat.reduceMod, Int.reduceLE, Int.reduceLT, Int.reduceEq, Int.reduceBEq, Int.reduceBNe, Int.reduceAdd, Int.reduceSub, Int.reduceNeg, Int.reduceToNat, Int.reduceMul, Int.reducePow, Nat.reducePow, reduceCtorEq, ht, ht2, hne, hx0, look_kinds mapTk, gl_kinds, h6, hdat, hrd, show (p : Int) + 1 + 1 = p + 2 by omega, r1, hb56, rowV_snoc]
                refine ih (s.size - q) _ _ (by omega) ⟨q, n0 :: ns ++ [v], hq2, by simp only [List.length_append, List.length_cons, List.length_nil] at hns ⊢; omega, rfl, hq4, rfl, ?_⟩
                simp only [nmD, nmE, List.cons_append, List.length_cons, List.length_append, List.length_nil]; rfl
            · cases ns with
              | nil =>
                simp only [nmD, nmE, List.append_nil]
                simp +contextual (maxSteps := 10000000) only [↓reduceIte, go_sem, Nat.reduceEqDiff, Nat.reduceAdd, Nat.reduceSub, Nat.reduceMul, Nat.reduceLeDiff, Nat.reduceLT, Nat.reduceBEq, Nat.reduceDiv, Nat.reduceMod, Int.reduceLE, Int.reduceLT, Int.reduceEq, Int.reduceBEq, Int.reduceBNe, Int.reduceAdd, Int.reduceSub, Int.reduceNeg, Int.reduceToNat, Int.reduceMul, Int.reducePow, Nat.reducePow, reduceCtorEq, ht, ht2, hne, hx0, look_kinds mapTk, gl_kinds, h6, hdat, hrd, show (p : Int) + 1 + 1 = p + 2 by omega]
                refine ih (s.size - q) _ _ (by omega) ⟨q, [v], hq2, by simp only [List.length_cons, List.length_nil]; omega, rfl, hq4, rfl, ?_⟩
                rw [rowV_one]; rfl
              | cons n0 ns =>
                simp only [nmD, nmE, List.cons_append, List.nil_append, List.length_cons]
                have r1 := valOk.row_len (n0 :: ns)
                rw [List.length_cons] at r1
                have hb56 : ((ns.length + 1 + 1) * 56 ≤ 140737488355328) = True := eq_true (by simp only [List.length_cons] at hns; omega)
                simp +contextual (maxSteps := 10000000) only [↓reduceIte, go_sem, Nat.reduceEqDiff, Nat.reduceAdd, Nat.reduceSub, Nat.reduceMul, Nat.reduceLeDiff, Nat.reduceLT, Nat.reduceBEq, Nat.reduceDiv, Nat.reduceMod, Int.reduceLE, Int.reduceLT, Int.reduceEq, Int.reduceBEq, Int.reduceBNe, Int.reduceAdd, Int.reduceSub, Int.reduceNeg, Int.reduceToNat, Int.reduceMul, Int.reducePow, Nat.reducePow, reduceCtorEq, ht, ht2, hne, hx0, look_kinds mapTk, gl_kinds, h6, hdat, hrd, show (p : Int) + 1 + 1 = p + 2 by omega, r1, hb56, rowV_snoc]
                refine ih (s.size - q) _ _ (by omega) ⟨q, n0 :: ns ++ [v], hq2, by simp only [List.length_append, List.length_cons, List.length_nil] at hns ⊢; omega, rfl, hq4, rfl, ?_⟩
                simp only [nmD, nmE, List.cons_append, List.length_cons, List.length_append, List.length_nil]; rfl
        · have hres : consL (s.size - p + 1) ((toL s).drop p) = .error 6 := by
            rw [hdx2, consL_succ]; unfold consS; dsimp only; rw [if_pos hx0]; unfold nameS; rw [if_pos (by omega)]
          have e1 : (kindC (u8I k) != 6) = true := by simp; omega
          have e2 : (kindC (u8I k) != 21) = true := by simp; omega
          rw [hres]
          cases ns with
          | nil =>
            simp only [nmD, nmE, List.append_nil]
            simp +contextual (maxSteps := 10000000) only [↓reduceIte, go_sem, Nat.reduceEqDiff, Nat.reduceAdd, Nat.reduceSub, Nat.reduceMul, Nat.reduceLeDiff, Nat.reduceLT, Nat.reduceBEq, Nat.reduceDiv, Nat.reduceMod, Int.reduceLE, Int.reduceLT, Int.reduceEq, Int.reduceBEq, Int.reduceBNe, Int.reduceAdd, Int.reduceSub, Int.reduceNeg, Int.reduceToNat, Int.reduceMul, Int.reducePow, Nat.reducePow, reduceCtorEq, ht, ht2, hne, hx0, look_kinds mapTk, gl_kinds, e1, e2]
            rfl
          | cons n0 ns =>
            have fz (es : Sto) (F : Nat → Bool) (n i v : Nat) : fsE es F n i v 4 0 (ns.length + 1) true (some ⟨v, rowE Val.d (n0 :: ns)⟩) = .ro false ((n0 :: ns).map Val.d) := fsE_rowE valOk rfl
            simp only [nmD, nmE, List.cons_append, List.nil_append, List.length_cons]
            simp +contextual (maxSteps := 10000000) only [↓reduceIte, go_sem, Nat.reduceEqDiff, Nat.reduceAdd, Nat.reduceSub, Nat.reduceMul, Nat.reduceLeDiff, Nat.reduceLT, Nat.reduceBEq, Nat.reduceDiv, Nat.reduceMod, Int.reduceLE, Int.reduceLT, Int.reduceEq, Int.reduceBEq, Int.reduceBNe, Int.reduceAdd, Int.reduceSub, Int.reduceNeg, Int.reduceToNat, Int.reduceMul, Int.reducePow, Nat.reducePow, reduceCtorEq, ht, ht2, hne, hx0, look_kinds mapTk, gl_kinds, e1, e2, fz]
            rfl
      · have hres : consL (s.size - p + 1) ((toL s).drop p) = .error 7 := by
          rw [hdx, consL_succ]; unfold consS; dsimp only; rw [if_pos hx0, List.drop_eq_nil_of_le (by rw [toL_len]; exact hge2)]
        have ht2 := take_no s (p + 1) 1 (by omega) (by omega) hs
        simp only [rdr, Int.natCast_add, Int.cast_ofNat_Int] at ht2
        rw [hres]
        cases ns with
        | nil =>
          simp only [nmD, nmE, List.append_nil]
          simp +contextual (maxSteps := 10000000) only [↓reduceIte, go_sem, Nat.reduceEqDiff, Nat.reduceAdd, Nat.reduceSub, Nat.reduceMul, Nat.reduceLeDiff, Nat.reduceLT, Nat.reduceBEq, Nat.reduceDiv, Nat.reduceMod, Int.reduceLE, Int.reduceLT, Int.reduceEq, Int.reduceBEq, Int.reduceBNe, Int.reduceAdd, Int.reduceSub, Int.reduceNeg, Int.reduceToNat, Int.reduceMul, Int.reducePow, Nat.reducePow, reduceCtorEq, ht, ht2, hne, hx0]
          rfl
        | cons n0 ns =>
          have fz (es : Sto) (F : Nat → Bool) (n i v : Nat) : fsE es F n i v 4 0 (ns.length + 1) true (some ⟨v, rowE Val.d (n0 :: ns)⟩) = .ro false ((n0 :: ns).map Val.d) := fsE_rowE valOk rfl
          simp only [nmD, nmE, List.cons_append, List.nil_append, List.length_cons]
          simp +contextual (maxSteps := 10000000) only [↓reduceIte, go_sem, Nat.reduceEqDiff, Nat.reduceAdd, Nat.reduceSub, Nat.reduceMul, Nat.reduceLeDiff, Nat.reduceLT, Nat.reduceBEq, Nat.reduceDiv, Nat.reduceMod, Int.reduceLE, Int.reduceLT, Int.reduceEq, Int.reduceBEq, Int.reduceBNe, Int.reduceAdd, Int.reduceSub, Int.reduceNeg, Int.reduceToNat, Int.reduceMul, Int.reducePow, Nat.reducePow, reduceCtorEq, ht, ht2, hne, hx0, fz]
          rfl
    · have hne : (u8I x != 0) = true := by simpa using hx0
      by_cases hk : kindC (u8I x) = 0
      · have hres : consL (s.size - p + 1) ((toL s).drop p) = .error 6 := by rw [hdx, consL_succ]; unfold consS; dsimp only; rw [if_neg hx0, if_pos hk]
        rw [hres]
        cases ns with
        | nil =>
          simp only [nmD, nmE, List.append_nil]
          simp +contextual (maxSteps := 10000000) only [↓reduceIte, go_sem, Nat.reduceEqDiff, Nat.reduceAdd, Nat.reduceSub, Nat.reduceMul, Nat.reduceLeDiff, Nat.reduceLT, Nat.reduceBEq, Nat.reduceDiv, Nat.reduceMod, Int.reduceLE, Int.reduceLT, Int.reduceEq, Int.reduceBEq, Int.reduceBNe, Int.reduceAdd, Int.reduceSub, Int.reduceNeg, Int.reduceToNat, Int.reduceMul, Int.reducePow, Nat.reducePow, reduceCtorEq, ht, hne, look_kinds mapTk, gl_kinds, hk]
          rfl
        | cons n0 ns =>
          have fz (es : Sto) (F : Nat → Bool) (n i v : Nat) : fsE es F n i v 4 0 (ns.length + 1) true (some ⟨v, rowE Val.d (n0 :: ns)⟩) = .ro false ((n0 :: ns).map Val.d) := fsE_rowE valOk rfl
          simp only [nmD, nmE, List.cons_append, List.nil_append, List.length_cons]
          simp +contextual (maxSteps := 10000000) only [↓reduceIte, go_sem, Nat.reduceEqDiff, Nat.reduceAdd, Nat.reduceSub, Nat.reduceMul, Nat.reduceLeDiff, Nat.reduceLT, Nat.reduceBEq, Nat.reduceDiv, Nat.reduceMod, Int.reduceLE, Int.reduceLT, Int.reduceEq, Int.reduceBEq, Int.reduceBNe, Int.reduceAdd, Int.reduceSub, Int.reduceNeg, Int.reduceToNat, Int.reduceMul, Int.reducePow, Nat.reducePow, reduceCtorEq, ht, hne, look_kinds mapTk, gl_kinds, hk, fz]
          rfl
      · have hres : consL (s.size - p + 1) ((toL s).drop p) = .ok (([], u8I x), (toL s).drop (p + 1)) := by rw [hdx]; exact consL_code' hx0 hk
        have hk' : (kindC (u8I x) == 0) = false := by simpa using hk
        have hl := left_at s (p + 1) (by omega)
        rw [hres]
        simp only [addN, conR, List.append_nil, hl]
        cases ns with
        | nil =>
          simp only [nmD, nmE, List.append_nil]
          simp +contextual (maxSteps := 10000000) only [↓reduceIte, go_sem, Nat.reduceEqDiff, Nat.reduceAdd, Nat.reduceSub, Nat.reduceMul, Nat.reduceLeDiff, Nat.reduceLT, Nat.reduceBEq, Nat.reduceDiv, Nat.reduceMod, Int.reduceLE, Int.reduceLT, Int.reduceEq, Int.reduceBEq, Int.reduceBNe, Int.reduceAdd, Int.reduceSub, Int.reduceNeg, Int.reduceToNat, Int.reduceMul, Int.reducePow, Nat.reducePow, reduceCtorEq, ht, hne, look_kinds mapTk, gl_kinds, hk']
          rfl
        | cons n0 ns =>
          have fz (es : Sto) (F : Nat → Bool) (n i v : Nat) : fsE es F n i v 4 0 (ns.length + 1) true (some ⟨v, rowE Val.d (n0 :: ns)⟩) = .ro false ((n0 :: ns).map Val.d) := fsE_rowE valOk rfl
          simp only [nmD, nmE, List.cons_append, List.nil_append, List.length_cons]
          simp +contextual (maxSteps := 10000000) only [↓reduceIte, go_sem, Nat.reduceEqDiff, Nat.reduceAdd, Nat.reduceSub, Nat.reduceMul, Nat.reduceLeDiff, Nat.reduceLT, Nat.reduceBEq, Nat.reduceDiv, Nat.reduceMod, Int.reduceLE, Int.reduceLT, Int.reduceEq, Int.reduceBEq, Int.reduceBNe, Int.reduceAdd, Int.reduceSub, Int.reduceNeg, Int.reduceToNat, Int.reduceMul, Int.reducePow, Nat.reducePow, reduceCtorEq, ht, hne, look_kinds mapTk, gl_kinds, hk', fz]
          rfl
  · have hres : consL (s.size - p + 1) ((toL s).drop p) = .error 7 := by
      rw [List.drop_eq_nil_of_le (by rw [toL_len]; exact hge)]; rfl
    have ht := take_no s p 1 hp (by omega) hs
    simp only [rdr, Int.natCast_add, Int.cast_ofNat_Int] at ht
    rw [hres]
    cases ns with
    | nil =>
      simp only [nmD, nmE, List.append_nil]
      simp +contextual (maxSteps := 10000000) only [↓reduceIte, go_sem, Nat.reduceEqDiff, Nat.reduceAdd, Nat.reduceSub, Nat.reduceMul, Nat.reduceLeDiff, Nat.reduceLT, Nat.reduceBEq, Nat.reduceDiv, Nat.reduceMod, Int.reduceLE, Int.reduceLT, Int.reduceEq, Int.reduceBEq, Int.reduceBNe, Int.reduceAdd, Int.reduceSub, Int.reduceNeg, Int.reduceToNat, Int.reduceMul, Int.reducePow, Nat.reducePow, reduceCtorEq, ht]
      rfl
    | cons n0 ns =>
      have fz (es : Sto) (F : Nat → Bool) (n i v : Nat) : fsE es F n i v 4 0 (ns.length + 1) true (some ⟨v, rowE Val.d (n0 :: ns)⟩) = .ro false ((n0 :: ns).map Val.d) := fsE_rowE valOk rfl
      simp only [nmD, nmE, List.cons_append, List.nil_append, List.length_cons]
      simp +contextual (maxSteps := 10000000) only [↓reduceIte, go_sem, Nat.reduceEqDiff, Nat.reduceAdd, Nat.reduceSub, Nat.reduceMul, Nat.reduceLeDiff, Nat.reduceLT, Nat.reduceBEq, Nat.reduceDiv, Nat.reduceMod, Int.reduceLE, Int.reduceLT, Int.reduceEq, Int.reduceBEq, Int.reduceBNe, Int.reduceAdd, Int.reduceSub, Int.reduceNeg, Int.reduceToNat, Int.reduceMul, Int.reducePow, Nat.reducePow, reduceCtorEq, ht, fz]
      rfl
end Go.Bw.R1

/- decode.call. -/
namespace Go.Bw.R1
set_option maxRecDepth 5000
open Go Go.Bw Go.Proofs
theorem back_c (l : List Val) : EV 77 [.ro false (l.map Val.d)] [] = some (.ret (.fn (.func 100) [] [.rp [.ro false (l.map Val.d)]]), []) := by
  refine (ev_body ⟨[1], [], [], true, [], noIt⟩ [.tmp 2] rfl Tryd.func77 rfl rfl rfl (by kernel_rfl) (by show 1 ≤ 4; decide) (by kernel_rfl)).trans ?_
  simp +contextual (maxSteps := 10000000) only [↓reduceIte, go_sem, Nat.reduceEqDiff, Nat.reduceAdd, Nat.reduceSub, Nat.reduceMul, Nat.reduceLeDiff, Nat.reduceLT, Nat.reduceBEq, Nat.reduceDiv, Nat.reduceMod, Int.reduceLE, Int.reduceLT, Int.reduceEq, Int.reduceBEq, Int.reduceBNe, Int.reduceAdd, Int.reduceSub, Int.reduceNeg, Int.reduceToNat, Int.reduceMul, Int.reducePow, Nat.reducePow, reduceCtorEq]
theorem backIt_val (l : List Val) (h : l.length ≤ 40000000) : backIt (.fn (.func 100) [] [.rp [.ro false (l.map Val.d)]]) = some (backD (l.map Val.d)) := by
  unfold backIt
  simp only
  rw [if_pos]
  refine ⟨rfl, by simpa using h, fun e he => ?_⟩
  obtain ⟨v, _, rfl⟩ := List.mem_map.1 he
  exact ⟨D.free_refs (Val.refs v), v.cs, by rw [Val.fold, Val.eta], rfl⟩
theorem callV_drop {ns : List Val} {i : Nat} {x : Val} (v : Val) (h : ns[i]? = some x) : callV (ns.drop i) v = .mk 25 0 e0 [x, callV (ns.drop (i + 1)) v] := by
  obtain ⟨h1, h2⟩ := List.getElem?_eq_some_iff.1 h
  rw [List.drop_eq_getElem_cons h1, h2]; rfl
theorem callV_sz (v : Val) : ∀ (ns : List Val) (i : Nat), (callV (ns.drop i) v).sz ≤ (callV ns v).sz
  | [], i => by rw [List.drop_nil]; exact Nat.le_refl _
  | n :: ns, 0 => Nat.le_refl _
  | n :: ns, i + 1 => by
    have h1 := callV_sz v ns i
    have h2 : (callV (n :: ns) v).sz = 0 + Val.szL [n, callV ns v] + 1 := Val.sz_eq _
    simp only [Val.szL] at h2
    rw [List.drop_succ_cons]; omega
def CallI (ns : List Val) (v : Val) (yss : List (List D)) (f : Fr) (es : Sto) : Prop :=
  ∃ i, i ≤ ns.length ∧ yss = (backD (ns.map Val.d)).drop (ns.length - i) ∧
    ((f = [(8, .fn (.func 100) [] [.rp [.ro false (ns.map Val.d)]]), (7, .ro false (ns.map Val.d)), (4, .ptr 1 0 0), (3, .ptr 0 0 0), (0, .ro false (ns.map Val.d)), (1, v.d)] ∧ es = [some ⟨0, (callV (ns.drop i) v).cs⟩, some ⟨0, [.sc (.int .u8 0), .sc (.int .u64 0), .sc (.string ⟨#[]⟩), .nils]⟩]) ∨
     (f = [(8, .fn (.func 100) [] [.rp [.ro false (ns.map Val.d)]]), (7, .ro false (ns.map Val.d)), (4, .ptr 0 0 0), (3, .ptr 1 0 0), (0, .ro false (ns.map Val.d)), (1, v.d)] ∧ es = [some ⟨0, [.sc (.int .u8 0), .sc (.int .u64 0), .sc (.string ⟨#[]⟩), .nils]⟩, some ⟨0, (callV (ns.drop i) v).cs⟩]))
set_option maxHeartbeats 1000000 in
theorem call_c (ns : List Val) (v : Val) (h : (callV ns v).sz ≤ 40000000) (hl : ns.length ≤ 40000000) : EV 55 [.ro false (ns.map Val.d), v.d] [] = some (.ret (callV ns v).d, []) := by
  refine (ev_body ⟨[], [], [], true, [], backIt⟩ [.cell 4 27] rfl Tryd.func55 rfl rfl rfl (by kernel_rfl) (by show 2 ≤ 15; decide) (by kernel_rfl)).trans ?_
  simp +contextual (maxSteps := 10000000) only [↓reduceIte, go_sem, Nat.reduceEqDiff, Nat.reduceAdd, Nat.reduceSub, Nat.reduceMul, Nat.reduceLeDiff, Nat.reduceLT, Nat.reduceBEq, Nat.reduceDiv, Nat.reduceMod, Int.reduceLE, Int.reduceLT, Int.reduceEq, Int.reduceBEq, Int.reduceBNe, Int.reduceAdd, Int.reduceSub, Int.reduceNeg, Int.reduceToNat, Int.reduceMul, Int.reducePow, Nat.reducePow, reduceCtorEq, back_c, backIt_val ns hl]
  refine rgK_inv (CallI ns v) ⟨ns.length, Nat.le_refl _, by rw [Nat.sub_self]; rfl, .inl ⟨rfl, by rw [List.drop_length]; rfl⟩⟩ ?_ ?_
  · rintro f es ⟨i, hi, hy, hst⟩
    have hlen := congrArg List.length hy
    rw [List.length_drop, backD_len, List.length_map, List.length_nil] at hlen
    obtain rfl : i = 0 := by omega
    rw [List.drop_zero] at hst
    generalize callV ns v = w at *
    obtain ⟨k, n, t, l⟩ := w
    rcases hst with ⟨rfl, rfl⟩ | ⟨rfl, rfl⟩
    · simp +contextual (maxSteps := 10000000) only [↓reduceIte, go_sem, Nat.reduceEqDiff, Nat.reduceAdd, Nat.reduceSub, Nat.reduceMul, Nat.reduceLeDiff, Nat.reduceLT, Nat.reduceBEq, Nat.reduceDiv, Nat.reduceMod, Int.reduceLE, Int.reduceLT, Int.reduceEq, Int.reduceBEq, Int.reduceBNe, Int.reduceAdd, Int.reduceSub, Int.reduceNeg, Int.reduceToNat, Int.reduceMul, Int.reducePow, Nat.reducePow, reduceCtorEq]
    · simp +contextual (maxSteps := 10000000) only [↓reduceIte, go_sem, Nat.reduceEqDiff, Nat.reduceAdd, Nat.reduceSub, Nat.reduceMul, Nat.reduceLeDiff, Nat.reduceLT, Nat.reduceBEq, Nat.reduceDiv, Nat.reduceMod, Int.reduceLE, Int.reduceLT, Int.reduceEq, Int.reduceBEq, Int.reduceBNe, Int.reduceAdd, Int.reduceSub, Int.reduceNeg, Int.reduceToNat, Int.reduceMul, Int.reducePow, Nat.reducePow, reduceCtorEq]
  · rintro ys yss f es ⟨i, hi, hy, hst⟩ ih
    have h0 : (backD (ns.map Val.d))[ns.length - i]? = some ys := by
      have := congrArg (·[0]?) hy
      simp only [List.getElem?_cons_zero, List.getElem?_drop, Nat.add_zero] at this
      exact this.symm
    have htl : yss = (backD (ns.map Val.d)).drop (ns.length - i + 1) := by
      rw [← List.drop_drop, ← hy]; rfl
    obtain ⟨m, a, hm, ham, rfl⟩ := backD_at h0
    rw [List.length_map] at hm
    rw [List.getElem?_map] at ham
    obtain ⟨x, hx, rfl⟩ := Option.map_eq_some_iff.1 ham
    obtain rfl : i = m + 1 := by omega
    have hcur := callV_drop v hx
    have hsz := callV_sz v ns m
    rw [hcur, Val.sz_eq] at hsz
    simp only [Val.kids_mk, Val.szL] at hsz
    generalize callV (ns.drop (m + 1)) v = w at *
    have hd := desc_c x w (by omega)
    obtain ⟨k, n, t, l⟩ := w
    have hy2 : yss = (backD (ns.map Val.d)).drop (ns.length - m) := by rw [htl]; congr 1; omega
    rcases hst with ⟨rfl, rfl⟩ | ⟨rfl, rfl⟩
    · simp +contextual (maxSteps := 10000000) only [↓reduceIte, go_sem, Nat.reduceEqDiff, Nat.reduceAdd, Nat.reduceSub, Nat.reduceMul, Nat.reduceLeDiff, Nat.reduceLT, Nat.reduceBEq, Nat.reduceDiv, Nat.reduceMod, Int.reduceLE, Int.reduceLT, Int.reduceEq, Int.reduceBEq, Int.reduceBNe, Int.reduceAdd, Int.reduceSub, Int.reduceNeg, Int.reduceToNat, Int.reduceMul, Int.reducePow, Nat.reducePow, reduceCtorEq, hd]
      exact ih _ _ ⟨m, by omega, hy2, .inr ⟨rfl, by rw [hcur]; rfl⟩⟩
    · simp +contextual (maxSteps := 10000000) only [↓reduceIte, go_sem, Nat.reduceEqDiff, Nat.reduceAdd, Nat.reduceSub, Nat.reduceMul, Nat.reduceLeDiff, Nat.reduceLT, Nat.reduceBEq, Nat.reduceDiv, Nat.reduceMod, Int.reduceLE, Int.reduceLT, Int.reduceEq, Int.reduceBEq, Int.reduceBNe, Int.reduceAdd, Int.reduceSub, Int.reduceNeg, Int.reduceToNat, Int.reduceMul, Int.reducePow, Nat.reducePow, reduceCtorEq, hd]
      exact ih _ _ ⟨m, by omega, hy2, .inr ⟨rfl, by rw [hcur]; rfl⟩⟩
end Go.Bw.R1

/- Plain: the decoder's fuel, and how large its values are. -/
namespace Go.Bw.R1
set_option maxRecDepth 5000
open Go Go.Bw
theorem consL_len : ∀ (n : Nat) (l : List UInt8) (ns : List Val) (C : Int) (r : List UInt8), consL n l = .ok ((ns, C), r) → r.length < l.length ∧ kindC C ≠ 0
  | 0, _, _, _, _, h => by cases h
  | n + 1, l, ns, C, r, h => by
    rw [consL_succ] at h
    unfold consS at h
    match l, h with
    | [], h => cases h
    | c :: [], h =>
      dsimp only at h
      split at h
      · cases h
      · split at h
        · cases h
        · rename_i hk
          injection h with h
          injection h with h1 h2
          injection h1 with h1 h3
          subst h2 h3
          exact ⟨by simp, hk⟩
    | c :: k :: r2, h =>
      dsimp only at h
      split at h
      · unfold nameS at h
        split at h
        · cases h
        · cases hd : dataL (u8I k) r2 with
          | error e => rw [hd] at h; cases h
          | ok y =>
            obtain ⟨d, r3⟩ := y
            rw [hd] at h
            dsimp only at h
            cases hc : consL n r3 with
            | error e => rw [hc] at h; cases h
            | ok z =>
              obtain ⟨⟨ms, D⟩, r4⟩ := z
              rw [hc] at h
              dsimp only at h
              injection h with h
              injection h with h1 h2
              injection h1 with h1 h3
              subst h2 h3
              obtain ⟨i1, i2⟩ := consL_len n r3 ms D r4 hc
              have := (dataL_len hd).2.2.1
              exact ⟨by simp only [List.length_cons]; omega, i2⟩
      · split at h
        · cases h
        · rename_i hk
          injection h with h
          injection h with h1 h2
          injection h1 with h1 h3
          subst h2 h3
          exact ⟨by simp, hk⟩
section
variable {rd rd' : Int → List UInt8 → Except Int Val}
theorem itemF_congr {N : Nat} (h : ∀ c d, d.length < N → rd c d = rd' c d) (ns : List Val) (c : Int) (l : List UInt8) (hl : l.length < N) : itemF rd ns c l = itemF rd' ns c l := by
  unfold itemF
  cases hd : dataL c l with
  | error e => rfl
  | ok y =>
    obtain ⟨d, r⟩ := y
    have := (dataL_len hd).2.2.1
    dsimp only
    rw [h c d (by omega)]
theorem itemF_len {ns : List Val} {c : Int} {l r : List UInt8} {v : Val} (h : itemF rd ns c l = .ok (v, r)) : ∃ d w, dataL c l = .ok (d, r) ∧ rd c d = .ok w ∧ v = callV ns w := by
  unfold itemF at h
  cases hd : dataL c l with
  | error e => rw [hd] at h; cases h
  | ok y =>
    obtain ⟨d, r'⟩ := y
    rw [hd] at h
    dsimp only at h
    cases hr : rd c d with
    | error e => rw [hr] at h; cases h
    | ok w =>
      rw [hr] at h
      dsimp only at h
      injection h with h
      injection h with h1 h2
      subst h2
      exact ⟨d, w, rfl, hr, h1.symm⟩
theorem valF_congr {N : Nat} (h : ∀ c d, d.length < N → rd c d = rd' c d) (l : List UInt8) (hl : l.length ≤ N) : valF rd l = valF rd' l := by
  unfold valF
  cases hc : consL (l.length + 1) l with
  | error e => rfl
  | ok y =>
    obtain ⟨⟨ns, c⟩, r⟩ := y
    have := (consL_len _ _ _ _ _ hc).1
    exact itemF_congr h ns c r (by omega)
theorem valF_len {l r : List UInt8} {v : Val} (h : valF rd l = .ok (v, r)) : r.length < l.length := by
  unfold valF at h
  cases hc : consL (l.length + 1) l with
  | error e => rw [hc] at h; cases h
  | ok y =>
    obtain ⟨⟨ns, c⟩, r'⟩ := y
    rw [hc] at h
    obtain ⟨d, w, h1, _, _⟩ := itemF_len h
    have := (consL_len _ _ _ _ _ hc).1
    have := (dataL_len h1).2.2.1
    omega
end
theorem manyF_congr {st st' : List UInt8 → Except Int (Val × List UInt8)} {N : Nat} (h : ∀ l, l.length ≤ N → st l = st' l) (hlen : ∀ l v r, st l = .ok (v, r) → r.length ≤ l.length) : ∀ (n : Nat) (l : List UInt8), l.length ≤ N → manyF st n l = manyF st' n l
  | 0, _, _ => rfl
  | n + 1, l, hl => by
    simp only [manyF]
    rw [← h l hl]
    cases hs : st l with
    | error e => rfl
    | ok y =>
      obtain ⟨v, l1⟩ := y
      have := hlen l v l1 hs
      dsimp only
      rw [manyF_congr h hlen n l1 (by omega)]
theorem bodyF_congr {rd rd' : Int → List UInt8 → Except Int Val} {N : Nat} (h : ∀ c d, d.length < N → rd c d = rd' c d) (c : Int) (m : Nat) (r : List UInt8) (hr : r.length < N) : bodyF rd c m r = bodyF rd' c m r := by
  unfold bodyF
  split
  · rfl
  · split
    · cases hc : consL (r.length + 1) r with
      | error e => rfl
      | ok y =>
        obtain ⟨⟨ns, C⟩, r2⟩ := y
        have := (consL_len _ _ _ _ _ hc).1
        dsimp only
        rw [manyF_congr (st := itemF rd ns C) (st' := itemF rd' ns C) (N := N - 1) (fun l hl => itemF_congr h ns C l (by omega)) (fun l v r h => by obtain ⟨d, w, h1, _, _⟩ := itemF_len h; have := (dataL_len h1).2.2.1; omega) m r2 (by omega)]
    · rw [manyF_congr (st := valF rd) (st' := valF rd') (N := N) (fun l hl => valF_congr h l hl) (fun l v r h => by have := valF_len h; omega) m r (by omega)]
theorem readF_fuel : ∀ (n m : Nat) (c : Int) (d : List UInt8), d.length < n → d.length < m → readF n c d = readF m c d
  | 0, _, _, _, h, _ => by omega
  | _ + 1, 0, _, _, _, h => by omega
  | n + 1, m + 1, c, d, h1, h2 => by
    rw [readF_succ, readF_succ]
    unfold readS
    split
    · rfl
    · have hw : 1 ≤ wideC c := by unfold wideC; split <;> omega
      unfold takeL
      by_cases ha : d.length < wideC c
      · rw [if_pos ha]
      · rw [if_neg ha]
        dsimp only
        by_cases hb : (d.drop (wideC c)).length < wideC c
        · rw [if_pos hb]
        · rw [if_neg hb]
          dsimp only
          exact bodyF_congr (N := d.length) (fun c' d' hd' => readF_fuel n m c' d' (by omega) (by omega)) c _ _ (by simp only [List.length_drop] at hb ⊢; omega)
end Go.Bw.R1

/- Plain: how large decoded values are. -/
namespace Go.Bw.R1
set_option maxRecDepth 5000
open Go Go.Bw
theorem leafV_sz (c : Int) (d : List UInt8) : (leafV c d).sz ≤ d.length + 1 := by
  have one : ∀ (k n : Int) (t : ByteArray), (Val.mk k n t []).sz = t.size + 0 + 1 := fun k n t => rfl
  have z : ∀ l : List UInt8, (mkT l).size = l.length := fun l => rfl
  unfold leafV
  repeat' split
  all_goals rw [one]
  all_goals first | (show (0 : Nat) + 0 + 1 ≤ _; omega) | (rw [z]; first | omega | (rw [List.length_drop]; omega))
def nmSz (ns : List Val) : Nat := (ns.map fun n => n.sz + 1).sum
theorem callV_size (v : Val) : ∀ ns, (callV ns v).sz = nmSz ns + v.sz
  | [] => by simp [callV, nmSz]
  | n :: ns => by
    have h2 : (callV (n :: ns) v).sz = 0 + Val.szL [n, callV ns v] + 1 := Val.sz_eq _
    rw [h2, Val.szL, Val.szL, Val.szL, callV_size v ns]
    simp only [nmSz, List.map_cons, List.sum_cons]; omega
theorem consL_sz : ∀ (n : Nat) (l : List UInt8) (ns : List Val) (C : Int) (r : List UInt8), consL n l = .ok ((ns, C), r) → nmSz ns + 1 + r.length ≤ l.length ∧ ns.length ≤ l.length
  | 0, _, _, _, _, h => by cases h
  | n + 1, l, ns, C, r, h => by
    rw [consL_succ] at h
    unfold consS at h
    match l, h with
    | [], h => cases h
    | c :: [], h =>
      dsimp only at h
      split at h
      · cases h
      · split at h
        · cases h
        · injection h with h
          injection h with h1 h2
          injection h1 with h1 h3
          subst h1 h2
          exact ⟨by simp [nmSz], Nat.zero_le _⟩
    | c :: k :: r2, h =>
      dsimp only at h
      split at h
      · unfold nameS at h
        split at h
        · cases h
        · cases hd : dataL (u8I k) r2 with
          | error e => rw [hd] at h; cases h
          | ok y =>
            obtain ⟨d, r3⟩ := y
            rw [hd] at h
            dsimp only at h
            cases hc : consL n r3 with
            | error e => rw [hc] at h; cases h
            | ok z =>
              obtain ⟨⟨ms, D⟩, r4⟩ := z
              rw [hc] at h
              dsimp only at h
              injection h with h
              injection h with h1 h2
              injection h1 with h1 h3
              subst h1 h2
              obtain ⟨i1, i2⟩ := consL_sz n r3 ms D r4 hc
              have := (dataL_len hd).2.2.1
              have := leafV_sz (u8I k) d
              simp only [nmSz, List.map_cons, List.sum_cons, List.length_cons] at i1 ⊢
              exact ⟨by omega, by omega⟩
      · split at h
        · cases h
        · injection h with h
          injection h with h1 h2
          injection h1 with h1 h3
          subst h1 h2
          exact ⟨by simp [nmSz]; omega, Nat.zero_le _⟩
theorem manyF_sz {st : List UInt8 → Except Int (Val × List UInt8)} {a : Nat} (h : ∀ l v r, st l = .ok (v, r) → v.sz + 1100 * r.length ≤ a + 1100 * l.length) : ∀ (n : Nat) (l : List UInt8) (vs : List Val) (r : List UInt8), manyF st n l = .ok (vs, r) → Val.szL vs + 1100 * r.length ≤ n * a + 1100 * l.length ∧ vs.length = n
  | 0, l, vs, r, hh => by
    injection hh with hh
    injection hh with h1 h2
    subst h1 h2
    exact ⟨by simp [Val.szL], rfl⟩
  | n + 1, l, vs, r, hh => by
    simp only [manyF] at hh
    cases hs : st l with
    | error e => rw [hs] at hh; cases hh
    | ok y =>
      obtain ⟨v, l1⟩ := y
      rw [hs] at hh
      dsimp only at hh
      cases hm : manyF st n l1 with
      | error e => rw [hm] at hh; cases hh
      | ok z =>
        obtain ⟨ws, l2⟩ := z
        rw [hm] at hh
        dsimp only at hh
        injection hh with hh
        injection hh with h1 h2
        subst h1 h2
        obtain ⟨i1, i2⟩ := manyF_sz h n l1 ws l2 hm
        have := h l v l1 hs
        simp only [Val.szL, List.length_cons, Nat.add_mul]
        exact ⟨by omega, by omega⟩
theorem endF_ok {k : Int} {vs : List Val} {r : List UInt8} {v : Val} (h : endF k (.ok (vs, r)) = .ok v) : v = .mk k 0 e0 vs := by
  have h : (if r.isEmpty = true then Except.ok (.mk k 0 e0 vs) else Except.error 6 : Except Int Val) = .ok v := h
  split at h
  · injection h with h; exact h.symm
  · cases h
theorem readF_sz : ∀ (n : Nat) (c : Int) (d : List UInt8) (v : Val), readF n c d = .ok v → v.sz ≤ 1 + 1100 * d.length
  | 0, _, _, _, h => by cases h
  | n + 1, c, d, v, h => by
    rw [readF_succ] at h
    unfold readS at h
    split at h
    · injection h with h
      subst h
      have := leafV_sz c d; omega
    · unfold takeL at h
      by_cases ha : d.length < wideC c
      · rw [if_pos ha] at h; cases h
      · rw [if_neg ha] at h
        dsimp only at h
        by_cases hb : (d.drop (wideC c)).length < wideC c
        · rw [if_pos hb] at h; cases h
        · rw [if_neg hb] at h
          dsimp only at h
          generalize hm : beN ((d.drop (wideC c)).take (wideC c)) = m at h
          generalize hr : (d.drop (wideC c)).drop (wideC c) = r at h
          have hrl : r.length ≤ d.length := by rw [← hr]; simp only [List.length_drop]; omega
          unfold bodyF at h
          split at h
          · cases h
          · rename_i hm1024
            have fin : ∀ {x : Except Int (List Val × List UInt8)} {B : Nat}, endF (kindC c) x = .ok v → (∀ vs r', x = .ok (vs, r') → Val.szL vs ≤ B) → v.sz ≤ 1 + B := fun {x B} he hx => by
              cases x with
              | error e => cases he
              | ok y =>
                obtain ⟨vs, r'⟩ := y
                have he2 := endF_ok he
                subst he2
                have := hx vs r' rfl
                show 0 + Val.szL vs + 1 ≤ _
                omega
            have item : ∀ ns C l v r, itemF (readF n) ns C l = .ok (v, r) → v.sz + 1100 * r.length ≤ (nmSz ns + 1) + 1100 * l.length := fun ns C l v r hi => by
              obtain ⟨dd, w, h1, h2, rfl⟩ := itemF_len hi
              have := readF_sz n C dd w h2
              have := (dataL_len h1).2.2.1
              rw [callV_size]; omega
            split at h
            · cases hc : consL (r.length + 1) r with
              | error e => rw [hc] at h; cases h
              | ok y =>
                obtain ⟨⟨ns, C⟩, r2⟩ := y
                rw [hc] at h
                dsimp only at h
                have hcs := (consL_sz _ _ _ _ _ hc).1
                have hmul : m * (nmSz ns + 1) ≤ 1024 * (nmSz ns + 1) := Nat.mul_le_mul_right _ (by omega)
                have := fin (B := 1100 * r.length) h fun vs r' hx => by
                  have := (manyF_sz (item ns C) m r2 vs r' hx).1
                  omega
                omega
            · have := fin (B := 1100 * r.length) h fun vs r' hx => by
                have := (manyF_sz (a := 0) (fun l v r hv => by
                  unfold valF at hv
                  cases hc : consL (l.length + 1) l with
                  | error e => rw [hc] at hv; cases hv
                  | ok y =>
                    obtain ⟨⟨ns, C⟩, r2⟩ := y
                    rw [hc] at hv
                    have := (consL_sz _ _ _ _ _ hc).1
                    have := item ns C r2 v r hv
                    omega) m r vs r' hx).1
                omega
              omega
end Go.Bw.R1

/- decode.reader.value, given read. -/
namespace Go.Bw.R1
set_option maxRecDepth 5000
open Go Go.Bw Go.Proofs
def rdR (x : Except Int Val) : R × Sto := match x with
  | .error e => (thr e, [])
  | .ok v => (.ret v.d, [])
def valR (s : ByteArray) (x : Except Int (Val × List UInt8)) : R × Sto := match x with
  | .error e => (thr e, [some ⟨0, [.undef, .undef]⟩])
  | .ok (v, r) => (.ret v.d, [some ⟨0, rdr s (s.size - r.length)⟩])
/-- read answers as the plain decoder, of data shorter than N -/
def RdE (N : Nat) : Prop := ∀ (c : Int) (d : ByteArray), kindC c ≠ 0 → d.size < N → d.size ≤ 36000 → (c < 160 → d.size = fixC c) → (160 ≤ c → wideC c ≤ d.size) → EV 54 [.sc (.int .u8 c), .ro false (bytesD d)] [] = some (rdR (readF (d.size + 1) c (toL d)))
theorem consL_suf : ∀ (n : Nat) (l : List UInt8) (ns : List Val) (C : Int) (r : List UInt8), consL n l = .ok ((ns, C), r) → ∃ p, l = p ++ r
  | 0, _, _, _, _, h => by cases h
  | n + 1, l, ns, C, r, h => by
    rw [consL_succ] at h
    unfold consS at h
    match l, h with
    | [], h => cases h
    | c :: [], h =>
      dsimp only at h
      split at h
      · cases h
      · split at h
        · cases h
        · injection h with h
          injection h with h1 h2
          subst h2
          exact ⟨[c], rfl⟩
    | c :: k :: r2, h =>
      dsimp only at h
      split at h
      · unfold nameS at h
        split at h
        · cases h
        · cases hd : dataL (u8I k) r2 with
          | error e => rw [hd] at h; cases h
          | ok y =>
            obtain ⟨d, r3⟩ := y
            rw [hd] at h
            dsimp only at h
            cases hc : consL n r3 with
            | error e => rw [hc] at h; cases h
            | ok z =>
              obtain ⟨⟨ms, D⟩, r4⟩ := z
              rw [hc] at h
              dsimp only at h
              injection h with h
              injection h with h1 h2
              subst h2
              obtain ⟨p, hp⟩ := consL_suf n r3 ms D r4 hc
              exact ⟨c :: k :: (d ++ p), by rw [(dataL_len hd).2.2.2, hp]; simp⟩
      · split at h
        · cases h
        · injection h with h
          injection h with h1 h2
          subst h2
          exact ⟨[c], rfl⟩
theorem suf_drop {s : ByteArray} {at_ : Nat} {p r : List UInt8} (ha : at_ ≤ s.size) (h : (toL s).drop at_ = p ++ r) : r = (toL s).drop (at_ + p.length) ∧ at_ + p.length ≤ s.size := by
  have hl := congrArg List.length h
  rw [List.length_drop, toL_len, List.length_append] at hl
  refine ⟨?_, by omega⟩
  rw [← List.drop_drop, h, List.drop_left]
/-- what stands behind a constructor -/
theorem item_step {N : Nat} (hR : RdE N) (s : ByteArray) (q : Nat) (ns : List Val) (C : Int) (hq : q ≤ s.size) (hs : s.size ≤ N) (hs2 : s.size ≤ 36000) (hq0 : 0 < q) (hC : kindC C ≠ 0) :
    (∃ e, dataL C ((toL s).drop q) = .error e ∧ itemF (readF N) ns C ((toL s).drop q) = .error e) ∨
    ∃ d q2, q ≤ q2 ∧ q2 ≤ s.size ∧ dataL C ((toL s).drop q) = .ok (d, (toL s).drop q2) ∧
      ((∃ e, EV 54 [.sc (.int .u8 C), .ro false (bytesD (mkT d))] [] = some (thr e, []) ∧ itemF (readF N) ns C ((toL s).drop q) = .error e) ∨
       ∃ w, EV 54 [.sc (.int .u8 C), .ro false (bytesD (mkT d))] [] = some (.ret w.d, []) ∧ itemF (readF N) ns C ((toL s).drop q) = .ok (callV ns w, (toL s).drop q2) ∧ w.sz ≤ 1 + 1100 * d.length ∧ q2 = q + d.length) := by
  unfold itemF
  cases hd : dataL C ((toL s).drop q) with
  | error e => exact .inl ⟨e, rfl, rfl⟩
  | ok y =>
    obtain ⟨d, r⟩ := y
    obtain ⟨l1, l2, l3, l4⟩ := dataL_len hd
    obtain ⟨e1, e2⟩ := suf_drop hq l4
    have hz : (mkT d).size = d.length := rfl
    have hrd := hR C (mkT d) hC (by rw [hz]; omega) (by rw [hz]; omega) (fun h => by rw [hz]; exact l1 h) (fun h => by rw [hz]; exact l2 h)
    rw [toL_mkT, hz, readF_fuel (d.length + 1) N C d (by omega) (by omega)] at hrd
    refine .inr ⟨d, q + d.length, by omega, e2, by rw [e1], ?_⟩
    dsimp only
    cases hf : readF N C d with
    | error e => rw [hf] at hrd; exact .inl ⟨e, hrd, rfl⟩
    | ok w => rw [hf] at hrd; exact .inr ⟨w, hrd, by rw [e1], readF_sz N C d w hf, rfl⟩
set_option maxHeartbeats 4000000 in
theorem value_step {N : Nat} (hR : RdE N) (s : ByteArray) (at_ : Nat) (ha : at_ ≤ s.size) (hs : s.size ≤ N) (hs2 : s.size ≤ 36000) : EV 37 [.ptr 0 0 0] [some ⟨0, rdr s at_⟩] = some (valR s (valF (readF N) ((toL s).drop at_))) := by
  have hc := cons_c' s at_ ha (by omega)
  refine (ev_body ⟨[], [], [(2, [(4, 0, false), (5, 0, false), (6, 0, false), (7, 0, true), (2, 0, false), (3, 0, false), (8, 0, true), (0, 0, false), (1, 0, false), (9, 0, true), (10, 0, true)]), (4000002, [(7, 0, false), (0, 0, false), (1, 0, false), (2, 0, false), (3, 0, false), (4, 0, false), (5, 0, false), (6, 0, false)]), (5000002, [(8, 0, false), (4, 0, false), (5, 0, false), (6, 0, false), (7, 0, true), (0, 0, false), (1, 0, false), (2, 0, false), (3, 0, false)])], true, [], noIt⟩ [.cell 2 27] rfl Tryd.func37 rfl rfl rfl (by kernel_rfl) (by show 1 ≤ 16; decide) (by kernel_rfl)).trans ?_
  unfold valF
  rw [consL_fuel (((toL s).drop at_).length + 1) (s.size - at_ + 1) _ (by omega) (by rw [List.length_drop, toL_len]; omega)]
  cases hcon : consL (s.size - at_ + 1) ((toL s).drop at_) with
  | error e =>
    rw [hcon] at hc
    unfold conR at hc
    simp only [rdr] at hc
    simp +contextual (maxSteps := 10000000) only [↓reduceIte, go_sem, Nat.reduceEqDiff, Nat.reduceAdd, Nat.reduceSub, Nat.reduceMul, Nat.reduceLeDiff, Nat.reduceLT, Nat.reduceBEq, Nat.reduceDiv, Nat.reduceMod, Int.reduceLE, Int.reduceLT, Int.reduceEq, Int.reduceBEq, Int.reduceBNe, Int.reduceAdd, Int.reduceSub, Int.reduceNeg, Int.reduceToNat, Int.reduceMul, Int.reducePow, Nat.reducePow, reduceCtorEq, hc]
    rfl
  | ok y =>
    obtain ⟨⟨ns, C⟩, r⟩ := y
    obtain ⟨p, hp⟩ := consL_suf _ _ _ _ _ hcon
    obtain ⟨e1, e2⟩ := suf_drop ha hp
    obtain ⟨z1, z2⟩ := consL_sz _ _ _ _ _ hcon
    obtain ⟨z3, hC⟩ := consL_len _ _ _ _ _ hcon
    obtain ⟨C0, C1⟩ := code_byte hC
    rw [hcon] at hc
    unfold conR at hc
    dsimp only at hc ⊢
    generalize hq : at_ + p.length = q at *
    subst e1
    rw [List.length_drop, List.length_drop, toL_len] at z1 z3
    rw [List.length_drop, toL_len] at z2
    rw [left_at s q e2] at hc
    have hdat := data_c' C s q e2 (by omega) C0 C1
    unfold datR at hdat
    simp only [rdr] at hc hdat
    rcases item_step hR s q ns C e2 hs hs2 (by omega) hC with ⟨e, h1, h2⟩ | ⟨d, q2, g1, g2, h1, h2⟩
    · rw [h1] at hdat
      rw [h2]
      dsimp only at hdat
      simp +contextual (maxSteps := 10000000) only [↓reduceIte, go_sem, Nat.reduceEqDiff, Nat.reduceAdd, Nat.reduceSub, Nat.reduceMul, Nat.reduceLeDiff, Nat.reduceLT, Nat.reduceBEq, Nat.reduceDiv, Nat.reduceMod, Int.reduceLE, Int.reduceLT, Int.reduceEq, Int.reduceBEq, Int.reduceBNe, Int.reduceAdd, Int.reduceSub, Int.reduceNeg, Int.reduceToNat, Int.reduceMul, Int.reducePow, Nat.reducePow, reduceCtorEq, hc, hdat]
      rfl
    · rw [h1] at hdat
      dsimp only at hdat
      rw [left_at s q2 g2] at hdat
      rcases h2 with ⟨e, h2, h3⟩ | ⟨w, h2, h3, h4, h5⟩
      · rw [h3]
        simp +contextual (maxSteps := 10000000) only [↓reduceIte, go_sem, Nat.reduceEqDiff, Nat.reduceAdd, Nat.reduceSub, Nat.reduceMul, Nat.reduceLeDiff, Nat.reduceLT, Nat.reduceBEq, Nat.reduceDiv, Nat.reduceMod, Int.reduceLE, Int.reduceLT, Int.reduceEq, Int.reduceBEq, Int.reduceBNe, Int.reduceAdd, Int.reduceSub, Int.reduceNeg, Int.reduceToNat, Int.reduceMul, Int.reducePow, Nat.reducePow, reduceCtorEq, hc, hdat, h2]
        rfl
      · have hcall := call_c ns w (by rw [callV_size]; omega) (by omega)
        rw [h3]
        unfold valR
        dsimp only
        rw [left_at s q2 g2]
        simp +contextual (maxSteps := 10000000) only [↓reduceIte, go_sem, Nat.reduceEqDiff, Nat.reduceAdd, Nat.reduceSub, Nat.reduceMul, Nat.reduceLeDiff, Nat.reduceLT, Nat.reduceBEq, Nat.reduceDiv, Nat.reduceMod, Int.reduceLE, Int.reduceLT, Int.reduceEq, Int.reduceBEq, Int.reduceBNe, Int.reduceAdd, Int.reduceSub, Int.reduceNeg, Int.reduceToNat, Int.reduceMul, Int.reducePow, Nat.reducePow, reduceCtorEq, hc, hdat, h2, hcall]
end Go.Bw.R1

/- decode.within's closure. -/
namespace Go.Bw.R1
set_option maxRecDepth 5000
open Go Go.Bw Go.Proofs
abbrev toldR (ns : List Val) (C : Int) : List D := [.ro false (ns.map Val.d), .sc (.int .u8 C)]
def itmR (ns : List Val) (C : Int) (s : ByteArray) (x : Except Int (Val × List UInt8)) : R × Sto := match x with
  | .error e => (thr e, [some ⟨0, [.undef, .undef]⟩, some ⟨0, [.undef]⟩, some ⟨0, [.undef, .undef]⟩])
  | .ok (v, r) => (.ret v.d, [some ⟨0, toldR ns C⟩, some ⟨0, [.ptr 2 0 0]⟩, some ⟨0, rdr s (s.size - r.length)⟩])
set_option maxHeartbeats 4000000 in
theorem within1_step {N : Nat} (hR : RdE N) (s : ByteArray) (q : Nat) (ns : List Val) (C : Int) (hq : q ≤ s.size) (hs : s.size ≤ N) (hs2 : s.size ≤ 36000) (hq0 : 0 < q) (hC : kindC C ≠ 0) (hn : nmSz ns ≤ 36000) (hnl : ns.length ≤ 36000) :
    EV 99 [.ptr 0 0 0, .ptr 1 0 0] [some ⟨0, toldR ns C⟩, some ⟨0, [.ptr 2 0 0]⟩, some ⟨0, rdr s q⟩] = some (itmR ns C s (itemF (readF N) ns C ((toL s).drop q))) := by
  obtain ⟨C0, C1⟩ := code_byte hC
  have hdat := data_c' C s q hq (by omega) C0 C1
  unfold datR at hdat
  simp only [rdr] at hdat
  refine (ev_body ⟨[], [], [(1, [(4, 0, false), (5, 0, false), (6, 0, false), (7, 0, true), (2, 0, false), (3, 0, false), (8, 0, true), (0, 0, false), (1, 0, false), (9, 0, true), (10, 0, true)]), (4000001, [(7, 0, false), (0, 0, false), (1, 0, false), (2, 0, false), (3, 0, false), (4, 0, false), (5, 0, false), (6, 0, false)]), (5000001, [(8, 0, false), (4, 0, false), (5, 0, false), (6, 0, false), (7, 0, true), (0, 0, false), (1, 0, false), (2, 0, false), (3, 0, false)])], true, [], noIt⟩ [.cell 2 27] rfl Tryd.func99 rfl rfl rfl (by kernel_rfl) (by show 2 ≤ 13; decide) (by kernel_rfl)).trans ?_
  rcases item_step hR s q ns C hq hs hs2 hq0 hC with ⟨e, h1, h2⟩ | ⟨d, q2, g1, g2, h1, h2⟩
  · rw [h1] at hdat
    rw [h2]
    dsimp only at hdat
    simp +contextual (maxSteps := 10000000) only [↓reduceIte, go_sem, Nat.reduceEqDiff, Nat.reduceAdd, Nat.reduceSub, Nat.reduceMul, Nat.reduceLeDiff, Nat.reduceLT, Nat.reduceBEq, Nat.reduceDiv, Nat.reduceMod, Int.reduceLE, Int.reduceLT, Int.reduceEq, Int.reduceBEq, Int.reduceBNe, Int.reduceAdd, Int.reduceSub, Int.reduceNeg, Int.reduceToNat, Int.reduceMul, Int.reducePow, Nat.reducePow, reduceCtorEq, hdat]
    rfl
  · rw [h1] at hdat
    dsimp only at hdat
    rw [left_at s q2 g2] at hdat
    rcases h2 with ⟨e, h2, h3⟩ | ⟨w, h2, h3, h4, h5⟩
    · rw [h3]
      simp +contextual (maxSteps := 10000000) only [↓reduceIte, go_sem, Nat.reduceEqDiff, Nat.reduceAdd, Nat.reduceSub, Nat.reduceMul, Nat.reduceLeDiff, Nat.reduceLT, Nat.reduceBEq, Nat.reduceDiv, Nat.reduceMod, Int.reduceLE, Int.reduceLT, Int.reduceEq, Int.reduceBEq, Int.reduceBNe, Int.reduceAdd, Int.reduceSub, Int.reduceNeg, Int.reduceToNat, Int.reduceMul, Int.reducePow, Nat.reducePow, reduceCtorEq, hdat, h2]
      rfl
    · have hcall := call_c ns w (by rw [callV_size]; omega) (by omega)
      rw [h3]
      unfold itmR
      dsimp only
      rw [left_at s q2 g2]
      simp +contextual (maxSteps := 10000000) only [↓reduceIte, go_sem, Nat.reduceEqDiff, Nat.reduceAdd, Nat.reduceSub, Nat.reduceMul, Nat.reduceLeDiff, Nat.reduceLT, Nat.reduceBEq, Nat.reduceDiv, Nat.reduceMod, Int.reduceLE, Int.reduceLT, Int.reduceEq, Int.reduceBEq, Int.reduceBNe, Int.reduceAdd, Int.reduceSub, Int.reduceNeg, Int.reduceToNat, Int.reduceMul, Int.reducePow, Nat.reducePow, reduceCtorEq, hdat, h2, hcall]
end Go.Bw.R1

/- decode.within. -/
namespace Go.Bw.R1
set_option maxRecDepth 5000
open Go Go.Bw Go.Proofs
theorem drop0 (s : ByteArray) : (toL s).drop 0 = toL s := rfl
theorem valF_pos {rd : Int → List UInt8 → Except Int Val} {s : ByteArray} {p : Nat} {v : Val} {r : List UInt8} (hp : p ≤ s.size) (h : valF rd ((toL s).drop p) = .ok (v, r)) : ∃ p', p < p' ∧ p' ≤ s.size ∧ r = (toL s).drop p' := by
  have hlen := valF_len h
  unfold valF at h
  cases hc : consL (((toL s).drop p).length + 1) ((toL s).drop p) with
  | error e => rw [hc] at h; cases h
  | ok y =>
    obtain ⟨⟨ns, C⟩, r2⟩ := y
    rw [hc] at h
    obtain ⟨d, w, h1, _, _⟩ := itemF_len h
    obtain ⟨a, ha⟩ := consL_suf _ _ _ _ _ hc
    have hb := (dataL_len h1).2.2.2
    obtain ⟨e1, e2⟩ := suf_drop (p := a ++ d) (r := r) hp (by rw [ha, hb, List.append_assoc])
    refine ⟨p + (a ++ d).length, ?_, e2, e1⟩
    rw [e1, List.length_drop, List.length_drop, toL_len] at hlen
    omega
theorem itemF_pos {rd : Int → List UInt8 → Except Int Val} {s : ByteArray} {p : Nat} {ns : List Val} {C : Int} {v : Val} {r : List UInt8} (hp : p ≤ s.size) (h : itemF rd ns C ((toL s).drop p) = .ok (v, r)) : ∃ p', p ≤ p' ∧ p' ≤ s.size ∧ r = (toL s).drop p' := by
  obtain ⟨d, w, h1, _, _⟩ := itemF_len h
  obtain ⟨e1, e2⟩ := suf_drop hp (dataL_len h1).2.2.2
  exact ⟨p + d.length, by omega, e2, e1⟩
def addM (vs : List Val) : Except Int (List Val × List UInt8) → Except Int (List Val × List UInt8)
  | .error e => .error e
  | .ok (ws, r) => .ok (vs ++ ws, r)
theorem addM_nil (x : Except Int (List Val × List UInt8)) : addM [] x = x := by
  cases x with
  | error e => rfl
  | ok y => rfl
theorem addM_step {st : List UInt8 → Except Int (Val × List UInt8)} {n : Nat} {l l1 : List UInt8} {v : Val} (vs : List Val) (h : st l = .ok (v, l1)) : addM vs (manyF st (n + 1) l) = addM (vs ++ [v]) (manyF st n l1) := by
  simp only [manyF, h]
  cases manyF st n l1 with
  | error e => rfl
  | ok y => obtain ⟨ws, r⟩ := y; simp only [addM, List.append_assoc, List.cons_append, List.nil_append]
theorem addM_err {st : List UInt8 → Except Int (Val × List UInt8)} {n : Nat} {l : List UInt8} {e : Int} (vs : List Val) (h : st l = .error e) : addM vs (manyF st (n + 1) l) = .error e := by
  simp only [manyF, h, addM]
abbrev zeV : List D := [.sc (.int .u8 0), .sc (.int .u64 0), .sc (.string ⟨#[]⟩), .nils]
set_option maxHeartbeats 8000000 in
theorem within_step {N : Nat} (hR : RdE N) (c : Int) (d : ByteArray) (hc : ¬ c < 192) (hk : kindC c ≠ 0) (hs : d.size ≤ N) (hs2 : d.size ≤ 36000) : EV 75 [.sc (.int .u8 c), .ro false (bytesD d)] [] = some (rdR (readS (readF N) c (toL d))) := by
  obtain ⟨c0, c1⟩ := code_byte hk
  have hwd := wide_c c (by omega) c1
  have hw4 : wideC c ≤ 4 ∧ 1 ≤ wideC c := by unfold wideC; split <;> omega
  generalize hw : wideC c = w at *
  refine (ev_body ⟨[], [(0, [1, 4, 5, 6, 8, 36, 37])], [(3, [(0, 0, false), (1, 0, false), (2, 0, false), (3, 0, true)]), (4000003, [(3, 0, false), (0, 0, false), (1, 0, false), (2, 0, false)]), (4, [(0, 0, false), (1, 0, false), (2, 0, false), (3, 0, true), (4, 1, false)]), (4000004, [(3, 0, false), (0, 0, false), (1, 0, false), (2, 0, false)]), (13, [(2, 0, false), (3, 0, true), (0, 0, false), (1, 0, false), (4, 1, false), (5, 0, true), (6, 2, false), (7, 0, true)]), (4000013, [(3, 0, false), (0, 0, false), (1, 0, false), (2, 0, false)])], true, [], noIt⟩ [.cell 4 27] rfl Tryd.func75 rfl rfl rfl (by kernel_rfl) (by show 2 ≤ 56; decide) (by kernel_rfl)).trans ?_
  unfold readS
  rw [if_neg hc, ← drop0 d, hw, takeL_at]
  by_cases h1 : d.size - 0 < w
  · rw [if_pos h1]
    have ht := take_no d 0 w (Nat.zero_le _) (by omega) (by omega)
    simp only [rdr, Int.cast_ofNat_Int] at ht
    simp +contextual (maxSteps := 10000000) only [↓reduceIte, go_sem, Nat.reduceEqDiff, Nat.reduceAdd, Nat.reduceSub, Nat.reduceMul, Nat.reduceLeDiff, Nat.reduceLT, Nat.reduceBEq, Nat.reduceDiv, Nat.reduceMod, Int.reduceLE, Int.reduceLT, Int.reduceEq, Int.reduceBEq, Int.reduceBNe, Int.reduceAdd, Int.reduceSub, Int.reduceNeg, Int.reduceToNat, Int.reduceMul, Int.reducePow, Nat.reducePow, reduceCtorEq, look_kinds mapTk, gl_kinds, hwd, ht]
    rfl
  · rw [if_neg h1]
    dsimp only
    rw [takeL_at]
    have ht := take_ok d 0 w (by omega) (by omega)
    have hn := number_c' d (0 + w) w (by omega) (by omega) hw4.1
    unfold numR at hn
    by_cases h2 : d.size - (0 + w) < w
    · rw [if_pos h2] at hn ⊢
      simp only [rdr, Int.cast_ofNat_Int, Nat.zero_add] at ht hn
      simp +contextual (maxSteps := 10000000) only [↓reduceIte, go_sem, Nat.reduceEqDiff, Nat.reduceAdd, Nat.reduceSub, Nat.reduceMul, Nat.reduceLeDiff, Nat.reduceLT, Nat.reduceBEq, Nat.reduceDiv, Nat.reduceMod, Int.reduceLE, Int.reduceLT, Int.reduceEq, Int.reduceBEq, Int.reduceBNe, Int.reduceAdd, Int.reduceSub, Int.reduceNeg, Int.reduceToNat, Int.reduceMul, Int.reducePow, Nat.reducePow, reduceCtorEq, look_kinds mapTk, gl_kinds, hwd, ht, hn]
      rfl
    · rw [if_neg h2] at hn ⊢
      dsimp only
      generalize beN (toL (d.extract (0 + w) (0 + w + w))) = m at *
      simp only [rdr, Int.cast_ofNat_Int, Nat.zero_add, Int.natCast_add] at ht hn
      simp only [Nat.zero_add]
      have hq : w + w ≤ d.size := by omega
      unfold bodyF
      by_cases h3 : 1024 < m
      · rw [if_pos h3]
        have h3' : decide ((1024 : Int) < m) = true := decide_eq_true (by omega)
        simp +contextual (maxSteps := 10000000) only [↓reduceIte, go_sem, Nat.reduceEqDiff, Nat.reduceAdd, Nat.reduceSub, Nat.reduceMul, Nat.reduceLeDiff, Nat.reduceLT, Nat.reduceBEq, Nat.reduceDiv, Nat.reduceMod, Int.reduceLE, Int.reduceLT, Int.reduceEq, Int.reduceBEq, Int.reduceBNe, Int.reduceAdd, Int.reduceSub, Int.reduceNeg, Int.reduceToNat, Int.reduceMul, Int.reducePow, Nat.reducePow, reduceCtorEq, look_kinds mapTk, gl_kinds, hwd, ht, hn, h3']
        rfl
      · rw [if_neg h3]
        have h3' : decide ((1024 : Int) < m) = false := decide_eq_false (by omega)
        by_cases h24 : kindC c = 24
        · rw [if_pos h24]
          have hcc := cons_c' d (w + w) hq (by omega)
          have hka : (kindC c == 24) = true := by simpa using h24
          rw [consL_fuel (((toL d).drop (w + w)).length + 1) (d.size - (w + w) + 1) _ (by omega) (by rw [List.length_drop, toL_len]; omega)]
          cases hcon : consL (d.size - (w + w) + 1) ((toL d).drop (w + w)) with
          | error e =>
            rw [hcon] at hcc
            unfold conR at hcc
            simp only [rdr, Int.natCast_add] at hcc
            simp +contextual (maxSteps := 10000000) only [↓reduceIte, go_sem, Nat.reduceEqDiff, Nat.reduceAdd, Nat.reduceSub, Nat.reduceMul, Nat.reduceLeDiff, Nat.reduceLT, Nat.reduceBEq, Nat.reduceDiv, Nat.reduceMod, Int.reduceLE, Int.reduceLT, Int.reduceEq, Int.reduceBEq, Int.reduceBNe, Int.reduceAdd, Int.reduceSub, Int.reduceNeg, Int.reduceToNat, Int.reduceMul, Int.reducePow, Nat.reducePow, reduceCtorEq, look_kinds mapTk, gl_kinds, hwd, ht, hn, h3', hka, hcc]
            rfl
          | ok y =>
            obtain ⟨⟨ns, C⟩, r⟩ := y
            obtain ⟨pp, hpp⟩ := consL_suf _ _ _ _ _ hcon
            obtain ⟨e1, hq2⟩ := suf_drop hq hpp
            obtain ⟨z1, z2⟩ := consL_sz _ _ _ _ _ hcon
            obtain ⟨z3, hC⟩ := consL_len _ _ _ _ _ hcon
            rw [hcon] at hcc
            unfold conR at hcc
            dsimp only at hcc ⊢
            generalize hqq : w + w + pp.length = q at *
            subst e1
            have hn1 : nmSz ns ≤ 36000 := by rw [List.length_drop, List.length_drop, toL_len] at z1; omega
            have hn2 : ns.length ≤ 36000 := by rw [List.length_drop, toL_len] at z2; omega
            have hq0 : 0 < q := by omega
            rw [left_at d q hq2] at hcc
            simp only [rdr, Int.natCast_add] at hcc
            simp +contextual (maxSteps := 10000000) only [↓reduceIte, go_sem, Nat.reduceEqDiff, Nat.reduceAdd, Nat.reduceSub, Nat.reduceMul, Nat.reduceLeDiff, Nat.reduceLT, Nat.reduceBEq, Nat.reduceDiv, Nat.reduceMod, Int.reduceLE, Int.reduceLT, Int.reduceEq, Int.reduceBEq, Int.reduceBNe, Int.reduceAdd, Int.reduceSub, Int.reduceNeg, Int.reduceToNat, Int.reduceMul, Int.reducePow, Nat.reducePow, reduceCtorEq, look_kinds mapTk, gl_kinds, hwd, ht, hn, h3', hka, hcc]
            refine lpK_inv (fun m0 f es => ∃ (p : Nat) (vs : List Val), vs.length + m0 = m ∧ 0 < p ∧ p ≤ d.size ∧ manyF (itemF (readF N) ns C) m ((toL d).drop q) = addM vs (manyF (itemF (readF N) ns C) m0 ((toL d).drop p)) ∧
              ((vs = [] ∧ f = [(1, .ro false (bytesD d)), (4, .ptr 0 0 0), (5, .ptr 1 0 0), (6, .ptr 2 0 0), (8, .fn (.func 99) [] [.ptr 4 0 0, .ptr 2 0 0]), (36, I m), (37, I (vs.length : Nat))] ∧ es = [some ⟨0, zeV⟩, some ⟨0, [.sc (.int .u8 (kindC c)), .sc (.int .u64 0), .sc (.string ⟨#[]⟩), .nils]⟩, some ⟨0, [.ptr 3 0 0]⟩, some ⟨0, rdr d p⟩, some ⟨0, toldR ns C⟩]) ∨
               (vs ≠ [] ∧ f = [(1, .ro false (bytesD d)), (4, .ptr 0 0 0), (5, .ptr 1 0 0), (6, .ptr 3 0 0), (8, .fn (.func 99) [] [.ptr 5 0 0, .ptr 3 0 0]), (36, I m), (37, I (vs.length : Nat))] ∧ es = [some ⟨0, zeV⟩, some ⟨0, [.sc (.int .u8 (kindC c)), .sc (.int .u64 0), .sc (.string ⟨#[]⟩), .ref 2 0 4 0 vs.length]⟩, some ⟨0, rowE Val.d vs⟩, some ⟨0, [.ptr 4 0 0]⟩, some ⟨0, rdr d p⟩, some ⟨0, toldR ns C⟩]))) m ⟨q, [], by simp, hq0, hq2, (addM_nil _).symm, .inl ⟨rfl, rfl, rfl⟩⟩ ?_
            rintro m0 _ _ ⟨p, vs, hm, hp0, hp, hmany, hst⟩ ih
            rw [hmany]
            have hv := within1_step hR d p ns C hp hs hs2 hp0 hC hn1 hn2
            have fz (es : Sto) (F : Nat → Bool) (n i v : Nat) : fsE es F n i v 4 0 vs.length true (some ⟨v, rowE Val.d vs⟩) = .ro false (vs.map Val.d) := fsE_rowE valOk rfl
            cases m0 with
            | zero =>
              have hlt : decide ((vs.length : Int) < m) = false := decide_eq_false (by omega)
              have hend : endF (kindC c) (addM vs (manyF (itemF (readF N) ns C) 0 ((toL d).drop p))) = if d.size ≤ p then .ok (.mk (kindC c) 0 e0 vs) else .error 6 := by
                show endF (kindC c) (.ok (vs ++ [], (toL d).drop p)) = _
                rw [List.append_nil]
                show (if ((toL d).drop p).isEmpty = true then Except.ok (Val.mk (kindC c) 0 e0 vs) else .error 6) = _
                by_cases hpe : d.size ≤ p
                · rw [if_pos hpe, List.drop_eq_nil_of_le (by rw [toL_len]; exact hpe)]; rfl
                · rw [if_neg hpe, if_neg]
                  rw [List.isEmpty_iff]
                  intro hh
                  have := congrArg List.length hh
                  rw [List.length_drop, toL_len, List.length_nil] at this; omega
              rw [hend]
              by_cases hpe : d.size ≤ p
              · have hpl : decide ((p : Int) < d.size) = false := decide_eq_false (by omega)
                rw [if_pos hpe]
                rcases hst with ⟨rfl, rfl, rfl⟩ | ⟨hne, rfl, rfl⟩
                · have hlt0 : decide ((0 : Int) < m) = false := hlt
                  simp +contextual (maxSteps := 10000000) only [↓reduceIte, go_sem, Nat.reduceEqDiff, Nat.reduceAdd, Nat.reduceSub, Nat.reduceMul, Nat.reduceLeDiff, Nat.reduceLT, Nat.reduceBEq, Nat.reduceDiv, Nat.reduceMod, Int.reduceLE, Int.reduceLT, Int.reduceEq, Int.reduceBEq, Int.reduceBNe, Int.reduceAdd, Int.reduceSub, Int.reduceNeg, Int.reduceToNat, Int.reduceMul, Int.reducePow, Nat.reducePow, reduceCtorEq, hlt, hlt0, hpl]
                  rfl
                · simp +contextual (maxSteps := 10000000) only [↓reduceIte, go_sem, Nat.reduceEqDiff, Nat.reduceAdd, Nat.reduceSub, Nat.reduceMul, Nat.reduceLeDiff, Nat.reduceLT, Nat.reduceBEq, Nat.reduceDiv, Nat.reduceMod, Int.reduceLE, Int.reduceLT, Int.reduceEq, Int.reduceBEq, Int.reduceBNe, Int.reduceAdd, Int.reduceSub, Int.reduceNeg, Int.reduceToNat, Int.reduceMul, Int.reducePow, Nat.reducePow, reduceCtorEq, hlt, hpl, fz]
                  rfl
              · have hpl : decide ((p : Int) < d.size) = true := decide_eq_true (by omega)
                rw [if_neg hpe]
                rcases hst with ⟨rfl, rfl, rfl⟩ | ⟨hne, rfl, rfl⟩
                · have hlt0 : decide ((0 : Int) < m) = false := hlt
                  simp +contextual (maxSteps := 10000000) only [↓reduceIte, go_sem, Nat.reduceEqDiff, Nat.reduceAdd, Nat.reduceSub, Nat.reduceMul, Nat.reduceLeDiff, Nat.reduceLT, Nat.reduceBEq, Nat.reduceDiv, Nat.reduceMod, Int.reduceLE, Int.reduceLT, Int.reduceEq, Int.reduceBEq, Int.reduceBNe, Int.reduceAdd, Int.reduceSub, Int.reduceNeg, Int.reduceToNat, Int.reduceMul, Int.reducePow, Nat.reducePow, reduceCtorEq, hlt, hlt0, hpl]
                  rfl
                · simp +contextual (maxSteps := 10000000) only [↓reduceIte, go_sem, Nat.reduceEqDiff, Nat.reduceAdd, Nat.reduceSub, Nat.reduceMul, Nat.reduceLeDiff, Nat.reduceLT, Nat.reduceBEq, Nat.reduceDiv, Nat.reduceMod, Int.reduceLE, Int.reduceLT, Int.reduceEq, Int.reduceBEq, Int.reduceBNe, Int.reduceAdd, Int.reduceSub, Int.reduceNeg, Int.reduceToNat, Int.reduceMul, Int.reducePow, Nat.reducePow, reduceCtorEq, hlt, hpl, fz]
                  rfl
            | succ m0 =>
              have hlt : decide ((vs.length : Int) < m) = true := decide_eq_true (by omega)
              cases hval : itemF (readF N) ns C ((toL d).drop p) with
              | error e =>
                rw [hval] at hv
                rw [addM_err vs hval]
                unfold itmR at hv
                simp only [rdr, toldR] at hv
                rcases hst with ⟨rfl, rfl, rfl⟩ | ⟨hne, rfl, rfl⟩
                · have hlt0 : decide ((0 : Int) < m) = true := hlt
                  simp +contextual (maxSteps := 10000000) only [↓reduceIte, go_sem, Nat.reduceEqDiff, Nat.reduceAdd, Nat.reduceSub, Nat.reduceMul, Nat.reduceLeDiff, Nat.reduceLT, Nat.reduceBEq, Nat.reduceDiv, Nat.reduceMod, Int.reduceLE, Int.reduceLT, Int.reduceEq, Int.reduceBEq, Int.reduceBNe, Int.reduceAdd, Int.reduceSub, Int.reduceNeg, Int.reduceToNat, Int.reduceMul, Int.reducePow, Nat.reducePow, reduceCtorEq, hv, hlt, hlt0]
                  rfl
                · simp +contextual (maxSteps := 10000000) only [↓reduceIte, go_sem, Nat.reduceEqDiff, Nat.reduceAdd, Nat.reduceSub, Nat.reduceMul, Nat.reduceLeDiff, Nat.reduceLT, Nat.reduceBEq, Nat.reduceDiv, Nat.reduceMod, Int.reduceLE, Int.reduceLT, Int.reduceEq, Int.reduceBEq, Int.reduceBNe, Int.reduceAdd, Int.reduceSub, Int.reduceNeg, Int.reduceToNat, Int.reduceMul, Int.reducePow, Nat.reducePow, reduceCtorEq, hv, hlt]
                  rfl
              | ok y =>
                obtain ⟨v, r⟩ := y
                obtain ⟨p', g1, g2, rfl⟩ := itemF_pos hp hval
                rw [hval] at hv
                unfold itmR at hv
                dsimp only at hv
                rw [left_at d p' g2] at hv
                simp only [rdr, toldR] at hv
                have hmany2 : manyF (itemF (readF N) ns C) m ((toL d).drop q) = addM (vs ++ [v]) (manyF (itemF (readF N) ns C) m0 ((toL d).drop p')) := by rw [hmany, addM_step vs hval]
                rw [← hmany]
                rcases hst with ⟨rfl, rfl, rfl⟩ | ⟨hne, rfl, rfl⟩
                · have hlt0 : decide ((0 : Int) < m) = true := hlt
                  simp +contextual (maxSteps := 10000000) only [↓reduceIte, go_sem, Nat.reduceEqDiff, Nat.reduceAdd, Nat.reduceSub, Nat.reduceMul, Nat.reduceLeDiff, Nat.reduceLT, Nat.reduceBEq, Nat.reduceDiv, Nat.reduceMod, Int.reduceLE, Int.reduceLT, Int.reduceEq, Int.reduceBEq, Int.reduceBNe, Int.reduceAdd, Int.reduceSub, Int.reduceNeg, Int.reduceToNat, Int.reduceMul, Int.reducePow, Nat.reducePow, reduceCtorEq, hv, hlt, hlt0, wrap_i64 (n := 1) (by omega) (by omega)]
                  exact ih m0 _ _ (by omega) ⟨p', [v], by simp only [List.length_cons, List.length_nil] at hm ⊢; omega, by omega, g2, hmany2, .inr ⟨by simp, rfl, by rw [rowV_one]; rfl⟩⟩
                · have r1 := valOk.row_len vs
                  have hb56 : ((vs.length + 1) * 56 ≤ 140737488355328) = True := eq_true (by omega)
                  simp +contextual (maxSteps := 10000000) only [↓reduceIte, go_sem, Nat.reduceEqDiff, Nat.reduceAdd, Nat.reduceSub, Nat.reduceMul, Nat.reduceLeDiff, Nat.reduceLT, Nat.reduceBEq, Nat.reduceDiv, Nat.reduceMod, Int.reduceLE, Int.reduceLT, Int.reduceEq, Int.reduceBEq, Int.reduceBNe, Int.reduceAdd, Int.reduceSub, Int.reduceNeg, Int.reduceToNat, Int.reduceMul, Int.reducePow, Nat.reducePow, reduceCtorEq, hv, hlt, wrap_i64 (n := (vs.length : Int) + 1) (by omega) (by omega), r1, hb56, rowV_snoc]
                  refine ih m0 _ _ (by omega) ⟨p', vs ++ [v], by rw [List.length_append]; simp only [List.length_cons, List.length_nil]; omega, by omega, g2, hmany2, .inr ⟨by simp, ?_, ?_⟩⟩
                  · simp only [List.length_append, List.length_cons, List.length_nil, Int.natCast_add]; rfl
                  · simp only [List.length_append, List.length_cons, List.length_nil]
        · rw [if_neg h24]
          have h24' : (kindC c == 24) = false := by simpa using h24
          simp +contextual (maxSteps := 10000000) only [↓reduceIte, go_sem, Nat.reduceEqDiff, Nat.reduceAdd, Nat.reduceSub, Nat.reduceMul, Nat.reduceLeDiff, Nat.reduceLT, Nat.reduceBEq, Nat.reduceDiv, Nat.reduceMod, Int.reduceLE, Int.reduceLT, Int.reduceEq, Int.reduceBEq, Int.reduceBNe, Int.reduceAdd, Int.reduceSub, Int.reduceNeg, Int.reduceToNat, Int.reduceMul, Int.reducePow, Nat.reducePow, reduceCtorEq, look_kinds mapTk, gl_kinds, hwd, ht, hn, h3', h24']
          refine lpK_inv (fun m0 f es => ∃ (p : Nat) (vs : List Val), vs.length + m0 = m ∧ p ≤ d.size ∧ manyF (valF (readF N)) m ((toL d).drop (w + w)) = addM vs (manyF (valF (readF N)) m0 ((toL d).drop p)) ∧
            ((vs = [] ∧ f = [(1, .ro false (bytesD d)), (4, .ptr 0 0 0), (5, .ptr 1 0 0), (6, .ptr 2 0 0), (8, .fn (.func 37) [.ptr 3 0 0] []), (36, I m), (37, I (vs.length : Nat))] ∧ es = [some ⟨0, zeV⟩, some ⟨0, [.sc (.int .u8 (kindC c)), .sc (.int .u64 0), .sc (.string ⟨#[]⟩), .nils]⟩, some ⟨0, [.ptr 3 0 0]⟩, some ⟨0, rdr d p⟩]) ∨
             (vs ≠ [] ∧ f = [(1, .ro false (bytesD d)), (4, .ptr 0 0 0), (5, .ptr 1 0 0), (6, .ptr 3 0 0), (8, .fn (.func 37) [.ptr 4 0 0] []), (36, I m), (37, I (vs.length : Nat))] ∧ es = [some ⟨0, zeV⟩, some ⟨0, [.sc (.int .u8 (kindC c)), .sc (.int .u64 0), .sc (.string ⟨#[]⟩), .ref 2 0 4 0 vs.length]⟩, some ⟨0, rowE Val.d vs⟩, some ⟨0, [.ptr 4 0 0]⟩, some ⟨0, rdr d p⟩]))) m ⟨w + w, [], by simp, hq, (addM_nil _).symm, .inl ⟨rfl, rfl, by simp only [rdr, Int.natCast_add]⟩⟩ ?_
          rintro m0 _ _ ⟨p, vs, hm, hp, hmany, hst⟩ ih
          rw [hmany]
          have hv := value_step hR d p hp hs hs2
          have fz (es : Sto) (F : Nat → Bool) (n i v : Nat) : fsE es F n i v 4 0 vs.length true (some ⟨v, rowE Val.d vs⟩) = .ro false (vs.map Val.d) := fsE_rowE valOk rfl
          cases m0 with
          | zero =>
            have hlt : decide ((vs.length : Int) < m) = false := decide_eq_false (by omega)
            have hend : endF (kindC c) (addM vs (manyF (valF (readF N)) 0 ((toL d).drop p))) = if d.size ≤ p then .ok (.mk (kindC c) 0 e0 vs) else .error 6 := by
              show endF (kindC c) (.ok (vs ++ [], (toL d).drop p)) = _
              rw [List.append_nil]
              show (if ((toL d).drop p).isEmpty = true then Except.ok (Val.mk (kindC c) 0 e0 vs) else .error 6) = _
              by_cases hpe : d.size ≤ p
              · rw [if_pos hpe, List.drop_eq_nil_of_le (by rw [toL_len]; exact hpe)]; rfl
              · rw [if_neg hpe, if_neg]
                rw [List.isEmpty_iff]
                intro hh
                have := congrArg List.length hh
                rw [List.length_drop, toL_len, List.length_nil] at this; omega
            rw [hend]
            by_cases hpe : d.size ≤ p
            · have hpl : decide ((p : Int) < d.size) = false := decide_eq_false (by omega)
              rw [if_pos hpe]
              rcases hst with ⟨rfl, rfl, rfl⟩ | ⟨hne, rfl, rfl⟩
              · have hlt0 : decide ((0 : Int) < m) = false := hlt
                simp +contextual (maxSteps := 10000000) only [↓reduceIte, go_sem, Nat.reduceEqDiff, Nat.reduceAdd, Nat.reduceSub, Nat.reduceMul, Nat.reduceLeDiff, Nat.reduceLT, Nat.reduceBEq, Nat.reduceDiv, Nat.reduceMod, Int.reduceLE, Int.reduceLT, Int.reduceEq, Int.reduceBEq, Int.reduceBNe, Int.reduceAdd, Int.reduceSub, Int.reduceNeg, Int.reduceToNat, Int.reduceMul, Int.reducePow, Nat.reducePow, reduceCtorEq, hlt, hlt0, hpl]
                rfl
              · simp +contextual (maxSteps := 10000000) only [↓reduceIte, go_sem, Nat.reduceEqDiff, Nat.reduceAdd, Nat.reduceSub, Nat.reduceMul, Nat.reduceLeDiff, Nat.reduceLT, Nat.reduceBEq, Nat.reduceDiv, Nat.reduceMod, Int.reduceLE, Int.reduceLT, Int.reduceEq, Int.reduceBEq, Int.reduceBNe, Int.reduceAdd, Int.reduceSub, Int.reduceNeg, Int.reduceToNat, Int.reduceMul, Int.reducePow, Nat.reducePow, reduceCtorEq, hlt, hpl, fz]
                rfl
            · have hpl : decide ((p : Int) < d.size) = true := decide_eq_true (by omega)
              rw [if_neg hpe]
              rcases hst with ⟨rfl, rfl, rfl⟩ | ⟨hne, rfl, rfl⟩
              · have hlt0 : decide ((0 : Int) < m) = false := hlt
                simp +contextual (maxSteps := 10000000) only [↓reduceIte, go_sem, Nat.reduceEqDiff, Nat.reduceAdd, Nat.reduceSub, Nat.reduceMul, Nat.reduceLeDiff, Nat.reduceLT, Nat.reduceBEq, Nat.reduceDiv, Nat.reduceMod, Int.reduceLE, Int.reduceLT, Int.reduceEq, Int.reduceBEq, Int.reduceBNe, Int.reduceAdd, Int.reduceSub, Int.reduceNeg, Int.reduceToNat, Int.reduceMul, Int.reducePow, Nat.reducePow, reduceCtorEq, hlt, hlt0, hpl]
                rfl
              · simp +contextual (maxSteps := 10000000) only [↓reduceIte, go_sem, Nat.reduceEqDiff, Nat.reduceAdd, Nat.reduceSub, Nat.reduceMul, Nat.reduceLeDiff, Nat.reduceLT, Nat.reduceBEq, Nat.reduceDiv, Nat.reduceMod, Int.reduceLE, Int.reduceLT, Int.reduceEq, Int.reduceBEq, Int.reduceBNe, Int.reduceAdd, Int.reduceSub, Int.reduceNeg, Int.reduceToNat, Int.reduceMul, Int.reducePow, Nat.reducePow, reduceCtorEq, hlt, hpl, fz]
                rfl
          | succ m0 =>
            have hlt : decide ((vs.length : Int) < m) = true := decide_eq_true (by omega)
            cases hval : valF (readF N) ((toL d).drop p) with
            | error e =>
              rw [hval] at hv
              rw [addM_err vs hval]
              unfold valR at hv
              simp only [rdr] at hv
              rcases hst with ⟨rfl, rfl, rfl⟩ | ⟨hne, rfl, rfl⟩
              · have hlt0 : decide ((0 : Int) < m) = true := hlt
                simp +contextual (maxSteps := 10000000) only [↓reduceIte, go_sem, Nat.reduceEqDiff, Nat.reduceAdd, Nat.reduceSub, Nat.reduceMul, Nat.reduceLeDiff, Nat.reduceLT, Nat.reduceBEq, Nat.reduceDiv, Nat.reduceMod, Int.reduceLE, Int.reduceLT, Int.reduceEq, Int.reduceBEq, Int.reduceBNe, Int.reduceAdd, Int.reduceSub, Int.reduceNeg, Int.reduceToNat, Int.reduceMul, Int.reducePow, Nat.reducePow, reduceCtorEq, hv, hlt, hlt0]
                rfl
              · simp +contextual (maxSteps := 10000000) only [↓reduceIte, go_sem, Nat.reduceEqDiff, Nat.reduceAdd, Nat.reduceSub, Nat.reduceMul, Nat.reduceLeDiff, Nat.reduceLT, Nat.reduceBEq, Nat.reduceDiv, Nat.reduceMod, Int.reduceLE, Int.reduceLT, Int.reduceEq, Int.reduceBEq, Int.reduceBNe, Int.reduceAdd, Int.reduceSub, Int.reduceNeg, Int.reduceToNat, Int.reduceMul, Int.reducePow, Nat.reducePow, reduceCtorEq, hv, hlt]
                rfl
            | ok y =>
              obtain ⟨v, r⟩ := y
              obtain ⟨p', g1, g2, rfl⟩ := valF_pos hp hval
              rw [hval] at hv
              unfold valR at hv
              dsimp only at hv
              rw [left_at d p' g2] at hv
              simp only [rdr] at hv
              have hmany2 : manyF (valF (readF N)) m ((toL d).drop (w + w)) = addM (vs ++ [v]) (manyF (valF (readF N)) m0 ((toL d).drop p')) := by rw [hmany, addM_step vs hval]
              rw [← hmany]
              rcases hst with ⟨rfl, rfl, rfl⟩ | ⟨hne, rfl, rfl⟩
              · have hlt0 : decide ((0 : Int) < m) = true := hlt
                simp +contextual (maxSteps := 10000000) only [↓reduceIte, go_sem, Nat.reduceEqDiff, Nat.reduceAdd, Nat.reduceSub, Nat.reduceMul, Nat.reduceLeDiff, Nat.reduceLT, Nat.reduceBEq, Nat.reduceDiv, Nat.reduceMod, Int.reduceLE, Int.reduceLT, Int.reduceEq, Int.reduceBEq, Int.reduceBNe, Int.reduceAdd, Int.reduceSub, Int.reduceNeg, Int.reduceToNat, Int.reduceMul, Int.reducePow, Nat.reducePow, reduceCtorEq, hv, hlt, hlt0, wrap_i64 (n := 1) (by omega) (by omega)]
                exact ih m0 _ _ (by omega) ⟨p', [v], by simp only [List.length_cons, List.length_nil] at hm ⊢; omega, g2, hmany2, .inr ⟨by simp, rfl, by rw [rowV_one]; rfl⟩⟩
              · have r1 := valOk.row_len vs
                have hb56 : ((vs.length + 1) * 56 ≤ 140737488355328) = True := eq_true (by omega)
                simp +contextual (maxSteps := 10000000) only [↓reduceIte, go_sem, Nat.reduceEqDiff, Nat.reduceAdd, Nat.reduceSub, Nat.reduceMul, Nat.reduceLeDiff, Nat.reduceLT, Nat.reduceBEq, Nat.reduceDiv, Nat.reduceMod, Int.reduceLE, Int.reduceLT, Int.reduceEq, Int.reduceBEq, Int.reduceBNe, Int.reduceAdd, Int.reduceSub, Int.reduceNeg, Int.reduceToNat, Int.reduceMul, Int.reducePow, Nat.reducePow, reduceCtorEq, hv, hlt, wrap_i64 (n := (vs.length : Int) + 1) (by omega) (by omega), r1, hb56, rowV_snoc]
                refine ih m0 _ _ (by omega) ⟨p', vs ++ [v], by rw [List.length_append]; simp only [List.length_cons, List.length_nil]; omega, g2, hmany2, .inr ⟨by simp, ?_, ?_⟩⟩
                · simp only [List.length_append, List.length_cons, List.length_nil, Int.natCast_add]; rfl
                · simp only [List.length_append, List.length_cons, List.length_nil]
end Go.Bw.R1

/- decode.read, of any code. -/
namespace Go.Bw.R1
set_option maxRecDepth 5000
open Go Go.Bw Go.Proofs
set_option maxHeartbeats 1000000 in
theorem read_192 (d : ByteArray) (x : Except Int Val) (hw : EV 75 [.sc (.int .u8 192), .ro false (bytesD d)] [] = some (rdR x)) : EV 54 [.sc (.int .u8 192), .ro false (bytesD d)] [] = some (rdR x) := by
  have hk : kindC 192 = 22 := by decide
  refine (ev_body ⟨[], [], [], true, [], noIt⟩ [.cell 4 27] rfl Tryd.func54 rfl rfl rfl (by kernel_rfl) (by show 2 ≤ 75; decide) (by kernel_rfl)).trans ?_
  unfold rdR at hw ⊢
  cases x with
  | error e => simp +contextual (maxSteps := 10000000) only [↓reduceIte, go_sem, Nat.reduceEqDiff, Nat.reduceAdd, Nat.reduceSub, Nat.reduceMul, Nat.reduceLeDiff, Nat.reduceLT, Nat.reduceBEq, Nat.reduceDiv, Nat.reduceMod, Int.reduceLE, Int.reduceLT, Int.reduceEq, Int.reduceBEq, Int.reduceBNe, Int.reduceAdd, Int.reduceSub, Int.reduceNeg, Int.reduceToNat, Int.reduceMul, Int.reducePow, Nat.reducePow, reduceCtorEq, look_kinds mapTk, gl_kinds, hk, show (Int.fdiv 192 16 == 9) = false from rfl, hw]
  | ok v => simp +contextual (maxSteps := 10000000) only [↓reduceIte, go_sem, Nat.reduceEqDiff, Nat.reduceAdd, Nat.reduceSub, Nat.reduceMul, Nat.reduceLeDiff, Nat.reduceLT, Nat.reduceBEq, Nat.reduceDiv, Nat.reduceMod, Int.reduceLE, Int.reduceLT, Int.reduceEq, Int.reduceBEq, Int.reduceBNe, Int.reduceAdd, Int.reduceSub, Int.reduceNeg, Int.reduceToNat, Int.reduceMul, Int.reducePow, Nat.reducePow, reduceCtorEq, look_kinds mapTk, gl_kinds, hk, show (Int.fdiv 192 16 == 9) = false from rfl, hw]
set_option maxHeartbeats 1000000 in
theorem read_193 (d : ByteArray) (x : Except Int Val) (hw : EV 75 [.sc (.int .u8 193), .ro false (bytesD d)] [] = some (rdR x)) : EV 54 [.sc (.int .u8 193), .ro false (bytesD d)] [] = some (rdR x) := by
  have hk : kindC 193 = 23 := by decide
  refine (ev_body ⟨[], [], [], true, [], noIt⟩ [.cell 4 27] rfl Tryd.func54 rfl rfl rfl (by kernel_rfl) (by show 2 ≤ 75; decide) (by kernel_rfl)).trans ?_
  unfold rdR at hw ⊢
  cases x with
  | error e => simp +contextual (maxSteps := 10000000) only [↓reduceIte, go_sem, Nat.reduceEqDiff, Nat.reduceAdd, Nat.reduceSub, Nat.reduceMul, Nat.reduceLeDiff, Nat.reduceLT, Nat.reduceBEq, Nat.reduceDiv, Nat.reduceMod, Int.reduceLE, Int.reduceLT, Int.reduceEq, Int.reduceBEq, Int.reduceBNe, Int.reduceAdd, Int.reduceSub, Int.reduceNeg, Int.reduceToNat, Int.reduceMul, Int.reducePow, Nat.reducePow, reduceCtorEq, look_kinds mapTk, gl_kinds, hk, show (Int.fdiv 193 16 == 9) = false from rfl, hw]
  | ok v => simp +contextual (maxSteps := 10000000) only [↓reduceIte, go_sem, Nat.reduceEqDiff, Nat.reduceAdd, Nat.reduceSub, Nat.reduceMul, Nat.reduceLeDiff, Nat.reduceLT, Nat.reduceBEq, Nat.reduceDiv, Nat.reduceMod, Int.reduceLE, Int.reduceLT, Int.reduceEq, Int.reduceBEq, Int.reduceBNe, Int.reduceAdd, Int.reduceSub, Int.reduceNeg, Int.reduceToNat, Int.reduceMul, Int.reducePow, Nat.reducePow, reduceCtorEq, look_kinds mapTk, gl_kinds, hk, show (Int.fdiv 193 16 == 9) = false from rfl, hw]
set_option maxHeartbeats 1000000 in
theorem read_208 (d : ByteArray) (x : Except Int Val) (hw : EV 75 [.sc (.int .u8 208), .ro false (bytesD d)] [] = some (rdR x)) : EV 54 [.sc (.int .u8 208), .ro false (bytesD d)] [] = some (rdR x) := by
  have hk : kindC 208 = 22 := by decide
  refine (ev_body ⟨[], [], [], true, [], noIt⟩ [.cell 4 27] rfl Tryd.func54 rfl rfl rfl (by kernel_rfl) (by show 2 ≤ 75; decide) (by kernel_rfl)).trans ?_
  unfold rdR at hw ⊢
  cases x with
  | error e => simp +contextual (maxSteps := 10000000) only [↓reduceIte, go_sem, Nat.reduceEqDiff, Nat.reduceAdd, Nat.reduceSub, Nat.reduceMul, Nat.reduceLeDiff, Nat.reduceLT, Nat.reduceBEq, Nat.reduceDiv, Nat.reduceMod, Int.reduceLE, Int.reduceLT, Int.reduceEq, Int.reduceBEq, Int.reduceBNe, Int.reduceAdd, Int.reduceSub, Int.reduceNeg, Int.reduceToNat, Int.reduceMul, Int.reducePow, Nat.reducePow, reduceCtorEq, look_kinds mapTk, gl_kinds, hk, show (Int.fdiv 208 16 == 9) = false from rfl, hw]
  | ok v => simp +contextual (maxSteps := 10000000) only [↓reduceIte, go_sem, Nat.reduceEqDiff, Nat.reduceAdd, Nat.reduceSub, Nat.reduceMul, Nat.reduceLeDiff, Nat.reduceLT, Nat.reduceBEq, Nat.reduceDiv, Nat.reduceMod, Int.reduceLE, Int.reduceLT, Int.reduceEq, Int.reduceBEq, Int.reduceBNe, Int.reduceAdd, Int.reduceSub, Int.reduceNeg, Int.reduceToNat, Int.reduceMul, Int.reducePow, Nat.reducePow, reduceCtorEq, look_kinds mapTk, gl_kinds, hk, show (Int.fdiv 208 16 == 9) = false from rfl, hw]
set_option maxHeartbeats 1000000 in
theorem read_209 (d : ByteArray) (x : Except Int Val) (hw : EV 75 [.sc (.int .u8 209), .ro false (bytesD d)] [] = some (rdR x)) : EV 54 [.sc (.int .u8 209), .ro false (bytesD d)] [] = some (rdR x) := by
  have hk : kindC 209 = 23 := by decide
  refine (ev_body ⟨[], [], [], true, [], noIt⟩ [.cell 4 27] rfl Tryd.func54 rfl rfl rfl (by kernel_rfl) (by show 2 ≤ 75; decide) (by kernel_rfl)).trans ?_
  unfold rdR at hw ⊢
  cases x with
  | error e => simp +contextual (maxSteps := 10000000) only [↓reduceIte, go_sem, Nat.reduceEqDiff, Nat.reduceAdd, Nat.reduceSub, Nat.reduceMul, Nat.reduceLeDiff, Nat.reduceLT, Nat.reduceBEq, Nat.reduceDiv, Nat.reduceMod, Int.reduceLE, Int.reduceLT, Int.reduceEq, Int.reduceBEq, Int.reduceBNe, Int.reduceAdd, Int.reduceSub, Int.reduceNeg, Int.reduceToNat, Int.reduceMul, Int.reducePow, Nat.reducePow, reduceCtorEq, look_kinds mapTk, gl_kinds, hk, show (Int.fdiv 209 16 == 9) = false from rfl, hw]
  | ok v => simp +contextual (maxSteps := 10000000) only [↓reduceIte, go_sem, Nat.reduceEqDiff, Nat.reduceAdd, Nat.reduceSub, Nat.reduceMul, Nat.reduceLeDiff, Nat.reduceLT, Nat.reduceBEq, Nat.reduceDiv, Nat.reduceMod, Int.reduceLE, Int.reduceLT, Int.reduceEq, Int.reduceBEq, Int.reduceBNe, Int.reduceAdd, Int.reduceSub, Int.reduceNeg, Int.reduceToNat, Int.reduceMul, Int.reducePow, Nat.reducePow, reduceCtorEq, look_kinds mapTk, gl_kinds, hk, show (Int.fdiv 209 16 == 9) = false from rfl, hw]
set_option maxHeartbeats 1000000 in
theorem read_224 (d : ByteArray) (x : Except Int Val) (hw : EV 75 [.sc (.int .u8 224), .ro false (bytesD d)] [] = some (rdR x)) : EV 54 [.sc (.int .u8 224), .ro false (bytesD d)] [] = some (rdR x) := by
  have hk : kindC 224 = 24 := by decide
  refine (ev_body ⟨[], [], [], true, [], noIt⟩ [.cell 4 27] rfl Tryd.func54 rfl rfl rfl (by kernel_rfl) (by show 2 ≤ 75; decide) (by kernel_rfl)).trans ?_
  unfold rdR at hw ⊢
  cases x with
  | error e => simp +contextual (maxSteps := 10000000) only [↓reduceIte, go_sem, Nat.reduceEqDiff, Nat.reduceAdd, Nat.reduceSub, Nat.reduceMul, Nat.reduceLeDiff, Nat.reduceLT, Nat.reduceBEq, Nat.reduceDiv, Nat.reduceMod, Int.reduceLE, Int.reduceLT, Int.reduceEq, Int.reduceBEq, Int.reduceBNe, Int.reduceAdd, Int.reduceSub, Int.reduceNeg, Int.reduceToNat, Int.reduceMul, Int.reducePow, Nat.reducePow, reduceCtorEq, look_kinds mapTk, gl_kinds, hk, show (Int.fdiv 224 16 == 9) = false from rfl, hw]
  | ok v => simp +contextual (maxSteps := 10000000) only [↓reduceIte, go_sem, Nat.reduceEqDiff, Nat.reduceAdd, Nat.reduceSub, Nat.reduceMul, Nat.reduceLeDiff, Nat.reduceLT, Nat.reduceBEq, Nat.reduceDiv, Nat.reduceMod, Int.reduceLE, Int.reduceLT, Int.reduceEq, Int.reduceBEq, Int.reduceBNe, Int.reduceAdd, Int.reduceSub, Int.reduceNeg, Int.reduceToNat, Int.reduceMul, Int.reducePow, Nat.reducePow, reduceCtorEq, look_kinds mapTk, gl_kinds, hk, show (Int.fdiv 224 16 == 9) = false from rfl, hw]
set_option maxHeartbeats 1000000 in
theorem read_240 (d : ByteArray) (x : Except Int Val) (hw : EV 75 [.sc (.int .u8 240), .ro false (bytesD d)] [] = some (rdR x)) : EV 54 [.sc (.int .u8 240), .ro false (bytesD d)] [] = some (rdR x) := by
  have hk : kindC 240 = 24 := by decide
  refine (ev_body ⟨[], [], [], true, [], noIt⟩ [.cell 4 27] rfl Tryd.func54 rfl rfl rfl (by kernel_rfl) (by show 2 ≤ 75; decide) (by kernel_rfl)).trans ?_
  unfold rdR at hw ⊢
  cases x with
  | error e => simp +contextual (maxSteps := 10000000) only [↓reduceIte, go_sem, Nat.reduceEqDiff, Nat.reduceAdd, Nat.reduceSub, Nat.reduceMul, Nat.reduceLeDiff, Nat.reduceLT, Nat.reduceBEq, Nat.reduceDiv, Nat.reduceMod, Int.reduceLE, Int.reduceLT, Int.reduceEq, Int.reduceBEq, Int.reduceBNe, Int.reduceAdd, Int.reduceSub, Int.reduceNeg, Int.reduceToNat, Int.reduceMul, Int.reducePow, Nat.reducePow, reduceCtorEq, look_kinds mapTk, gl_kinds, hk, show (Int.fdiv 240 16 == 9) = false from rfl, hw]
  | ok v => simp +contextual (maxSteps := 10000000) only [↓reduceIte, go_sem, Nat.reduceEqDiff, Nat.reduceAdd, Nat.reduceSub, Nat.reduceMul, Nat.reduceLeDiff, Nat.reduceLT, Nat.reduceBEq, Nat.reduceDiv, Nat.reduceMod, Int.reduceLE, Int.reduceLT, Int.reduceEq, Int.reduceBEq, Int.reduceBNe, Int.reduceAdd, Int.reduceSub, Int.reduceNeg, Int.reduceToNat, Int.reduceMul, Int.reducePow, Nat.reducePow, reduceCtorEq, look_kinds mapTk, gl_kinds, hk, show (Int.fdiv 240 16 == 9) = false from rfl, hw]
theorem read_comp {c : Int} (h : kindC c ≠ 0) (hc : ¬ c < 192) (d : ByteArray) (x : Except Int Val) (hw : EV 75 [.sc (.int .u8 c), .ro false (bytesD d)] [] = some (rdR x)) : EV 54 [.sc (.int .u8 c), .ro false (bytesD d)] [] = some (rdR x) := by
  have hin := code_in h
  have : ∀ c ∈ ([64, 65, 66, 67, 68, 69, 80, 81, 82, 83, 84, 85, 86, 96, 97, 112, 113, 114, 115, 116, 128, 129, 130, 131, 132, 148, 152, 160, 161, 163, 176, 177, 179, 192, 193, 208, 209, 224, 240] : List Int), ¬ c < 192 → c = 192 ∨ c = 193 ∨ c = 208 ∨ c = 209 ∨ c = 224 ∨ c = 240 := by decide
  rcases this c hin hc with rfl | rfl | rfl | rfl | rfl | rfl
  · exact read_192 d x hw
  · exact read_193 d x hw
  · exact read_208 d x hw
  · exact read_209 d x hw
  · exact read_224 d x hw
  · exact read_240 d x hw
theorem read_step' {N : Nat} (hR : RdE N) : RdE (N + 1) := by
  intro c d hk hd hd2 h1 h2
  rw [readF_fuel (d.size + 1) (N + 1) c (toL d) (by rw [toL_len]; omega) (by rw [toL_len]; omega), readF_succ]
  by_cases hc : c < 192
  · have hl := read_leaf hk hc d h1 h2 (by omega)
    rw [hl]
    unfold readS
    rw [if_pos hc]; rfl
  · exact read_comp hk hc d _ (within_step hR c d hc hk (by omega) hd2)
/-- WHAT decode.read ANSWERS -/
theorem read_c : ∀ N, RdE N
  | 0 => fun c d _ h => absurd h (Nat.not_lt_zero _)
  | N + 1 => read_step' (read_c N)
/-- WHAT reader.value ANSWERS -/
theorem value_c (s : ByteArray) (at_ : Nat) (ha : at_ ≤ s.size) (hs2 : s.size ≤ 36000) : EV 37 [.ptr 0 0 0] [some ⟨0, rdr s at_⟩] = some (valR s (valF (readF s.size) ((toL s).drop at_))) :=
  value_step (read_c s.size) s at_ ha (Nat.le_refl _) hs2
end Go.Bw.R1

/- Plain: decoded values are well formed. -/
namespace Go.Bw.R1
set_option maxRecDepth 5000
open Go Go.Bw
theorem kind_rng {c : Int} (h : kindC c ≠ 0) : 0 ≤ kindC c ∧ kindC c < 256 := by
  have : ∀ c ∈ ([64, 65, 66, 67, 68, 69, 80, 81, 82, 83, 84, 85, 86, 96, 97, 112, 113, 114, 115, 116, 128, 129, 130, 131, 132, 148, 152, 160, 161, 163, 176, 177, 179, 192, 193, 208, 209, 224, 240] : List Int), 0 ≤ kindC c ∧ kindC c < 256 := by decide
  exact this c (code_in h)
theorem fix_small {c : Int} (h : kindC c ≠ 0) (h9 : ¬ c / 16 = 9) (hc : c < 160) : fixC c = 0 ∨ fixC c = 1 ∨ fixC c = 2 ∨ fixC c = 4 ∨ fixC c = 8 := by
  obtain ⟨a, b⟩ := code_byte h
  unfold fixC
  rcases (show c / 16 = 4 ∨ c / 16 = 5 ∨ c / 16 = 6 ∨ c / 16 = 7 ∨ c / 16 = 8 by omega) with h | h | h | h | h <;> rw [h] <;> simp
theorem beN_64 {l : List UInt8} (h : l.length = 0 ∨ l.length = 1 ∨ l.length = 2 ∨ l.length = 4 ∨ l.length = 8) : beN l < 18446744073709551616 := by
  have := beN_lt _ l rfl
  rcases h with h | h | h | h | h <;> rw [h] at this <;> omega
theorem sgnX_64 {l : List UInt8} (h : l.length = 0 ∨ l.length = 1 ∨ l.length = 2 ∨ l.length = 4 ∨ l.length = 8) : 0 ≤ sgnX (beN l) l.length ∧ sgnX (beN l) l.length < 18446744073709551616 := by
  have hb := beN_lt _ l rfl
  have h64 := beN_64 h
  unfold sgnX
  rcases h with h | h | h | h | h <;> rw [h] at hb ⊢
  · rw [if_pos (by decide)]; omega
  · rw [if_neg (by decide), show (2 : Int) ^ (8 * 1 - 1) = 128 from rfl, show (2 : Int) ^ 64 - 2 ^ (8 * 1) = 18446744073709551360 from rfl]
    split <;> omega
  · rw [if_neg (by decide), show (2 : Int) ^ (8 * 2 - 1) = 32768 from rfl, show (2 : Int) ^ 64 - 2 ^ (8 * 2) = 18446744073709486080 from rfl]
    split <;> omega
  · rw [if_neg (by decide), show (2 : Int) ^ (8 * 4 - 1) = 2147483648 from rfl, show (2 : Int) ^ 64 - 2 ^ (8 * 4) = 18446744069414584320 from rfl]
    split <;> omega
  · rw [if_pos (by decide)]; omega
theorem leafV_wf {c : Int} (h : kindC c ≠ 0) (d : List UInt8) (hd : c < 160 → d.length = fixC c) : (leafV c d).wf := by
  obtain ⟨k0, k1⟩ := kind_rng h
  unfold leafV
  split
  · exact ⟨⟨by decide, by decide, by decide, by decide⟩, trivial⟩
  · split
    · exact ⟨⟨k0, k1, by decide, by decide⟩, trivial⟩
    · split
      · exact ⟨⟨k0, k1, by decide, by decide⟩, trivial⟩
      · rename_i h9
        split
        · exact ⟨⟨k0, k1, by decide, by decide⟩, trivial⟩
        · rename_i hc
          have hs : d.length = 0 ∨ d.length = 1 ∨ d.length = 2 ∨ d.length = 4 ∨ d.length = 8 := by
            rw [hd (by omega)]; exact fix_small h (fun e => h9 (.inl e)) (by omega)
          split
          · obtain ⟨a, b⟩ := sgnX_64 hs
            exact ⟨⟨k0, k1, a, b⟩, trivial⟩
          · have := beN_64 hs
            exact ⟨⟨k0, k1, by omega, by omega⟩, trivial⟩
theorem callV_wf {v : Val} (hv : v.wf) : ∀ {ns : List Val}, (∀ n ∈ ns, n.wf) → (callV ns v).wf
  | [], _ => hv
  | n :: ns, h => ⟨⟨by decide, by decide, by decide, by decide⟩, h n (by simp), callV_wf hv fun x hx => h x (by simp [hx]), trivial⟩
theorem consL_wf : ∀ (n : Nat) (l : List UInt8) (ns : List Val) (C : Int) (r : List UInt8), consL n l = .ok ((ns, C), r) → ∀ x ∈ ns, x.wf
  | 0, _, _, _, _, h => by cases h
  | n + 1, l, ns, C, r, h => by
    rw [consL_succ] at h
    unfold consS at h
    match l, h with
    | [], h => cases h
    | c :: [], h =>
      dsimp only at h
      split at h
      · cases h
      · split at h
        · cases h
        · injection h with h
          injection h with h1 h2
          injection h1 with h1 h3
          subst h1
          intro x hx; cases hx
    | c :: k :: r2, h =>
      dsimp only at h
      split at h
      · unfold nameS at h
        split at h
        · cases h
        · rename_i hk
          cases hd : dataL (u8I k) r2 with
          | error e => rw [hd] at h; cases h
          | ok y =>
            obtain ⟨d, r3⟩ := y
            rw [hd] at h
            dsimp only at h
            cases hc : consL n r3 with
            | error e => rw [hc] at h; cases h
            | ok z =>
              obtain ⟨⟨ms, D⟩, r4⟩ := z
              rw [hc] at h
              dsimp only at h
              injection h with h
              injection h with h1 h2
              injection h1 with h1 h3
              subst h1
              intro x hx
              rcases List.mem_cons.1 hx with rfl | hx
              · exact leafV_wf (by omega) d (dataL_len hd).1
              · exact consL_wf n r3 ms D r4 hc x hx
      · split at h
        · cases h
        · injection h with h
          injection h with h1 h2
          injection h1 with h1 h3
          subst h1
          intro x hx; cases hx
theorem manyF_wf {st : List UInt8 → Except Int (Val × List UInt8)} (h : ∀ l v r, st l = .ok (v, r) → v.wf) : ∀ (n : Nat) (l : List UInt8) (vs : List Val) (r : List UInt8), manyF st n l = .ok (vs, r) → Val.wfL vs
  | 0, l, vs, r, hh => by
    injection hh with hh
    injection hh with h1 h2
    subst h1
    trivial
  | n + 1, l, vs, r, hh => by
    simp only [manyF] at hh
    cases hs : st l with
    | error e => rw [hs] at hh; cases hh
    | ok y =>
      obtain ⟨v, l1⟩ := y
      rw [hs] at hh
      dsimp only at hh
      cases hm : manyF st n l1 with
      | error e => rw [hm] at hh; cases hh
      | ok z =>
        obtain ⟨ws, l2⟩ := z
        rw [hm] at hh
        dsimp only at hh
        injection hh with hh
        injection hh with h1 h2
        subst h1
        exact ⟨h l v l1 hs, manyF_wf h n l1 ws l2 hm⟩
theorem itemF_wf {rd : Int → List UInt8 → Except Int Val} (hrd : ∀ c d v, kindC c ≠ 0 → (c < 160 → d.length = fixC c) → rd c d = .ok v → v.wf) {ns : List Val} {C : Int} (hC : kindC C ≠ 0) (hn : ∀ x ∈ ns, x.wf) (l : List UInt8) (v : Val) (r : List UInt8) (h : itemF rd ns C l = .ok (v, r)) : v.wf := by
  obtain ⟨d, w, h1, h2, rfl⟩ := itemF_len h
  exact callV_wf (hrd C d w hC (dataL_len h1).1 h2) hn
theorem valF_wf {rd : Int → List UInt8 → Except Int Val} (hrd : ∀ c d v, kindC c ≠ 0 → (c < 160 → d.length = fixC c) → rd c d = .ok v → v.wf) (l : List UInt8) (v : Val) (r : List UInt8) (h : valF rd l = .ok (v, r)) : v.wf := by
  unfold valF at h
  cases hc : consL (l.length + 1) l with
  | error e => rw [hc] at h; cases h
  | ok y =>
    obtain ⟨⟨ns, C⟩, r2⟩ := y
    rw [hc] at h
    exact itemF_wf hrd (consL_len _ _ _ _ _ hc).2 (consL_wf _ _ _ _ _ hc) r2 v r h
theorem readF_wf : ∀ (n : Nat) (c : Int) (d : List UInt8) (v : Val), kindC c ≠ 0 → (c < 160 → d.length = fixC c) → readF n c d = .ok v → v.wf
  | 0, _, _, _, _, _, h => by cases h
  | n + 1, c, d, v, hk, hd, h => by
    have ih := readF_wf n
    rw [readF_succ] at h
    unfold readS at h
    split at h
    · injection h with h
      subst h
      exact leafV_wf hk d hd
    · unfold takeL at h
      by_cases ha : d.length < wideC c
      · rw [if_pos ha] at h; cases h
      · rw [if_neg ha] at h
        dsimp only at h
        by_cases hb : (d.drop (wideC c)).length < wideC c
        · rw [if_pos hb] at h; cases h
        · rw [if_neg hb] at h
          dsimp only at h
          generalize beN ((d.drop (wideC c)).take (wideC c)) = m at h
          generalize (d.drop (wideC c)).drop (wideC c) = r at h
          have fin : ∀ {x : Except Int (List Val × List UInt8)}, endF (kindC c) x = .ok v → (∀ vs r', x = .ok (vs, r') → Val.wfL vs) → v.wf := fun {x} he hx => by
            cases x with
            | error e => cases he
            | ok y =>
              obtain ⟨vs, r'⟩ := y
              have he2 := endF_ok he
              subst he2
              exact ⟨⟨(kind_rng hk).1, (kind_rng hk).2, by decide, by decide⟩, hx vs r' rfl⟩
          unfold bodyF at h
          split at h
          · cases h
          · split at h
            · cases hc : consL (r.length + 1) r with
              | error e => rw [hc] at h; cases h
              | ok y =>
                obtain ⟨⟨ns, C⟩, r2⟩ := y
                rw [hc] at h
                dsimp only at h
                exact fin h fun vs r' hx => manyF_wf (fun l v r hh => itemF_wf ih (consL_len _ _ _ _ _ hc).2 (consL_wf _ _ _ _ _ hc) l v r hh) m r2 vs r' hx
            · exact fin h fun vs r' hx => manyF_wf (fun l v r hh => valF_wf ih l v r hh) m r vs r' hx
/-- a head and its data: how many bytes they have -/
def headL (l : List UInt8) : Except Int (List UInt8) :=
  match consL (l.length + 1) l with
  | .error e => .error e
  | .ok ((_, C), r) => match dataL C r with
    | .error e => .error e
    | .ok (_, r2) => .ok r2
def decS (l : List UInt8) : Except Int (Val × Nat) :=
  match headL l with
  | .error e => .error e
  | .ok r => match valF (readF (l.length - r.length)) (l.take (l.length - r.length)) with
    | .error _ => .error 6
    | .ok (v, _) => if rightS v = true then .ok (v, l.length - r.length) else .error 6
theorem head_of_val {rd : Int → List UInt8 → Except Int Val} {l r : List UInt8} {v : Val} (h : valF rd l = .ok (v, r)) : headL l = .ok r := by
  unfold valF at h
  unfold headL
  cases hc : consL (l.length + 1) l with
  | error e => rw [hc] at h; cases h
  | ok y =>
    obtain ⟨⟨ns, C⟩, r2⟩ := y
    rw [hc] at h
    obtain ⟨d, w, h1, _, _⟩ := itemF_len h
    dsimp only
    rw [h1]
theorem valF_fuel (n m : Nat) (l : List UInt8) (h1 : l.length ≤ n) (h2 : l.length ≤ m) : valF (readF n) l = valF (readF m) l :=
  valF_congr (N := l.length) (fun c d hd => readF_fuel n m c d (by omega) (by omega)) l (Nat.le_refl _)
end Go.Bw.R1

/- decode.Value's closures. -/
namespace Go.Bw.R1
set_option maxRecDepth 5000
open Go Go.Bw Go.Proofs
def v1R (s : ByteArray) (x : Except Int (List UInt8)) : R × Sto := match x with
  | .error e => (thr e, [some ⟨0, [.undef]⟩, some ⟨0, [.undef, .undef]⟩])
  | .ok r => (.ret (.tup []), [some ⟨0, [.ptr 1 0 0]⟩, some ⟨0, rdr s (s.size - r.length)⟩])
set_option maxHeartbeats 4000000 in
theorem v1_c (s : ByteArray) (hs2 : s.size ≤ 36000) : EV 33 [.ptr 0 0 0] [some ⟨0, [.ptr 1 0 0]⟩, some ⟨0, rdr s 0⟩] = some (v1R s (headL (toL s))) := by
  have hc := cons_c' s 0 (Nat.zero_le _) (by omega)
  refine (ev_body ⟨[], [], [(0, [(1, 0, false), (2, 0, true), (0, 0, false), (3, 1, false), (4, 0, true)]), (4000000, [(2, 0, false), (0, 0, false), (1, 0, false)]), (5000000, [(4, 0, false), (1, 0, false), (2, 0, true), (0, 0, false), (3, 1, false)])], false, [], noIt⟩ [] rfl Tryd.func33 rfl rfl rfl (by kernel_rfl) (by show 1 ≤ 6; decide) (by kernel_rfl)).trans ?_
  unfold headL
  rw [Nat.sub_zero, drop0] at hc
  rw [toL_len]
  cases hcon : consL (s.size + 1) (toL s) with
  | error e =>
    rw [hcon] at hc
    unfold conR at hc
    simp only [rdr, Int.cast_ofNat_Int] at hc
    simp +contextual (maxSteps := 10000000) only [↓reduceIte, go_sem, Nat.reduceEqDiff, Nat.reduceAdd, Nat.reduceSub, Nat.reduceMul, Nat.reduceLeDiff, Nat.reduceLT, Nat.reduceBEq, Nat.reduceDiv, Nat.reduceMod, Int.reduceLE, Int.reduceLT, Int.reduceEq, Int.reduceBEq, Int.reduceBNe, Int.reduceAdd, Int.reduceSub, Int.reduceNeg, Int.reduceToNat, Int.reduceMul, Int.reducePow, Nat.reducePow, reduceCtorEq, hc]
    rfl
  | ok y =>
    obtain ⟨⟨ns, C⟩, r⟩ := y
    obtain ⟨p, hp⟩ := consL_suf _ _ _ _ _ hcon
    obtain ⟨e1, e2⟩ := suf_drop (s := s) (at_ := 0) (Nat.zero_le _) (by rw [drop0]; exact hp)
    obtain ⟨z3, hC⟩ := consL_len _ _ _ _ _ hcon
    obtain ⟨C0, C1⟩ := code_byte hC
    rw [hcon] at hc
    unfold conR at hc
    dsimp only at hc ⊢
    generalize hq : 0 + p.length = q at *
    subst e1
    rw [left_at s q e2] at hc
    have hdat := data_c' C s q e2 (by omega) C0 C1
    unfold datR at hdat
    simp only [rdr, Int.cast_ofNat_Int] at hc hdat
    cases hd : dataL C ((toL s).drop q) with
    | error e =>
      rw [hd] at hdat
      dsimp only at hdat
      simp +contextual (maxSteps := 10000000) only [↓reduceIte, go_sem, Nat.reduceEqDiff, Nat.reduceAdd, Nat.reduceSub, Nat.reduceMul, Nat.reduceLeDiff, Nat.reduceLT, Nat.reduceBEq, Nat.reduceDiv, Nat.reduceMod, Int.reduceLE, Int.reduceLT, Int.reduceEq, Int.reduceBEq, Int.reduceBNe, Int.reduceAdd, Int.reduceSub, Int.reduceNeg, Int.reduceToNat, Int.reduceMul, Int.reducePow, Nat.reducePow, reduceCtorEq, hc, hdat]
      rfl
    | ok y =>
      obtain ⟨d, r⟩ := y
      rw [hd] at hdat
      dsimp only at hdat ⊢
      simp +contextual (maxSteps := 10000000) only [↓reduceIte, go_sem, Nat.reduceEqDiff, Nat.reduceAdd, Nat.reduceSub, Nat.reduceMul, Nat.reduceLeDiff, Nat.reduceLT, Nat.reduceBEq, Nat.reduceDiv, Nat.reduceMod, Int.reduceLE, Int.reduceLT, Int.reduceEq, Int.reduceBEq, Int.reduceBNe, Int.reduceAdd, Int.reduceSub, Int.reduceNeg, Int.reduceToNat, Int.reduceMul, Int.reducePow, Nat.reducePow, reduceCtorEq, hc, hdat]
      rfl
def v2R (s : ByteArray) (x : Except Int (Val × List UInt8)) : R × Sto := match x with
  | .error e => (thr e, [some ⟨0, [.undef]⟩, some ⟨0, [.undef, .undef]⟩, some ⟨0, [.undef, .undef, .undef, .undef]⟩])
  | .ok (v, r) => (.ret (.tup []), [some ⟨0, [.ptr 1 0 0]⟩, some ⟨0, rdr s (s.size - r.length)⟩, some ⟨0, v.cs⟩])
abbrev zeC : List D := [.sc (.int .u8 0), .sc (.int .u64 0), .sc (.string ⟨#[]⟩), .ro false []]
set_option maxHeartbeats 4000000 in
theorem v2_c (s : ByteArray) (hs2 : s.size ≤ 36000) : EV 36 [.ptr 0 0 0, .ptr 2 0 0] [some ⟨0, [.ptr 1 0 0]⟩, some ⟨0, rdr s 0⟩, some ⟨0, zeC⟩] = some (v2R s (valF (readF s.size) (toL s))) := by
  have hc := value_c s 0 (Nat.zero_le _) hs2
  rw [drop0] at hc
  refine (ev_body ⟨[], [], [], false, [], noIt⟩ [] rfl Tryd.func36 rfl rfl rfl (by kernel_rfl) (by show 2 ≤ 4; decide) (by kernel_rfl)).trans ?_
  cases hcon : valF (readF s.size) (toL s) with
  | error e =>
    rw [hcon] at hc
    unfold valR at hc
    simp only [rdr, Int.cast_ofNat_Int] at hc
    simp +contextual (maxSteps := 10000000) only [↓reduceIte, go_sem, Nat.reduceEqDiff, Nat.reduceAdd, Nat.reduceSub, Nat.reduceMul, Nat.reduceLeDiff, Nat.reduceLT, Nat.reduceBEq, Nat.reduceDiv, Nat.reduceMod, Int.reduceLE, Int.reduceLT, Int.reduceEq, Int.reduceBEq, Int.reduceBNe, Int.reduceAdd, Int.reduceSub, Int.reduceNeg, Int.reduceToNat, Int.reduceMul, Int.reducePow, Nat.reducePow, reduceCtorEq, hc]
    rfl
  | ok y =>
    obtain ⟨v, r⟩ := y
    rw [hcon] at hc
    unfold valR at hc
    simp only [rdr, Int.cast_ofNat_Int] at hc
    simp +contextual (maxSteps := 10000000) only [↓reduceIte, go_sem, Nat.reduceEqDiff, Nat.reduceAdd, Nat.reduceSub, Nat.reduceMul, Nat.reduceLeDiff, Nat.reduceLT, Nat.reduceBEq, Nat.reduceDiv, Nat.reduceMod, Int.reduceLE, Int.reduceLT, Int.reduceEq, Int.reduceBEq, Int.reduceBNe, Int.reduceAdd, Int.reduceSub, Int.reduceNeg, Int.reduceToNat, Int.reduceMul, Int.reducePow, Nat.reducePow, reduceCtorEq, hc]
    rfl
end Go.Bw.R1

/- decode.try: what is thrown is told. -/
namespace Go.Bw.R1
set_option maxRecDepth 5000
open Go Go.Bw Go.Proofs
section
variable {P : Program} {GL : Nat → D}
/-- a state behind some steps -/
def At0 (n : Nat) (g0 : G) (w0 : World) (ds : List Deferred) (E : Nat → D) (S : St) (a : Act) (w : World) : Prop :=
  ∃ g, Keep g0 g w0 w ∧ Sim g S w ∧ Env g E a ∧ a.tmps.size = n ∧ a.defers = ds
theorem op_at0 {n : Nat} {g0 : G} {w0 : World} {ds : List Deferred} {E : Nat → D} {S S' : St} {d : D} {o : Oper} {a : Act} {w : World} (hG : Glob g0 GL) (hd : ∀ t, o.dst = some t → t < n) (h : opD P E GL S o = some (d, S')) (hst : At0 n g0 w0 ds E S a w) :
    ∃ nx a' w', (execOp a.eval o).run P w = .ok nx w' ∧ ((∃ v, nx = .value v ∧ a' = a.put o.dst v) ∨ (nx = .skip ∧ a' = a.put o.dst undef)) ∧ At0 n g0 w0 ds (updO E o.dst d) S' a' w' := by
  obtain ⟨g, k1, k2, k3, k4, k5⟩ := hst
  obtain ⟨g', w', nx, q1, q2, q3, q4⟩ := op_does h k2 k3 (hG.mono k1.le)
  have hdo : ∀ t, o.dst = some t → t < a.tmps.size := fun t ht => by rw [k4]; exact hd t ht
  rcases q2 with ⟨v, rfl, hv⟩ | ⟨rfl, rfl⟩
  · exact ⟨_, _, w', q1, .inl ⟨v, rfl, rfl⟩, g', k1.trans q4, q3, (k3.mono q4.le).put hv hdo, by rw [put_size]; exact k4, by rw [put_defers]; exact k5⟩
  · exact ⟨_, _, w', q1, .inr ⟨rfl, rfl⟩, g', k1.trans q4, q3, (k3.mono q4.le).put .undef hdo, by rw [put_size]; exact k4, by rw [put_defers]; exact k5⟩
theorem wanted_none {o : Oper} (h : o.guard = none) (f : Nat → Option Bool) : Region.wanted o f = true := by unfold Region.wanted; rw [h]
theorem ops_at0 {n : Nat} {g0 : G} {w0 : World} {ds : List Deferred} {E : Nat → D} {S S' : St} {d : D} {o : Oper} {a : Act} {w : World} {ops : Array Oper} {i : Nat} {rest : List Nat} {Q : Exit → Act → World → Prop} (hG : Glob g0 GL) (ho : ops[i]? = some o) (hgu : o.guard = none) (hd : ∀ t, o.dst = some t → t < n)
    (h : opD P E GL S o = some (d, S')) (hst : At0 n g0 w0 ds E S a w) (K : ∀ a' w', At0 n g0 w0 ds (updO E o.dst d) S' a' w' → wpOps P ops Q rest a' w') : wpOps P ops Q (i :: rest) a w := by
  obtain ⟨nx, a', w', q1, q2, q3⟩ := op_at0 hG hd h hst
  unfold wpOps
  simp only [ho]
  rw [if_pos (wanted_none hgu _)]
  refine .inl ?_
  unfold Oper.wp
  rw [q1]
  rcases q2 with ⟨v, rfl, rfl⟩ | ⟨rfl, rfl⟩
  · exact K _ _ q3
  · exact K _ _ q3
theorem opsS_at0 {n : Nat} {g0 : G} {w0 : World} {ds : List Deferred} {E : Nat → D} {S S' : St} {d : D} {o : Oper} {a : Act} {cs : List Frame} {w : World} {ops : Array Oper} {i : Nat} {rest : List Nat} {Q : Exit → Act → List Frame → World → Prop} (hG : Glob g0 GL) (ho : ops[i]? = some o) (hgu : o.guard = none) (hd : ∀ t, o.dst = some t → t < n)
    (h : opD P E GL S o = some (d, S')) (hst : At0 n g0 w0 ds E S a w) (K : ∀ a' w', At0 n g0 w0 ds (updO E o.dst d) S' a' w' → wpOpsS P ops Q rest a' cs w') : wpOpsS P ops Q (i :: rest) a cs w := by
  obtain ⟨nx, a', w', q1, q2, q3⟩ := op_at0 hG hd h hst
  unfold wpOpsS
  simp only [ho]
  rw [if_pos (wanted_none hgu _), q1]
  rcases q2 with ⟨v, rfl, rfl⟩ | ⟨rfl, rfl⟩
  · exact K _ _ q3
  · exact K _ _ q3
/-- operations that call nobody, one behind the other -/
def opsN (P : Program) (GL : Nat → D) : List Oper → (Nat → D) → St → ((Nat → D) → St → Prop) → Prop
  | [], E, S, K => K E S
  | o :: r, E, S, K => o.guard = none ∧ match opD P E GL S o with
    | some (d, S') => opsN P GL r (updO E o.dst d) S' K
    | none => False
theorem dst_lt {n : Nat} {ops : Array Oper} (hdst : dstOk n ops = true) {k : Nat} {o : Oper} (ho : ops[k]? = some o) : ∀ t, o.dst = some t → t < n := by
  intro t ht
  unfold dstOk at hdst
  rw [Array.all_eq_true_iff_forall_mem] at hdst
  have := hdst o (Array.mem_of_getElem? ho)
  rw [ht] at this
  simpa using this
theorem dropA_at {ops : Array Oper} {k : Nat} {o : Oper} {l : List Oper} (hl : ops.toList.drop k = o :: l) : ops[k]? = some o ∧ ops.toList.drop (k + 1) = l := by
  refine ⟨?_, by rw [← List.drop_drop, hl]; rfl⟩
  have : (ops.toList.drop k)[0]? = some o := by rw [hl]; rfl
  rw [List.getElem?_drop] at this
  simpa using this
theorem opsN_wp {n : Nat} {g0 : G} {w0 : World} {ds : List Deferred} {ops : Array Oper} {Q : Exit → Act → World → Prop} {K : (Nat → D) → St → Prop} (hG : Glob g0 GL) (hdst : dstOk n ops = true) (hQ : ∀ E S a w, K E S → At0 n g0 w0 ds E S a w → Q .normal a w) :
    ∀ (l : List Oper) (k : Nat), ops.toList.drop k = l → ∀ (E : Nat → D) (S : St) (a : Act) (w : World), opsN P GL l E S K → At0 n g0 w0 ds E S a w → wpOps P ops Q (List.range' k l.length) a w
  | [], k, _, E, S, a, w, h, hst => hQ E S a w h hst
  | o :: l, k, hl, E, S, a, w, h, hst => by
    obtain ⟨ho, hl'⟩ := dropA_at hl
    obtain ⟨hg, h⟩ := h
    cases hop : opD P E GL S o with
    | none => rw [hop] at h; exact h.elim
    | some y =>
      obtain ⟨d, S'⟩ := y
      rw [hop] at h
      simp only [List.length_cons, List.range'_succ]
      exact ops_at0 hG ho hg (dst_lt hdst ho) hop hst fun a' w' hs => opsN_wp hG hdst hQ l (k + 1) hl' _ _ a' w' h hs
theorem reg_at0 {n : Nat} {g0 : G} {w0 : World} {ds : List Deferred} {id : Nat} {ops : Array Oper} {Q : Exit → Act → World → Prop} {E : Nat → D} {S : St} {a : Act} {w : World} (K : (Nat → D) → St → Prop) (hG : Glob g0 GL) (hst : At0 n g0 w0 ds E S a w) (hdst : dstOk n ops = true) (h : opsN P GL ops.toList E S K)
    (hQ : ∀ E S a w, K E S → At0 n g0 w0 ds E S a w → Q .normal a w) : (Code.region id ops false).wp P Q a w := by
  refine wp_region ?_
  have := opsN_wp hG hdst hQ ops.toList 0 rfl E S a w h hst
  rw [List.range_eq_range']
  simpa using this
theorem eval_at0 {n : Nat} {g0 : G} {w0 : World} {ds : List Deferred} {E : Nat → D} {S : St} {a : Act} {w : World} {o : Operand} {b : Bool} (hG : Glob g0 GL) (hst : At0 n g0 w0 ds E S a w) (h : rhoD E GL o = B b) : a.eval o = .bool b := by
  obtain ⟨g, k1, k2, k3, k4, k5⟩ := hst
  have := rho_V k3 (hG.mono k1.le) o
  rw [h] at this
  exact (V_sc_inv this).1
end

def sndC : Code → Code
  | .seq _ b => b
  | c => c
def bodyC (fn : Func) : Code := fn.body.getD .skip
theorem ne_ifc {xo yo : Operand} {x : Int} : binD Tryd.prog .neq 20 xo yo (.ifc 28 (I x)) .nilifc = some (B true) := by
  simp only [binD, toVal, toVal1, Option.map_some]
  cases xo <;> cases yo <;> rfl
theorem ne_nil {xo yo : Operand} : binD Tryd.prog .neq 20 xo yo .nilifc .nilifc = some (B false) := by
  simp only [binD, toVal, toVal1]
  cases xo <;> cases yo <;> rfl
theorem zs_err : zeroShape Tryd.prog 28 = true := by kernel_rfl
theorem as_err {x : Int} : assertD Tryd.prog 28 true (.ifc 28 (I x)) = some (.tup [I x, B true]) := by
  unfold assertD
  rw [if_pos (by kernel_rfl)]
  simp only [if_true]
theorem ex_fst {a b : D} : exD (.tup [a, b]) 0 = some a := rfl
theorem ex_snd {a b : D} : exD (.tup [a, b]) 1 = some b := rfl
theorem un_not' {b : Bool} : unD Tryd.prog .not (.sc (.bool b)) = some (B (!b)) := by cases b <;> rfl
theorem sz_err : szOf Tryd.prog 28 = some 1 := by kernel_rfl
set_option maxHeartbeats 1000000 in
/-- what try$1 does with what is thrown, behind 'recover' -/
theorem dfr_code {m : Nat} {y : D} {x : Int} {S : St} (hrow : S.tab m = some ⟨0, [y]⟩) {E : Nat → D} (h0 : E 0 = .ptr m 0 0) (h1 : E 1 = .ifc 28 (I x)) {g : G} {w0 w : World} {a' : Act} (hG : Glob g gl0) (hs : At0 16 g w0 [] E S a' w) :
    (sndC (bodyC Tryd.f50)).wp Tryd.prog (fun e a2 w2 => e = .normal ∧ ∃ E2, At0 16 g w0 [] E2 (S.put m (some ⟨0, [I x]⟩)) a2 w2) a' w := by
  refine wp_seq (reg_at0 (fun E2 S2 => S2 = S ∧ E2 0 = .ptr m 0 0 ∧ E2 1 = .ifc 28 (I x) ∧ E2 6 = B true) hG hs (by kernel_rfl) ?_ ?_)
  · simp only [opsN, go_sem, h0, h1, ne_ifc, Nat.reduceEqDiff, Nat.reduceAdd, Nat.reduceLeDiff, Option.map_some, true_and, and_true]
  rintro E1 S1 a1 w1 ⟨rfl, p0, p1, p6⟩ hs1
  change (Code.cond (.tmp 6) _ _).wp _ _ _ _
  refine wp_cond_true (eval_at0 hG hs1 p6) ?_
  refine wp_seq (reg_at0 (fun E2 S2 => S2 = S1 ∧ E2 0 = .ptr m 0 0 ∧ E2 2 = I x ∧ E2 3 = B true) hG hs1 (by kernel_rfl) ?_ ?_)
  · simp only [opsN, go_sem, p0, p1, zs_err, as_err, ex_fst, ex_snd, Nat.reduceEqDiff, Nat.reduceAdd, Nat.reduceLeDiff, Option.map_some, if_true, true_and, and_true]
  rintro E2 S2 a2 w2 ⟨rfl, q0, q2, q3⟩ hs2
  refine wp_seq (wp_seq (reg_at0 (fun E2 S3 => S3 = S2 ∧ E2 0 = .ptr m 0 0 ∧ E2 2 = I x ∧ E2 13 = B false) hG hs2 (by kernel_rfl) ?_ ?_))
  · simp only [opsN, go_sem, q0, q2, q3, un_not', Nat.reduceEqDiff, Nat.reduceAdd, Nat.reduceLeDiff, Option.map_some, Bool.not_true, true_and, and_true]
  rintro E3 S3 a3 w3 ⟨rfl, r0, r2, r13⟩ hs3
  change (Code.cond (.tmp 13) _ _).wp _ _ _ _
  refine wp_cond_false (eval_at0 hG hs3 r13) ?_
  refine wp_skip ?_
  refine reg_at0 (fun E2 S4 => S4 = S3.put m (some ⟨0, [I x]⟩)) hG hs3 (by kernel_rfl) ?_ ?_
  · simp only [opsN, go_sem, r0, r2, hrow, List.length_singleton, Nat.le_refl, and_self, if_true, List.drop_one, List.tail_cons, Option.map_some, Nat.reduceEqDiff, Nat.reduceAdd, Nat.reduceLeDiff, true_and]
  rintro E4 S4 a4 w4 rfl hs4
  exact ⟨rfl, E4, hs4⟩
theorem at0_put {n : Nat} {g0 : G} {w0 : World} {ds : List Deferred} {E : Nat → D} {S : St} {a : Act} {w : World} (hst : At0 n g0 w0 ds E S a w) {t : Nat} {d : D} {v : Value} (ht : t < n) (hv : V g0 d v) : At0 n g0 w0 ds (updO E (some t) d) S (a.put (some t) v) w := by
  obtain ⟨g, k1, k2, k3, k4, k5⟩ := hst
  exact ⟨g, k1, k2, k3.put (hv.mono k1.le) (fun t' h => by cases h; rw [k4]; exact ht), by rw [put_size]; exact k4, by rw [put_defers]; exact k5⟩
theorem at0_start {n : Nat} {g : G} {w : World} {d : D} {v : Value} {S : St} (hs : Sim g S w) (hv : V g d v) (h : n = 1 + (n - 1)) : At0 n g w [] (argsE [d]) S { tmps := #[v] ++ Array.replicate (n - 1) undef, defers := [] } w :=
  ⟨g, .refl _ _, hs, args_env ⟨rfl, fun j d' hd => by
    cases j with
    | zero => simp only [List.getElem?_cons_zero, Option.some.injEq] at hd; subst hd; exact hv
    | succ j => simp at hd⟩, by simp; omega, rfl⟩
theorem no_res (t : Array Value) (w : World) : (results Tryd.f50 t).run Tryd.prog w = .ok (.tuple #[]) w := by rw [results_eq, show Tryd.f50.results = #[] from rfl, Array.mapM_eq_mapM_toList]; rfl
/-- nothing was thrown -/
theorem dfr_quiet {m : Nat} {S : St} {g : G} {w : World} {pv : Value} (hs : Sim g S w) (hv : V g (.ptr m 0 0) pv) (hG : Glob g gl0) :
    CallsD Tryd.prog 50 #[pv] .returning w (fun e u' w' => (∃ v, e = .returned v) ∧ u' = .returning ∧ ∃ g', Keep g g' w w' ∧ Sim g' S w') := by
  refine callsD_of_wpS Tryd.func50 rfl fun c0 cs hc0 => ?_
  have h0 := at0_start (n := 16) hs hv rfl
  have hrec : recoverD (c0 :: cs) = none := by simp [recoverD, hc0]
  refine wpS_seq (wpS_region ?_)
  show wpOpsS _ _ _ [0, 1] _ _ _
  unfold wpOpsS
  show (match recoverD (c0 :: cs) with | some (v, cs') => _ | none => _)
  rw [hrec]
  refine opsS_at0 hG rfl rfl (fun t h => by cases h; decide) rfl (at0_put h0 (t := 4) (by decide) .nilifc) fun a1 w1 hs1 => ?_
  refine wpS_of_wp ?_
  have e1 : updO (updO (argsE [D.ptr m 0 0]) (some 4) D.nilifc) (some 1) .nilifc 1 = .nilifc := rfl
  refine wp_seq (reg_at0 (fun E2 S2 => S2 = S ∧ E2 6 = B false) hG (show At0 16 g w [] (updO (updO (argsE [D.ptr m 0 0]) (some 4) D.nilifc) (some 1) .nilifc) S a1 w1 from hs1) (by kernel_rfl) ?_ ?_)
  · revert e1
    generalize updO (updO (argsE [D.ptr m 0 0]) (some 4) D.nilifc) (some 1) .nilifc = E1
    intro e1
    simp only [opsN, go_sem, e1, ne_nil, Nat.reduceEqDiff, Nat.reduceAdd, Nat.reduceLeDiff, Option.map_some, true_and, and_true]
  rintro E2 S2 a2 w2 ⟨rfl, q6⟩ hs2
  change (Code.cond (.tmp 6) _ _).wp _ _ _ _
  refine wp_cond_false (eval_at0 hG hs2 q6) ?_
  refine wp_skip ?_
  obtain ⟨g', k1, k2, k3, k4, k5⟩ := hs2
  exact ⟨k5, .returning, by rw [← hc0], _, no_res _ _, ⟨_, rfl⟩, rfl, g', k1, k2⟩
/-- what was thrown is told -/
theorem dfr_caught {m : Nat} {y : D} {x : Int} {S : St} (hrow : S.tab m = some ⟨0, [y]⟩) {g : G} {w : World} {pv v : Value} (hs : Sim g S w) (hp : V g (.ptr m 0 0) pv) (hv : V g (.ifc 28 (I x)) v) (hG : Glob g gl0) :
    CallsD Tryd.prog 50 #[pv] (.panicking [{ v, recovered := false }]) w (fun e u' w' => (∃ v, e = .returned v) ∧ u' = .panicking [{ v, recovered := true }] ∧ ∃ g', Keep g g' w w' ∧ Sim g' (S.put m (some ⟨0, [I x]⟩)) w') := by
  refine callsD_of_wpS Tryd.func50 rfl fun c0 cs hc0 => ?_
  have h0 := at0_start (n := 16) hs hp rfl
  have hrec : recoverD (c0 :: cs) = some (v, { c0 with mode := .panicking [{ v, recovered := true }] } :: cs) := by simp [recoverD, hc0]
  refine wpS_seq (wpS_region ?_)
  show wpOpsS _ _ _ [0, 1] _ _ _
  unfold wpOpsS
  show (match recoverD (c0 :: cs) with | some (v, cs') => _ | none => _)
  rw [hrec]
  refine opsS_at0 hG rfl rfl (fun t h => by cases h; decide) rfl (at0_put h0 (t := 4) (by decide) hv) fun a1 w1 hs1 => ?_
  refine wpS_of_wp ?_
  refine wp_mono (dfr_code hrow (x := x) (E := updO (updO (argsE [D.ptr m 0 0]) (some 4) (.ifc 28 (I x))) (some 1) (.ifc 28 (I x))) rfl rfl hG (show At0 16 g w [] (updO (updO (argsE [D.ptr m 0 0]) (some 4) (.ifc 28 (I x))) (some 1) (.ifc 28 (I x))) S a1 w1 from hs1)) ?_
  rintro e a2 w2 ⟨rfl, E2, g', k1, k2, k3, k4, k5⟩
  exact ⟨k5, _, rfl, _, no_res _ _, ⟨_, rfl⟩, rfl, g', k1, k2⟩
theorem V_fn_inv {g : G} {f : Fn} {a b : List D} {v : Value} (h : V g (.fn f a b) v) : ∃ vs us, v = .func f vs us ∧ VL g a vs ∧ VL g b us := by
  cases h with
  | fn h1 h2 k1 k2 => exact ⟨_, _, rfl, ⟨h1, k1⟩, ⟨h2, k2⟩⟩
theorem VL_nil_inv {g : G} {vs : Array Value} (h : VL g [] vs) : vs = #[] := Array.eq_empty_of_size_eq_zero (by simpa using h.1)
theorem VL_one_inv {g : G} {d : D} {vs : Array Value} (h : VL g [d] vs) : ∃ v, vs = #[v] ∧ V g d v := by
  obtain ⟨v, rfl⟩ := Array.size_eq_one_iff.1 (by simpa using h.1)
  exact ⟨v, rfl, by simpa using h.2 0 d rfl⟩
theorem ld_err {S : St} {m : Nat} {x : Int} (hrow : S.tab m = some ⟨0, [I x]⟩) : ldD Tryd.prog S 28 (.ptr m 0 0) = some (I x) := by
  have hz : aggB Tryd.prog 28 = some false := by kernel_rfl
  simp [ldD, hrow, sz_err, hz, whole]
/-- the end of 'try' -/
theorem try_end {g g' : G} {w w' : World} {m : Nat} {e : Int} {es2 : Sto} {acc : List Nat} {d2 : D} {ts' : Sto} {tmps : Array Value} (h0 : ∀ i v, m ≤ i → g.r i v = none) (hk : Keep g g' w w') (hs : Sim g' (stL es2) w') (hrow : rowOf es2 m = some ⟨0, [I e]⟩) (hp : V g' (.ptr m 0 0) (tmps.getD 2 undef))
    (hgc : gcA m [I e] es2 = some (acc, [d2], ts')) : ∃ v, (results Tryd.f32 tmps).run Tryd.prog w' = .ok v w' ∧ Lands g w (fun r' s => r' = .ret d2 ∧ s = stL ts') (.returned v) w' := by
  have he : Env g' (fun t => if t = 2 then .ptr m 0 0 else .undef) { tmps, defers := [] } := fun t => by
    by_cases h : t = 2
    · subst h; simpa using hp
    · simp only [if_neg h]; exact .undef
  obtain ⟨v, p1, p2⟩ := results_run (P := Tryd.prog) (fn := Tryd.f32) (ds := [I e]) hs he (by
    show resultsD _ _ _ [.cell 2 28] = _
    simp only [resultsD, if_true]
    rw [ld_err (by rw [stL_row]; exact hrow)])
  obtain ⟨s1, s2⟩ := hs.gc hgc
  have hv2 := s2 #[v] ⟨rfl, fun j d hd => by
    cases j with
    | zero => simp only [List.getElem?_cons_zero, Option.some.injEq] at hd; subst hd; exact p2
    | succ j => simp at hd⟩
  exact ⟨v, p1, _, _, hk.gc h0, s1, _, by simpa using hv2.2 0 _ rfl, rfl, rfl⟩
theorem zero_err : zeroD Tryd.prog 28 = some [I 0] := by kernel_rfl
theorem inv_try {w : World} {us : Array Value} : (invoke (.fn (.func 50) us) (#[] ++ #[])).run Tryd.prog w = .ok (.enter 50 us) w := by
  have h : ((#[] : Array Value) ++ #[]) ++ us = us := by simp
  simp only [invoke, callFunc, run_program, Sem.run_bind, Tryd.func50, h]
  rfl
theorem put_row {ts : Sto} {m : Nat} (h : m < ts.length) (e : En) : rowOf (Bw.toL ((stL ts).put m (some e))) m = some e ∧ stL (Bw.toL ((stL ts).put m (some e))) = (stL ts).put m (some e) := by
  have hwf : ((stL ts).put m (some e)).wf := by
    intro i hi
    rw [St.put_tab]
    rw [St.put_next, stL_next] at hi
    rw [if_neg (by omega)]
    exact wf_stL ts i (by rw [stL_next]; exact hi)
  have := hwf.stL_toL
  refine ⟨?_, this⟩
  rw [← stL_row, this, St.put_tab, if_pos rfl]
theorem ops_defer {P : Program} {a : Act} {w : World} {ops : Array Oper} {i : Nat} {rest : List Nat} {Q : Exit → Act → World → Prop} {o : Oper} {t : Tmp} {f : Fn} {vs us : Array Value} (ho : ops[i]? = some o) (hg : o.guard = none) (hd : o.dst = none) (hop : o.op = .defer ⟨.value (.tmp t), #[], #[]⟩) (h : a.eval (.tmp t) = .func f vs us)
    (K : wpOps P ops Q rest { a with defers := { target := .fn f us, args := vs ++ #[] } :: a.defers } w) : wpOps P ops Q (i :: rest) a w := by
  unfold wpOps
  simp only [ho]
  rw [if_pos (wanted_none hg _)]
  refine .inl ?_
  unfold Oper.wp
  have : (execOp a.eval o).run P w = .ok (.defer { target := .fn f us, args := vs ++ #[] }) w := by
    simp only [execOp, hop, resolve, h, Deferred.ofValue, Sem.run_bind, Sem.run_pure, Result.andThen_ok, Array.map_empty, List.map_toArray, List.map_nil]
  rw [this, Oper.upon_defer, hd]
  exact K
theorem ops_call {P : Program} {GL : Nat → D} {n : Nat} {g0 : G} {w0 : World} {ds : List Deferred} {E : Nat → D} {S : St} {a : Act} {w : World} {ops : Array Oper} {i : Nat} {rest : List Nat} {Q : Exit → Act → World → Prop} {o : Oper} {fo : Operand} {d : D} {Pst : R → St → Prop} (hG : Glob g0 GL) (ho : ops[i]? = some o) (hg : o.guard = none) (hc : calleeOf o = some (fo, []))
    (hfd : rhoD E GL fo = d) (hdst : ∀ t, o.dst = some t → t < n) (hst : At0 n g0 w0 ds E S a w) (hcall : CallV P GL d [] S Pst)
    (hret : ∀ g' a' w' d' S', Pst (.ret d') S' → Keep g0 g' w0 w' → Sim g' S' w' → Env g' (updO E o.dst d') a' → a'.tmps.size = n → a'.defers = ds → wpOps P ops Q rest a' w')
    (hpan : ∀ g' w' d' v S', Pst (.pan d') S' → Keep g0 g' w0 w' → Sim g' S' w' → V g' d' v → Env g' E a → a.defers = ds → Q (.panic [{ v, recovered := false }]) a w') : wpOps P ops Q (i :: rest) a w := by
  obtain ⟨g, k1, k2, k3, k4, k5⟩ := hst
  unfold wpOps
  simp only [ho]
  rw [if_pos (wanted_none hg _)]
  refine .inl ?_
  have hfv := rho_V k3 (hG.mono k1.le) fo
  rw [hfd] at hfv
  unfold CallV at hcall
  split at hcall
  · rename_i fi first caps
    obtain ⟨vs, us, hev, h1, h2⟩ := V_fn_inv hfv
    unfold Oper.wp
    rw [exec_call hc hev hcall.1, Oper.upon_enter]
    refine (hcall.2 g w _ k2 (VL_append (VL_append h1 ⟨rfl, fun j d hd => by simp at hd⟩) h2) (hG.mono k1.le)).mono fun e w' ⟨g', S', l1, l2, l3⟩ => ?_
    cases e with
    | returned v =>
      obtain ⟨d', q1, q2⟩ := l3
      exact hret g' _ w' d' S' q2 (k1.trans l1) l2 ((k3.mono l1.le).put q1 (fun t ht => by rw [k4]; exact hdst t ht)) (by rw [put_size]; exact k4) (by rw [put_defers]; exact k5)
    | panicked c =>
      obtain ⟨v, d', rfl, q2, q3⟩ := l3
      exact hpan g' w' d' v S' q3 (k1.trans l1) l2 q2 (k3.mono l1.le) k5
    | outgrown => exact l3.elim
  · exact hcall.elim
set_option maxHeartbeats 1000000 in
theorem try_call {C : Orc} (hC : SoundO Tryd.prog gl0 C) {f : FuncId} {first caps : List D} {es ts ts' : Sto} {r : R} {y d2 : D} {e : Int} {acc : List Nat} (hcall : Bw.callV C (.fn (.func f) first caps) [] (es ++ [some ⟨0, [I 0]⟩]) = some (r, ts)) (hrow : rowOf ts es.length = some ⟨0, [y]⟩)
    (hr : (∃ d', r = .ret d' ∧ e = 0) ∨ r = .pan (.ifc 28 (I e))) (hgc : gcA es.length [I e] (Bw.toL ((stL ts).put es.length (some ⟨0, [I e]⟩))) = some (acc, [d2], ts')) :
    CallT Tryd.prog gl0 32 [.fn (.func f) first caps] (stL es) (fun r' s => r' = .ret d2 ∧ s = stL ts') := by
  refine ⟨by kernel_rfl, fun g w vs hs hv hG => ?_⟩
  obtain ⟨v0, rfl, hv0⟩ := VL_one_inv hv
  refine calls_of_wp_defers Tryd.func32 rfl ?_
  have hlt := rowOf_lt hrow
  have hnew : (stL es).new [I 0] = stL (es ++ [some ⟨0, [I 0]⟩]) := by rw [stL_new]
  have hrg : ∀ i v, es.length ≤ i → g.r i v = none := fun i v hi => hs.fresh i v (by rw [stL_next]; exact hi)
  have h0 := at0_start (n := 6) hs hv0 rfl
  refine wp_seq (reg_at0 (fun E S => E 0 = .fn (.func f) first caps ∧ E 2 = .ptr es.length 0 0 ∧ S = (stL es).new [I 0]) hG h0 (by kernel_rfl) ?_ ?_)
  · simp only [opsN, opD, zero_err, updO, upd, argsE, stL_next, true_and]
    exact ⟨rfl, rfl, trivial⟩
  rintro E1 S1 a1 w1 ⟨p0, p2, rfl⟩ hs1
  refine wp_seq (wp_region ?_)
  show wpOps _ _ _ [0, 1] _ _
  refine ops_at0 hG rfl rfl (fun t h => by cases h; decide) rfl hs1 fun a2 w2 hs2 => ?_
  obtain ⟨g2, k1, k2, (k3 : Env g2 (updO E1 (some 3) (.fn (.func 50) [] [E1 2])) a2), k4, k5⟩ := hs2
  have hv3 := k3 3
  rw [show updO E1 (some 3) (.fn (.func 50) [] [E1 2]) 3 = .fn (.func 50) [] [E1 2] from rfl, p2] at hv3
  obtain ⟨vs3, us3, hev3, h31, h32⟩ := V_fn_inv hv3
  obtain rfl := VL_nil_inv h31
  obtain ⟨pv, rfl, hpv⟩ := VL_one_inv h32
  refine ops_defer (t := 3) rfl rfl rfl rfl hev3 ?_
  have hK1 := k1
  have hG2 := hG.mono k1.le
  have hs3 : At0 6 g2 w2 [{ target := .fn (.func 50) #[pv], args := #[] ++ #[] }] (updO E1 (some 3) (.fn (.func 50) [] [E1 2])) ((stL es).new [I 0]) { a2 with defers := { target := .fn (.func 50) #[pv], args := #[] ++ #[] } :: a2.defers } w2 := ⟨g2, .refl _ _, k2, k3, k4, by simp only [k5]⟩
  have r0 : updO E1 (some 3) (.fn (.func 50) [] [E1 2]) 0 = .fn (.func f) first caps := p0
  have r2 : updO E1 (some 3) (.fn (.func 50) [] [E1 2]) 2 = .ptr es.length 0 0 := p2
  revert hs3 r0 r2
  generalize updO E1 (some 3) (.fn (.func 50) [] [E1 2]) = E2
  show At0 _ _ _ _ _ _ ?a3 _ → _ → _ → Code.wp _ _ _ ?a3 _
  generalize (Act.mk a2.tmps ({ target := .fn (.func 50) #[pv], args := #[] ++ #[] } :: a2.defers)) = a3
  intro hs3 r0 r2
  -- region 2: the call
  refine wp_seq (wp_region ?_)
  show wpOps _ _ _ [0, 1] _ _
  refine ops_at0 hG2 rfl rfl (fun t h => by cases h; decide) rfl hs3 fun a4 w4 (hs4 : At0 6 g2 w2 _ (updO E2 (some 4) (E2 0)) _ a4 w4) => ?_
  refine ops_call (o := ⟨some 5, .call ⟨.value (.tmp 4), #[], #[]⟩, 0, _, _, none⟩) (d := .fn (.func f) first caps) hG2 rfl rfl rfl (by exact r0) (by decide) hs4 (by rw [hnew]; exact callV_sound hC hcall) ?_ ?_
  · -- it came back
    rintro g5 a5 w5 d5 S5 ⟨rfl, rfl⟩ q1 q2 q3 q4 q5
    have he0 : e = 0 := by
      rcases hr with ⟨_, _, h⟩ | h
      · exact h
      · cases h
    subst he0
    refine wp_seq (reg_at0 (fun E S => E 2 = .ptr es.length 0 0 ∧ S = (stL ts).put es.length (some ⟨0, [I 0]⟩)) hG2 ⟨g5, q1, q2, q3, q4, q5⟩ (by kernel_rfl) ?_ ?_)
    · have e2 : updO (updO E2 (some 4) (E2 0)) (some 5) d5 2 = .ptr es.length 0 0 := r2
      have hr2 : (stL ts).tab es.length = some ⟨0, [y]⟩ := hrow
      revert e2
      show updO (updO E2 (some 4) (E2 0)) _ d5 2 = _ → _
      generalize updO (updO E2 (some 4) (E2 0)) _ d5 = E5
      intro e2
      simp only [opsN, go_sem, e2, hr2, sz_err, List.length_singleton, Nat.le_refl, and_self, if_true, List.drop_one, List.tail_cons, Option.map_some, Nat.reduceEqDiff, Nat.reduceAdd, Nat.reduceLeDiff, true_and]
    rintro E6 S6 a6 w6 ⟨t2, rfl⟩ ⟨g6, k1, k2, k3, k4, k5⟩
    refine wp_ret ?_
    show Leaves _ _ a6.tmps _ a6.defers .returning w6
    rw [k5]
    have hp6 := k3 2
    rw [t2] at hp6
    obtain ⟨hrw, hst⟩ := put_row hlt ⟨0, [I 0]⟩
    have hpv6 := hpv.mono k1.le
    refine leaves_cons (by simp) inv_try (CallsD.mono (dfr_quiet k2 hpv6 (hG2.mono k1.le)) ?_)
    rintro x u' w' ⟨⟨v, rfl⟩, rfl, g7, l1, l2⟩
    show Leaves _ _ _ _ [] (settle .returning) w'
    exact try_end hrg (hK1.trans (k1.trans l1)) (by rw [hst]; exact l2) hrw (hp6.mono l1.le) hgc
  · rintro g5 w5 d5 v5 S5 ⟨rfl, rfl⟩ q1 q2 q3 q4 q5
    obtain rfl : d5 = .ifc 28 (I e) := by
      rcases hr with ⟨_, h, _⟩ | h
      · cases h
      · injection h
    show Leaves _ _ a4.tmps _ a4.defers (.panicking _) w5
    rw [q5]
    have hp6 := q4 2
    rw [show updO E2 (some 4) (E2 0) 2 = .ptr es.length 0 0 from r2] at hp6
    obtain ⟨hrw, hst⟩ := put_row hlt ⟨0, [I e]⟩
    have hpv6 := hpv.mono q1.le
    refine leaves_cons (by simp) inv_try (CallsD.mono (dfr_caught (x := e) hrow q2 hpv6 q3 (hG2.mono q1.le)) ?_)
    rintro x u' w' ⟨⟨v, rfl⟩, rfl, g7, l1, l2⟩
    show Leaves _ _ _ _ [] (settle (.panicking _)) w'
    exact try_end hrg (hK1.trans (q1.trans l1)) (by rw [hst]; exact l2) hrw (hp6.mono l1.le) hgc
end Go.Bw.R1

/- Plain: a head hangs on its own bytes alone; cut, it is short. -/
namespace Go.Bw.R1
set_option maxRecDepth 5000
open Go Go.Bw
theorem take_app' {a b : List UInt8} {n : Nat} (h : a.length = n) : takeL n (a ++ b) = .ok (a, b) := by
  unfold takeL
  rw [if_neg (by rw [List.length_append]; omega), List.take_left' h, List.drop_left' h]
theorem takeL_inv {n : Nat} {l a b : List UInt8} (h : takeL n l = .ok (a, b)) : a.length = n ∧ l = a ++ b := by
  unfold takeL at h
  split at h
  · cases h
  · injection h with h
    injection h with h1 h2
    subst h1 h2
    exact ⟨by rw [List.length_take]; omega, (List.take_append_drop _ _).symm⟩
theorem takeL_short {n : Nat} {l : List UInt8} (h : l.length < n) : takeL n l = .error 7 := by unfold takeL; rw [if_pos h]
theorem dataL_pre {c : Int} {l d r : List UInt8} (h : dataL c l = .ok (d, r)) : (∀ r', dataL c (d ++ r') = .ok (d, r')) ∧ ∀ k, k < d.length → dataL c (d.take k) = .error 7 := by
  unfold dataL at h
  by_cases hc : c < 160
  · rw [if_pos hc] at h
    obtain ⟨a, b⟩ := takeL_inv h
    refine ⟨fun r' => by unfold dataL; rw [if_pos hc]; exact take_app' a, fun k hk => by unfold dataL; rw [if_pos hc]; exact takeL_short (by rw [List.length_take]; omega)⟩
  · rw [if_neg hc] at h
    cases h1 : takeL (wideC c) l with
    | error e => rw [h1] at h; cases h
    | ok y =>
      obtain ⟨hh, l1⟩ := y
      rw [h1] at h
      dsimp only at h
      cases h2 : takeL (beN hh) l1 with
      | error e => rw [h2] at h; cases h
      | ok z =>
        obtain ⟨d', l2⟩ := z
        rw [h2] at h
        dsimp only at h
        injection h with h
        injection h with e1 e2
        subst e1 e2
        obtain ⟨a1, b1⟩ := takeL_inv h1
        obtain ⟨a2, b2⟩ := takeL_inv h2
        refine ⟨fun r' => ?_, fun k hk => ?_⟩
        · unfold dataL
          rw [if_neg hc, List.append_assoc, take_app' a1]
          dsimp only
          rw [take_app' a2]
        · unfold dataL
          rw [if_neg hc]
          by_cases hkw : k < wideC c
          · rw [takeL_short (by rw [List.length_take]; omega)]
          · have e : (hh ++ d').take k = hh ++ d'.take (k - hh.length) := by rw [List.take_append, List.take_of_length_le (by omega)]
            rw [e, take_app' a1]
            dsimp only
            rw [List.length_append] at hk
            rw [takeL_short (by rw [List.length_take]; omega)]
theorem consL_pre : ∀ (n : Nat) (l : List UInt8) (ns : List Val) (C : Int) (r : List UInt8), consL n l = .ok ((ns, C), r) → ∃ p, l = p ++ r ∧ 0 < p.length ∧ (∀ r' m, (p ++ r').length < m → consL m (p ++ r') = .ok ((ns, C), r')) ∧ ∀ k m, k < p.length → k < m → consL m (p.take k) = .error 7
  | 0, _, _, _, _, h => by cases h
  | n + 1, l, ns, C, r, h => by
    rw [consL_succ] at h
    unfold consS at h
    have one : ∀ (c : UInt8) (r : List UInt8), ¬ u8I c = 0 → ¬ kindC (u8I c) = 0 → ∃ p, c :: r = p ++ r ∧ 0 < p.length ∧ (∀ r' m, (p ++ r').length < m → consL m (p ++ r') = .ok (([], u8I c), r')) ∧ ∀ k m, k < p.length → k < m → consL m (p.take k) = .error 7 := fun c r h0 hk => by
      refine ⟨[c], rfl, by simp, fun r' m hm => ?_, fun k m hk hm => ?_⟩
      · obtain ⟨m, rfl⟩ : ∃ q, m = q + 1 := ⟨m - 1, by omega⟩
        exact consL_code' h0 hk
      · obtain ⟨m, rfl⟩ : ∃ q, m = q + 1 := ⟨m - 1, by omega⟩
        obtain rfl : k = 0 := by simpa using hk
        rfl
    match l, h with
    | [], h => cases h
    | c :: [], h =>
      dsimp only at h
      split at h
      · cases h
      · rename_i h0
        split at h
        · cases h
        · rename_i hk
          injection h with h
          injection h with h1 h2
          injection h1 with h1 h3
          subst h1 h2 h3
          exact one c [] h0 hk
    | c :: k :: r2, h =>
      dsimp only at h
      split at h
      · rename_i h0
        unfold nameS at h
        split at h
        · cases h
        · rename_i hk
          cases hd : dataL (u8I k) r2 with
          | error e => rw [hd] at h; cases h
          | ok y =>
            obtain ⟨d, r3⟩ := y
            rw [hd] at h
            dsimp only at h
            cases hc : consL n r3 with
            | error e => rw [hc] at h; cases h
            | ok z =>
              obtain ⟨⟨ms, D⟩, r4⟩ := z
              rw [hc] at h
              dsimp only at h
              injection h with h
              injection h with h1 h2
              injection h1 with h1 h3
              subst h1 h2 h3
              obtain ⟨p, p1, p2, p3, p4⟩ := consL_pre n r3 ms D r4 hc
              obtain ⟨q1, q2⟩ := dataL_pre hd
              refine ⟨c :: k :: (d ++ p), by rw [(dataL_len hd).2.2.2, p1]; simp, by simp, fun r' m hm => ?_, fun j m hj hm => ?_⟩
              · obtain ⟨m, rfl⟩ : ∃ q, m = q + 1 := ⟨m - 1, by omega⟩
                rw [consL_succ]
                simp only [List.cons_append, List.append_assoc]
                unfold consS
                dsimp only
                rw [if_pos h0]
                unfold nameS
                rw [if_neg hk, q1]
                dsimp only
                rw [p3 r' m (by simp only [List.cons_append, List.length_cons, List.length_append] at hm ⊢; omega)]
              · obtain ⟨m, rfl⟩ : ∃ q, m = q + 1 := ⟨m - 1, by omega⟩
                rw [consL_succ]
                match j, hj, hm with
                | 0, _, _ => rfl
                | 1, _, _ =>
                  show consS (consL m) [c] = _
                  unfold consS
                  dsimp only
                  rw [if_pos h0]
                | j + 2, hj, hm =>
                  show consS (consL m) (c :: k :: (d ++ p).take j) = _
                  unfold consS
                  dsimp only
                  rw [if_pos h0]
                  unfold nameS
                  rw [if_neg hk]
                  simp only [List.length_cons, List.length_append] at hj
                  by_cases hjd : j < d.length
                  · have e : (d ++ p).take j = d.take j := by rw [List.take_append, show j - d.length = 0 by omega, List.take_zero, List.append_nil]
                    rw [e, q2 j hjd]
                  · have e : (d ++ p).take j = d ++ p.take (j - d.length) := by rw [List.take_append, List.take_of_length_le (by omega)]
                    rw [e, q1]
                    dsimp only
                    rw [p4 (j - d.length) m (by omega) (by omega)]
      · rename_i h0
        split at h
        · cases h
        · rename_i hk
          injection h with h
          injection h with h1 h2
          injection h1 with h1 h3
          subst h1 h2 h3
          exact one c (k :: r2) h0 hk
theorem headL_pre {l r : List UInt8} (h : headL l = .ok r) : ∃ p, l = p ++ r ∧ 0 < p.length ∧ (∀ r', headL (p ++ r') = .ok r') ∧ ∀ k, k < p.length → headL (p.take k) = .error 7 := by
  unfold headL at h
  cases hc : consL (l.length + 1) l with
  | error e => rw [hc] at h; cases h
  | ok y =>
    obtain ⟨⟨ns, C⟩, r1⟩ := y
    rw [hc] at h
    dsimp only at h
    cases hd : dataL C r1 with
    | error e => rw [hd] at h; cases h
    | ok z =>
      obtain ⟨d, r2⟩ := z
      rw [hd] at h
      dsimp only at h
      injection h with h
      subst h
      obtain ⟨p, p1, p2, p3, p4⟩ := consL_pre _ _ _ _ _ hc
      obtain ⟨q1, q2⟩ := dataL_pre hd
      refine ⟨p ++ d, by rw [p1, (dataL_len hd).2.2.2, List.append_assoc], by rw [List.length_append]; omega, fun r' => ?_, fun k hk => ?_⟩
      · unfold headL
        rw [List.append_assoc, p3 (d ++ r') _ (by omega)]
        dsimp only
        rw [q1]
      · unfold headL
        rw [List.length_append] at hk
        by_cases hkp : k < p.length
        · have e : (p ++ d).take k = p.take k := by rw [List.take_append, show k - p.length = 0 by omega, List.take_zero, List.append_nil]
          rw [e, p4 k _ hkp (by rw [List.length_take]; omega)]
        · have e : (p ++ d).take k = p ++ d.take (k - p.length) := by rw [List.take_append, List.take_of_length_le (by omega)]
          rw [e, p3 _ _ (by omega)]
          dsimp only
          rw [q2 _ (by omega)]
/-- what is wrong at the beginning stays so -/
theorem consL_form : ∀ (n : Nat) (l : List UInt8) (e : Int), consL n l = .error e → l.length < n → e = 7 ∨ e = 6 ∧ ∀ r' m, (l ++ r').length < m → consL m (l ++ r') = .error 6
  | 0, _, _, _, h => by omega
  | n + 1, l, e, h, hn => by
    rw [consL_succ] at h
    unfold consS at h
    have wrong : ∀ (c : UInt8) (r : List UInt8), ¬ u8I c = 0 → kindC (u8I c) = 0 → ∀ r' m, ((c :: r) ++ r').length < m → consL m ((c :: r) ++ r') = .error 6 := fun c r h0 hk r' m hm => by
      obtain ⟨m, rfl⟩ : ∃ q, m = q + 1 := ⟨m - 1, by omega⟩
      rw [consL_succ, List.cons_append]; unfold consS; dsimp only; rw [if_neg h0, if_pos hk]
    match l, h, hn with
    | [], h, _ => injection h with h; exact .inl h.symm
    | c :: [], h, hn =>
      dsimp only at h
      split at h
      · injection h with h; exact .inl h.symm
      · rename_i h0
        split at h
        · rename_i hk
          injection h with h
          exact .inr ⟨h.symm, wrong c [] h0 hk⟩
        · cases h
    | c :: k :: r2, h, hn =>
      dsimp only at h
      split at h
      · rename_i h0
        unfold nameS at h
        split at h
        · rename_i hk
          injection h with h
          refine .inr ⟨h.symm, fun r' m hm => ?_⟩
          obtain ⟨m, rfl⟩ : ∃ q, m = q + 1 := ⟨m - 1, by omega⟩
          rw [consL_succ, List.cons_append, List.cons_append]; unfold consS; dsimp only; rw [if_pos h0]; unfold nameS; rw [if_pos hk]
        · rename_i hk
          cases hd : dataL (u8I k) r2 with
          | error e' =>
            rw [hd] at h
            injection h with h
            left
            rw [← h]
            unfold dataL takeL at hd
            split at hd
            · split at hd
              · injection hd with hd; exact hd.symm
              · cases hd
            · split at hd
              · rename_i e1 h1
                split at h1
                · injection h1 with h1; injection hd with hd; omega
                · cases h1
              · split at hd
                · rename_i e1 h1
                  split at h1
                  · injection h1 with h1; injection hd with hd; omega
                  · cases h1
                · cases hd
          | ok y =>
            obtain ⟨d, r3⟩ := y
            rw [hd] at h
            dsimp only at h
            obtain ⟨q1, q2⟩ := dataL_pre hd
            have hl := (dataL_len hd).2.2
            simp only [List.length_cons] at hn
            cases hc : consL n r3 with
            | error e' =>
              rw [hc] at h
              dsimp only at h
              injection h with h
              rcases consL_form n r3 e' hc (by omega) with h7 | ⟨h6, hh⟩
              · exact .inl (by omega)
              · refine .inr ⟨by omega, fun r' m hm => ?_⟩
                obtain ⟨m, rfl⟩ : ∃ q, m = q + 1 := ⟨m - 1, by omega⟩
                rw [consL_succ, List.cons_append, List.cons_append]; unfold consS; dsimp only; rw [if_pos h0]; unfold nameS
                rw [if_neg hk, hl.2, List.append_assoc, q1]
                dsimp only
                rw [hh r' m (by rw [hl.2] at hm; simp only [List.cons_append, List.length_cons, List.length_append] at hm ⊢; omega)]
            | ok z =>
              obtain ⟨⟨ms, D⟩, r4⟩ := z
              rw [hc] at h
              cases h
      · rename_i h0
        split at h
        · rename_i hk
          injection h with h
          exact .inr ⟨h.symm, wrong c (k :: r2) h0 hk⟩
        · cases h
end Go.Bw.R1

/- Plain: a value hangs on its own bytes alone. -/
namespace Go.Bw.R1
set_option maxRecDepth 5000
open Go Go.Bw
/-- decode.Value, behind its head -/
def tailS (q : List UInt8) : Except Int (Val × Nat) :=
  match valF (readF q.length) q with
  | .error _ => .error 6
  | .ok (v, _) => if rightS v = true then .ok (v, q.length) else .error 6
theorem decS_ok {l r p : List UInt8} (h : headL l = .ok r) (hp : l = p ++ r) : decS l = tailS p := by
  have hn : l.length - r.length = p.length := by rw [hp, List.length_append]; omega
  unfold decS tailS
  rw [h]
  dsimp only
  rw [hn, hp, List.take_left' rfl]
  all_goals (cases valF (readF p.length) p <;> rfl)
theorem decS_err {l : List UInt8} {e : Int} (h : headL l = .error e) : decS l = .error e := by unfold decS; rw [h]
theorem headL_err {l : List UInt8} {e : Int} (h : headL l = .error e) : e = 7 ∨ e = 6 ∧ ∀ r', headL (l ++ r') = .error 6 := by
  unfold headL at h
  cases hc : consL (l.length + 1) l with
  | error e' =>
    rw [hc] at h
    injection h with h
    rcases consL_form _ l e' hc (by omega) with h7 | ⟨h6, hh⟩
    · exact .inl (by omega)
    · refine .inr ⟨by omega, fun r' => ?_⟩
      unfold headL
      rw [hh r' _ (by omega)]
  | ok y =>
    obtain ⟨⟨ns, C⟩, r⟩ := y
    rw [hc] at h
    dsimp only at h
    cases hd : dataL C r with
    | ok z => rw [hd] at h; cases h
    | error e' =>
      rw [hd] at h
      injection h with h
      left
      rw [← h]
      unfold dataL takeL at hd
      split at hd
      · split at hd
        · injection hd with hd; exact hd.symm
        · cases hd
      · split at hd
        · rename_i e1 h1
          split at h1
          · injection h1 with h1; injection hd with hd; omega
          · cases h1
        · split at hd
          · rename_i e1 h1
            split at h1
            · injection h1 with h1; injection hd with hd; omega
            · cases h1
          · cases hd
theorem own_ok {b : List UInt8} {v : Val} {n : Nat} (h : decS b = .ok (v, n)) : 1 ≤ n ∧ n ≤ b.length ∧ (∀ more, decS (b ++ more) = .ok (v, n)) ∧ decS (b.take (n - 1)) = .error 7 ∧ decS (b.take n) = .ok (v, n) ∧ rightS v = true := by
  cases hh : headL b with
  | error e => rw [decS_err hh] at h; cases h
  | ok r =>
    obtain ⟨p, p1, p2, p3, p4⟩ := headL_pre hh
    rw [decS_ok hh p1] at h
    have hn : n = p.length ∧ rightS v = true := by
      unfold tailS at h
      split at h
      · cases h
      · split at h
        · rename_i hr
          injection h with h
          injection h with h1 h2
          subst h1
          exact ⟨h2.symm, hr⟩
        · cases h
    obtain ⟨rfl, hr⟩ := hn
    refine ⟨p2, by rw [p1, List.length_append]; omega, fun more => ?_, ?_, ?_, hr⟩
    · rw [p1, List.append_assoc, decS_ok (p3 (r ++ more)) rfl]; exact h
    · have e : b.take (p.length - 1) = p.take (p.length - 1) := by rw [p1, List.take_append, show p.length - 1 - p.length = 0 by omega, List.take_zero, List.append_nil]
      rw [e]; exact decS_err (p4 _ (by omega))
    · have e : b.take p.length = p ++ [] := by rw [p1, List.take_left' rfl, List.append_nil]
      rw [e, decS_ok (p3 []) rfl]; exact h
theorem own_err {b : List UInt8} {e : Int} (h : decS b = .error e) : (e = 6 ∧ ∀ more, decS (b ++ more) = .error 6) ∨ (e = 7 ∧ ∀ more w m, decS (b ++ more) = .ok (w, m) → b.length < m) := by
  cases hh : headL b with
  | error e' =>
    rw [decS_err hh] at h
    injection h with h
    rcases headL_err hh with h7 | ⟨h6, h2⟩
    · refine .inr ⟨by omega, fun more w m hm => ?_⟩
      obtain ⟨a1, a2, _, _, a3, _⟩ := own_ok hm
      rcases Nat.lt_or_ge b.length m with hlt | hge
      · exact hlt
      · exfalso
        have e1 : (b ++ more).take m = b.take m := by rw [List.take_append, show m - b.length = 0 by omega, List.take_zero, List.append_nil]
        rw [e1] at a3
        obtain ⟨_, _, b3, _⟩ := own_ok a3
        have b4 := b3 (b.drop m)
        rw [List.take_append_drop, decS_err hh] at b4
        cases b4
    · exact .inl ⟨by omega, fun more => decS_err (h2 more)⟩
  | ok r =>
    obtain ⟨p, p1, p2, p3, p4⟩ := headL_pre hh
    rw [decS_ok hh p1] at h
    have h6 : e = 6 := by
      unfold tailS at h
      split at h
      · injection h with h; exact h.symm
      · split at h
        · cases h
        · injection h with h; exact h.symm
    subst h6
    exact .inl ⟨rfl, fun more => by rw [p1, List.append_assoc, decS_ok (p3 (r ++ more)) rfl]; exact h⟩
end Go.Bw.R1

/- decode.Value. -/
namespace Go.Bw.R1
set_option maxRecDepth 5000
open Go Go.Bw Go.Proofs
theorem takeL_e {n : Nat} {l : List UInt8} {e : Int} (h : takeL n l = .error e) : e ≠ 0 := by
  unfold takeL at h
  split at h
  · injection h with h; omega
  · cases h
theorem dataL_e {c : Int} {l : List UInt8} {e : Int} (h : dataL c l = .error e) : e ≠ 0 := by
  unfold dataL at h
  split at h
  · exact takeL_e h
  · split at h
    · rename_i e1 h1; injection h with h; subst h; exact takeL_e h1
    · split at h
      · rename_i e1 h1; injection h with h; subst h; exact takeL_e h1
      · cases h
theorem consL_e : ∀ (n : Nat) {l : List UInt8} {e : Int}, consL n l = .error e → e ≠ 0
  | 0, l, e, h => by injection h with h; omega
  | n + 1, l, e, h => by
    rw [consL_succ] at h
    unfold consS at h
    split at h
    · injection h with h; omega
    · split at h
      · split at h
        · injection h with h; omega
        · unfold nameS at h
          split at h
          · injection h with h; omega
          · split at h
            · rename_i e1 h1; injection h with h; subst h; exact dataL_e h1
            · split at h
              · rename_i e1 h1; injection h with h; subst h; exact consL_e n h1
              · cases h
      · split at h
        · injection h with h; omega
        · cases h
theorem headL_e {l : List UInt8} {e : Int} (h : headL l = .error e) : e ≠ 0 := by
  rcases headL_err h with h | ⟨h, _⟩ <;> omega
theorem itemF_e {rd : Int → List UInt8 → Except Int Val} (hr : ∀ c d e, rd c d = .error e → e ≠ 0) {ns : List Val} {c : Int} {l : List UInt8} {e : Int} (h : itemF rd ns c l = .error e) : e ≠ 0 := by
  unfold itemF at h
  split at h
  · rename_i e1 h1; injection h with h; subst h; exact dataL_e h1
  · split at h
    · rename_i e1 h1; injection h with h; subst h; exact hr _ _ _ h1
    · cases h
theorem valF_e {rd : Int → List UInt8 → Except Int Val} (hr : ∀ c d e, rd c d = .error e → e ≠ 0) {l : List UInt8} {e : Int} (h : valF rd l = .error e) : e ≠ 0 := by
  unfold valF at h
  split at h
  · rename_i e1 h1; injection h with h; subst h; exact consL_e _ h1
  · exact itemF_e hr h
theorem manyF_e {st : List UInt8 → Except Int (Val × List UInt8)} (hs : ∀ l e, st l = .error e → e ≠ 0) : ∀ (n : Nat) {l : List UInt8} {e : Int}, manyF st n l = .error e → e ≠ 0
  | 0, _, _, h => by cases h
  | n + 1, l, e, h => by
    simp only [manyF] at h
    split at h
    · rename_i e1 h1; injection h with h; subst h; exact hs _ _ h1
    · split at h
      · rename_i e1 h1; injection h with h; subst h; exact manyF_e hs n h1
      · cases h
theorem endF_e {k : Int} {x : Except Int (List Val × List UInt8)} (hx : ∀ e, x = .error e → e ≠ 0) {e : Int} (h : endF k x = .error e) : e ≠ 0 := by
  unfold endF at h
  split at h
  · injection h with h; subst h; exact hx _ rfl
  · split at h
    · cases h
    · injection h with h; omega
theorem readF_e : ∀ (n : Nat) (c : Int) (d : List UInt8) (e : Int), readF n c d = .error e → e ≠ 0
  | 0, _, _, _, h => by injection h with h; omega
  | n + 1, c, d, e, h => by
    rw [readF_succ] at h
    unfold readS at h
    split at h
    · cases h
    · split at h
      · rename_i e1 h1; injection h with h; subst h; exact takeL_e h1
      · split at h
        · rename_i e1 h1; injection h with h; subst h; exact takeL_e h1
        · unfold bodyF at h
          split at h
          · injection h with h; omega
          · split at h
            · split at h
              · rename_i e1 h1; injection h with h; subst h; exact consL_e _ h1
              · exact endF_e (fun e he => manyF_e (fun l e h => itemF_e (readF_e n) h) _ he) h
            · exact endF_e (fun e he => manyF_e (fun l e h => valF_e (readF_e n) h) _ he) h

def tryG (o : Option En) (m : Nat) (e : Int) (ts : Sto) : Option (R × Sto) := match o with
  | some ⟨0, [_]⟩ => finR .ret (gcA m [I e] (Bw.toL ((stL ts).put m (some ⟨0, [I e]⟩))))
  | _ => none
def tryP (m : Nat) (ts : Sto) : D → Option (R × Sto)
  | .ifc t (.sc (.int .i64 e)) => if t = 28 then tryG (rowOf ts m) m e ts else none
  | _ => none
def tryR (m : Nat) : Option (R × Sto) → Option (R × Sto)
  | some (.ret _, ts) => tryG (rowOf ts m) m 0 ts
  | some (.pan d, ts) => tryP m ts d
  | _ => none
def tryO (C : Orc) (ds : List D) (es : Sto) : Option (R × Sto) := match ds with
  | [.fn (.func f) a b] => tryR es.length (Bw.callV C (.fn (.func f) a b) [] (es ++ [some ⟨0, [I 0]⟩]))
  | _ => none
theorem tryG_some {y : D} {m : Nat} {e : Int} {ts : Sto} : tryG (some ⟨0, [y]⟩) m e ts = finR .ret (gcA m [I e] (Bw.toL ((stL ts).put m (some ⟨0, [I e]⟩)))) := nr rfl
theorem tryP_some {m : Nat} {ts : Sto} {e : Int} : tryP m ts (.ifc 28 (I e)) = tryG (rowOf ts m) m e ts := nr rfl
theorem tryR_ret {m : Nat} {ts : Sto} {d : D} : tryR m (some (.ret d, ts)) = tryG (rowOf ts m) m 0 ts := nr rfl
theorem tryR_pan {m : Nat} {ts : Sto} {d : D} : tryR m (some (.pan d, ts)) = tryP m ts d := nr rfl
theorem tryO_one {C : Orc} {f : FuncId} {a b : List D} {es : Sto} : tryO C [.fn (.func f) a b] es = tryR es.length (Bw.callV C (.fn (.func f) a b) [] (es ++ [some ⟨0, [I 0]⟩])) := nr rfl
theorem finR_inv {mk : D → R} {x : Option (List Nat × List D × Sto)} {r : R} {ts : Sto} (h : finR mk x = some (r, ts)) : ∃ acc ds, x = some (acc, ds, ts) ∧ r = mk (ds.headD .undef) := by
  unfold finR at h
  split at h
  · rename_i acc ds es
    simp only [Option.some.injEq, Prod.mk.injEq] at h
    obtain ⟨rfl, rfl⟩ := h
    exact ⟨acc, ds, rfl, rfl⟩
  · cases h
theorem tryG_inv {o : Option En} {m : Nat} {e : Int} {ts ts' : Sto} {r : R} (h : tryG o m e ts = some (r, ts')) : ∃ y acc d2, o = some ⟨0, [y]⟩ ∧ gcA m [I e] (Bw.toL ((stL ts).put m (some ⟨0, [I e]⟩))) = some (acc, [d2], ts') ∧ r = .ret d2 := by
  unfold tryG at h
  split at h
  · rename_i y
    obtain ⟨acc, ds, h1, h2⟩ := finR_inv h
    obtain ⟨_, h3, _⟩ := gcA_spec h1
    simp only [D.renL] at h3
    subst h3
    exact ⟨y, acc, _, rfl, h1, h2⟩
  · cases h
def own2 (f : FuncId) : Bool := [3, 4, 11, 12, 13, 14, 15].contains f
noncomputable def X2 : Orc := fun f ds es => if own2 f = true then none else if f = 32 then tryO EV ds es else EV f ds es
noncomputable abbrev EW : Orc := ev Tryd.prog gl0 An1 [] X2
theorem soundX2 (hm : Tryd.prog.follows .mixedOrders = true) : SoundO Tryd.prog gl0 X2 := by
  intro f ds es r ts h
  have hEV := ev_sound (P := Tryd.prog) (GL := gl0) (nc := []) an1_its soundX hm
  unfold X2 at h
  split at h
  · cases h
  split at h
  · rename_i hf
    subst hf
    unfold tryO at h
    split at h
    · rename_i f a b
      cases hc : Bw.callV EV (.fn (.func f) a b) [] (es ++ [some ⟨0, [I 0]⟩]) with
      | none => rw [hc] at h; cases h
      | some y =>
        obtain ⟨r1, ts1⟩ := y
        rw [hc] at h
        cases r1 with
        | ret d =>
          rw [tryR_ret] at h
          obtain ⟨y, acc, d2, h1, h2, rfl⟩ := tryG_inv h
          exact try_call hEV hc h1 (.inl ⟨d, rfl, rfl⟩) h2
        | pan d =>
          rw [tryR_pan] at h
          unfold tryP at h
          split at h
          · split at h
            · rename_i e ht
              subst ht
              obtain ⟨y, acc, d2, h1, h2, rfl⟩ := tryG_inv h
              exact try_call hEV hc h1 (.inr rfl) h2
            · cases h
          · cases h
    · cases h
  · exact hEV f ds es r ts h
theorem ew_of {f : FuncId} {ds : List D} {es : Sto} {r : R × Sto} (hf : (own2 f || f == 32) = false) (h : EV f ds es = some r) : EW f ds es = some r := by
  simp only [Bool.or_eq_false_iff] at hf
  refine ev_x ?_
  unfold X2
  rw [if_neg (by rw [hf.1]; decide), if_neg (by simpa using hf.2)]
  exact h
theorem ew_try {ds : List D} {es : Sto} {r : R × Sto} (h : tryO EV ds es = some r) : EW 32 ds es = some r := by
  refine ev_x ?_
  unfold X2
  rw [if_neg (by decide), if_pos rfl]
  exact h
def decR (x : Except Int (Val × Nat)) : R × Sto := match x with
  | .error e => (.ret (.tup [(Val.mk 0 0 e0 []).d, I 0, I e]), [])
  | .ok (v, n) => (.ret (.tup [v.d, I n, I 0]), [])
theorem try1_c (s : ByteArray) (hs2 : s.size ≤ 36000) (x : Except Int (List UInt8)) (hx : headL (toL s) = x) : EW 32 [.fn (.func 33) [] [.ptr 0 0 0]] [some ⟨0, [.ptr 1 0 0]⟩, some ⟨0, rdr s 0⟩] =
    some (match x with
      | .error e => (.ret (I e), [some ⟨0, [.undef]⟩, some ⟨0, [.undef, .undef]⟩])
      | .ok r => (.ret (I 0), [some ⟨0, [.ptr 1 0 0]⟩, some ⟨0, rdr s (s.size - r.length)⟩])) := by
  have hv := v1_c s hs2
  rw [hx] at hv
  unfold v1R at hv
  refine ew_try ?_
  rw [tryO_one]
  cases x with
  | error e =>
    simp only [rdr, Int.cast_ofNat_Int] at hv ⊢
    simp +contextual (maxSteps := 10000000) only [↓reduceIte, go_sem, Nat.reduceEqDiff, Nat.reduceAdd, Nat.reduceSub, Nat.reduceMul, Nat.reduceLeDiff, Nat.reduceLT, Nat.reduceBEq, Nat.reduceDiv, Nat.reduceMod, Int.reduceLE, Int.reduceLT, Int.reduceEq, Int.reduceBEq, Int.reduceBNe, Int.reduceAdd, Int.reduceSub, Int.reduceNeg, Int.reduceToNat, Int.reduceMul, Int.reducePow, Nat.reducePow, reduceCtorEq, hv, tryR_pan, tryP_some, tryG_some]
  | ok r =>
    simp only [rdr, Int.cast_ofNat_Int] at hv ⊢
    simp +contextual (maxSteps := 10000000) only [↓reduceIte, go_sem, Nat.reduceEqDiff, Nat.reduceAdd, Nat.reduceSub, Nat.reduceMul, Nat.reduceLeDiff, Nat.reduceLT, Nat.reduceBEq, Nat.reduceDiv, Nat.reduceMod, Int.reduceLE, Int.reduceLT, Int.reduceEq, Int.reduceBEq, Int.reduceBNe, Int.reduceAdd, Int.reduceSub, Int.reduceNeg, Int.reduceToNat, Int.reduceMul, Int.reducePow, Nat.reducePow, reduceCtorEq, hv, tryR_ret, tryG_some]
theorem try2_c (s : ByteArray) (hs2 : s.size ≤ 36000) (x : Except Int (Val × List UInt8)) (hx : valF (readF s.size) (toL s) = x) : EW 32 [.fn (.func 36) [] [.ptr 0 0 0, .ptr 2 0 0]] [some ⟨0, [.ptr 1 0 0]⟩, some ⟨0, rdr s 0⟩, some ⟨0, zeC⟩] =
    some (match x with
      | .error e => (.ret (I e), [some ⟨0, [.undef]⟩, some ⟨0, [.undef, .undef]⟩, some ⟨0, [.undef, .undef, .undef, .undef]⟩])
      | .ok (v, r) => (.ret (I 0), [some ⟨0, [.ptr 1 0 0]⟩, some ⟨0, rdr s (s.size - r.length)⟩, some ⟨0, v.cs⟩])) := by
  have hv := v2_c s hs2
  rw [hx] at hv
  unfold v2R at hv
  refine ew_try ?_
  rw [tryO_one]
  cases x with
  | error e =>
    simp only [rdr, Int.cast_ofNat_Int] at hv ⊢
    simp +contextual (maxSteps := 10000000) only [↓reduceIte, go_sem, Nat.reduceEqDiff, Nat.reduceAdd, Nat.reduceSub, Nat.reduceMul, Nat.reduceLeDiff, Nat.reduceLT, Nat.reduceBEq, Nat.reduceDiv, Nat.reduceMod, Int.reduceLE, Int.reduceLT, Int.reduceEq, Int.reduceBEq, Int.reduceBNe, Int.reduceAdd, Int.reduceSub, Int.reduceNeg, Int.reduceToNat, Int.reduceMul, Int.reducePow, Nat.reducePow, reduceCtorEq, hv, tryR_pan, tryP_some, tryG_some]
  | ok y =>
    obtain ⟨v, r⟩ := y
    simp only [rdr, Int.cast_ofNat_Int] at hv ⊢
    simp +contextual (maxSteps := 10000000) only [↓reduceIte, go_sem, Nat.reduceEqDiff, Nat.reduceAdd, Nat.reduceSub, Nat.reduceMul, Nat.reduceLeDiff, Nat.reduceLT, Nat.reduceBEq, Nat.reduceDiv, Nat.reduceMod, Int.reduceLE, Int.reduceLT, Int.reduceEq, Int.reduceBEq, Int.reduceBNe, Int.reduceAdd, Int.reduceSub, Int.reduceNeg, Int.reduceToNat, Int.reduceMul, Int.reducePow, Nat.reducePow, reduceCtorEq, hv, tryR_ret, tryG_some]
theorem takeB (s : ByteArray) (b : Nat) : List.take b (bytesD s) = bytesD (s.extract 0 b) := by
  have := cutB s 0 b
  rwa [List.drop_zero] at this
theorem valF_sz {n : Nat} {l r : List UInt8} {v : Val} (h : valF (readF n) l = .ok (v, r)) : v.sz ≤ 1100 * l.length := by
  unfold valF at h
  cases hc : consL (l.length + 1) l with
  | error e => rw [hc] at h; cases h
  | ok y =>
    obtain ⟨⟨ns, C⟩, r2⟩ := y
    rw [hc] at h
    obtain ⟨d, w, h1, h2, rfl⟩ := itemF_len h
    have h3 := readF_sz n C d w h2
    have h4 := (consL_sz _ _ _ _ _ hc).1
    have h5 := (dataL_len h1).2.2.1
    rw [callV_size]
    omega
set_option maxHeartbeats 2000000 in
theorem decode_c (s : ByteArray) (hs2 : s.size ≤ 36000) : EW 15 [.ro false (bytesD s)] [] = some (decR (decS (toL s))) := by
  refine (ev_body ⟨[], [], [(9, [(0, 0, false), (5, 0, true), (1, 0, false), (2, 0, false), (3, 0, false), (4, 0, false), (6, 1, false), (7, 1, false)])], true, [], noIt⟩ [.cell 2 27, .tmp 3, .tmp 4] rfl Tryd.func15 rfl rfl rfl (by kernel_rfl) (by show 1 ≤ 41; decide) (by kernel_rfl)).trans ?_
  cases hh : headL (toL s) with
  | error e =>
    have h1 := try1_c s hs2 _ hh
    dsimp only at h1
    simp only [rdr, Int.cast_ofNat_Int] at h1
    have he : (e != 0) = true := by have := headL_e hh; simpa using this
    rw [decS_err hh]
    simp +contextual (maxSteps := 10000000) only [↓reduceIte, go_sem, Nat.reduceEqDiff, Nat.reduceAdd, Nat.reduceSub, Nat.reduceMul, Nat.reduceLeDiff, Nat.reduceLT, Nat.reduceBEq, Nat.reduceDiv, Nat.reduceMod, Int.reduceLE, Int.reduceLT, Int.reduceEq, Int.reduceBEq, Int.reduceBNe, Int.reduceAdd, Int.reduceSub, Int.reduceNeg, Int.reduceToNat, Int.reduceMul, Int.reducePow, Nat.reducePow, reduceCtorEq, h1, he]
    rfl
  | ok r =>
    have h1 := try1_c s hs2 _ hh
    dsimp only at h1
    obtain ⟨p, hp, hp0, _, _⟩ := headL_pre hh
    rw [decS_ok hh hp]
    have hn : s.size - r.length = p.length := by rw [← toL_len, hp, List.length_append]; omega
    have hle : p.length ≤ s.size := by rw [← toL_len, hp, List.length_append]; omega
    rw [hn] at h1
    have hq : toL (s.extract 0 p.length) = p := by rw [toL_ext, hp, List.drop_zero, Nat.sub_zero, List.take_left' rfl]
    have hqs : (s.extract 0 p.length).size = p.length := by rw [← toL_len, hq]
    simp only [rdr, Int.cast_ofNat_Int] at h1
    unfold tailS
    cases hv : valF (readF p.length) p with
    | error e =>
      have h2 := try2_c (s.extract 0 p.length) (by omega) (.error e) (by rw [hqs, hq]; exact hv)
      dsimp only at h2
      simp only [rdr, Int.cast_ofNat_Int] at h2
      have he : (e != 0) = true := by have := valF_e (readF_e _) hv; simpa using this
      simp +contextual (maxSteps := 10000000) only [↓reduceIte, go_sem, Nat.reduceEqDiff, Nat.reduceAdd, Nat.reduceSub, Nat.reduceMul, Nat.reduceLeDiff, Nat.reduceLT, Nat.reduceBEq, Nat.reduceDiv, Nat.reduceMod, Int.reduceLE, Int.reduceLT, Int.reduceEq, Int.reduceBEq, Int.reduceBNe, Int.reduceAdd, Int.reduceSub, Int.reduceNeg, Int.reduceToNat, Int.reduceMul, Int.reducePow, Nat.reducePow, reduceCtorEq, h1, h2, he, show (p.length ≤ s.size) = True from eq_true hle, all1, takeB, Bool.false_and]
      rfl
    | ok y =>
      obtain ⟨v, r'⟩ := y
      have h2 := try2_c (s.extract 0 p.length) (by omega) (.ok (v, r')) (by rw [hqs, hq]; exact hv)
      dsimp only at h2
      simp only [rdr, Int.cast_ofNat_Int] at h2
      have hsz : v.sz ≤ 40000000 := by have := valF_sz hv; omega
      have hwf : v.wf := valF_wf (readF_wf _) p v r' hv
      have hr := ew_of rfl (right_c v hsz hwf)
      simp +contextual (maxSteps := 10000000) only [↓reduceIte, go_sem, Nat.reduceEqDiff, Nat.reduceAdd, Nat.reduceSub, Nat.reduceMul, Nat.reduceLeDiff, Nat.reduceLT, Nat.reduceBEq, Nat.reduceDiv, Nat.reduceMod, Int.reduceLE, Int.reduceLT, Int.reduceEq, Int.reduceBEq, Int.reduceBNe, Int.reduceAdd, Int.reduceSub, Int.reduceNeg, Int.reduceToNat, Int.reduceMul, Int.reducePow, Nat.reducePow, reduceCtorEq, h1, h2, hr, show (p.length ≤ s.size) = True from eq_true hle, all1, takeB, Bool.false_and]
      cases rightS v <;> rfl
end Go.Bw.R1
