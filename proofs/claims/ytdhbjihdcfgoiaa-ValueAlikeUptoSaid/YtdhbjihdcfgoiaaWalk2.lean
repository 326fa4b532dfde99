/- What the functions answer. -/
import Derived.Test.YtdhbjihdcfgoiaaWalk1
set_option linter.unusedSimpArgs false
set_option linter.unusedVariables false
namespace Go.Bw.R1
open Go Go.Bw Go.Proofs
theorem called_c (v : Val) : EV 68 [v.d] [] = some (.ret (B (v.kind == 6 || v.kind == 21)), []) := by
  refine (ev_body ⟨[1], [], [], false, [], noIt⟩ [.tmp 2] rfl Try.func68 rfl rfl rfl (by kernel_rfl) (by show 1 ≤ 11; decide)).trans ?_
  cases h : (v.kind == 6)
  · simp +contextual (maxSteps := 10000000) only [↓reduceIte, go_sem, Nat.reduceEqDiff, Nat.reduceAdd, Nat.reduceSub, Nat.reduceMul, Nat.reduceLeDiff, Nat.reduceLT, Nat.reduceBEq, Nat.reduceDiv, Nat.reduceMod, Int.reduceLE, Int.reduceLT, Int.reduceEq, Int.reduceBEq, Int.reduceBNe, Int.reduceAdd, Int.reduceSub, Int.reduceNeg, Int.reduceToNat, Int.reduceMul, Int.reducePow, Nat.reducePow, reduceCtorEq, h, Bool.false_or]
  · simp +contextual (maxSteps := 10000000) only [↓reduceIte, go_sem, Nat.reduceEqDiff, Nat.reduceAdd, Nat.reduceSub, Nat.reduceMul, Nat.reduceLeDiff, Nat.reduceLT, Nat.reduceBEq, Nat.reduceDiv, Nat.reduceMod, Int.reduceLE, Int.reduceLT, Int.reduceEq, Int.reduceBEq, Int.reduceBNe, Int.reduceAdd, Int.reduceSub, Int.reduceNeg, Int.reduceToNat, Int.reduceMul, Int.reducePow, Nat.reducePow, reduceCtorEq, h, Bool.true_or]
mutual
theorem same_comm : ∀ a b : Val, same a b = same b a
  | .mk k n t l, .mk k' n' t' l' => by
    rw [same, same, sameL_comm l l', Bool.beq_comm (a := k), Bool.beq_comm (a := n), show decide (t = t') = decide (t' = t) from decide_eq_decide.2 eq_comm]
theorem sameL_comm : ∀ a b : List Val, sameL a b = sameL b a
  | [], [] => rfl
  | [], _ :: _ => rfl
  | _ :: _, [] => rfl
  | a :: l, b :: m => by rw [sameL, sameL, same_comm a b, sameL_comm l m]
end
mutual
theorem same_refl : ∀ a : Val, same a a = true
  | .mk k n t l => by rw [same, sameL_refl l]; simp
theorem sameL_refl : ∀ a : List Val, sameL a a = true
  | [] => rfl
  | a :: l => by rw [sameL, same_refl a, sameL_refl l]; rfl
end
theorem alikeF_refl : ∀ (n : Nat) (a : Val), a.sz ≤ n → mayS a = true → alikeF n a a = true
  | 0, .mk .., h, _ => by simp [Val.sz] at h
  | n + 1, a, hn, hm => by
    by_cases hk : a.kind = 25
    · obtain ⟨x, y, hx, _, my⟩ := may_desc hm hk
      rw [Val.sz_eq, hx] at hn
      simp only [Val.szL] at hn
      simp only [alikeF, hk, bne_self_eq_false, Bool.or_self, Bool.false_eq_true, if_false, hx, same_refl, alikeF_refl n y (by omega) my, Bool.and_self]
    · have e : (a.kind != 25) = true := by simpa using hk
      simp only [alikeF, e, Bool.true_or, if_true, beq_self_eq_true]
theorem alike_refl {a : Val} (h : mayS a = true) : alike a a = true := alikeF_refl _ a (Nat.le_refl _) h
theorem mayL_drop {l : List Val} {i : Nat} {x : Val} (h : l[i]? = some x) : mayL (l.drop i) = (mayS x && mayL (l.drop (i + 1))) := by
  obtain ⟨hl, rfl⟩ := List.getElem?_eq_some_iff.1 h
  rw [List.drop_eq_getElem_cons hl, mayL]
theorem mayL_at {l : List Val} (h : mayL l = true) {i : Nat} {x : Val} (hx : l[i]? = some x) : mayS x = true := by
  rw [mayL_all, List.all_eq_true] at h
  exact h x (List.mem_of_getElem? hx)
theorem mod21 (n : Nat) : (((n : Int).tmod 2) == 1) = (n % 2 == 1) := by
  rw [Int.tmod_eq_emod_of_nonneg (by omega), Bool.eq_iff_iff]
  simp only [beq_iff_eq]
  omega
theorem keyL_at : ∀ (l : List Val) (a : Nat), 2 * a + 1 < l.length → (keyL l)[a]? = l[2 * a]?
  | x :: y :: r, 0, _ => rfl
  | x :: y :: r, a + 1, h => by
    have := keyL_at r a (by simp only [List.length_cons] at h; omega)
    rw [keyL, List.getElem?_cons_succ, this, show 2 * (a + 1) = 2 * a + 1 + 1 by omega, List.getElem?_cons_succ, List.getElem?_cons_succ]
  | [], a, h => by simp at h
  | [_], a, h => by simp at h
theorem keyL_len : ∀ l : List Val, 2 * (keyL l).length ≤ l.length ∧ l.length ≤ 2 * (keyL l).length + 1
  | [] => by simp [keyL]
  | [_] => by simp [keyL]
  | _ :: _ :: r => by have := keyL_len r; simp only [keyL, List.length_cons]; omega
theorem noSame_step {ks : List Val} {a : Nat} {x : Val} (h : ks[a]? = some x) : noSame (ks.take a) (ks.drop a) = if ((ks.take a).any fun s => same s x) = true then false else noSame (ks.take (a + 1)) (ks.drop (a + 1)) := by
  obtain ⟨hl, rfl⟩ := List.getElem?_eq_some_iff.1 h
  rw [List.drop_eq_getElem_cons hl, noSame, List.take_succ_eq_append_getElem hl]
theorem any_step {ks : List Val} {a b : Nat} {x y : Val} (hb : b < a) (h : ks[b]? = some y) : (((ks.take a).drop b).any fun s => same s x) = (same y x || ((ks.take a).drop (b + 1)).any fun s => same s x) := by
  obtain ⟨hl, rfl⟩ := List.getElem?_eq_some_iff.1 h
  have hl2 : b < (ks.take a).length := by rw [List.length_take]; omega
  rw [List.drop_eq_getElem_cons hl2, List.any_cons, List.getElem_take]
def arS : List Val → Val → Bool
  | [], _ => true
  | y :: _, x => alike y x
theorem fam24_eq (l : List Val) : famS 24 l = l.all (arS l) := by
  cases l <;> rfl
theorem all_drop {p : Val → Bool} {l : List Val} {i : Nat} {x : Val} (h : l[i]? = some x) : (l.drop i).all p = (p x && (l.drop (i + 1)).all p) := by
  obtain ⟨hl, rfl⟩ := List.getElem?_eq_some_iff.1 h
  rw [List.drop_eq_getElem_cons hl, List.all_cons]
def ntS (v : Val) : Bool := (v.num == 0) && decide (v.text = ⟨#[]⟩)
def rfS (v : Val) : Bool :=
  if v.kind = 22 ∨ v.kind = 23 ∨ v.kind = 24 ∨ v.kind = 25 then famS v.kind v.kids && ntS v else v.kids.isEmpty && plainS v.kind v.num v.text
set_option maxHeartbeats 2000000 in
theorem rmay22 (v : Val) (hs : v.sz ≤ 4000000) (hc : ∀ x ∈ v.kids, EV 54 [x.d] [] = some (.ret (B (mayS x)), [])) (hk : v.kind = 22) : EV 54 [v.d] [] = some (.ret (B (mayL v.kids && rfS v)), []) := by
  have hl := szL_len v.kids
  have hz := Val.sz_eq v
  refine (ev_body ⟨[1], [(0, [1, 3]), (3, [1, 4, 5]), (5, [1, 4, 5, 6]), (7, [1, 4, 7])], [(19, [(0, 0, false), (1, 0, false), (2, 0, false), (3, 0, false), (4, 0, false), (5, 0, false), (6, 0, false), (7, 0, false), (8, 0, false), (9, 0, false), (10, 0, false)]), (25, [(0, 0, false), (1, 0, false), (2, 0, false), (3, 0, false), (4, 0, false), (5, 0, false), (6, 0, false), (7, 0, false), (8, 0, false), (9, 0, false), (10, 0, false)])], false, [], noIt⟩ [.tmp 2] rfl Try.func54 rfl rfl rfl (by kernel_rfl) (by show 1 ≤ 95; decide)).trans ?_
  simp +contextual (maxSteps := 10000000) only [↓reduceIte, go_sem, Nat.reduceEqDiff, Nat.reduceAdd, Nat.reduceSub, Nat.reduceMul, Nat.reduceLeDiff, Nat.reduceLT, Nat.reduceBEq, Nat.reduceDiv, Nat.reduceMod, Int.reduceLE, Int.reduceLT, Int.reduceEq, Int.reduceBEq, Int.reduceBNe, Int.reduceAdd, Int.reduceSub, Int.reduceNeg, Int.reduceToNat, Int.reduceMul, Int.reducePow, Nat.reducePow, reduceCtorEq]
  refine lpK_inv (fun m0 f es => ∃ (i : Nat) (j : Int), j = i ∧ i + m0 = v.kids.length ∧ mayL v.kids = mayL (v.kids.drop i) ∧ f = [(1, .rp v.cs), (3, I j)] ∧ es = []) v.kids.length ⟨0, _, rfl, by omega, rfl, rfl, rfl⟩ ?_
  rintro m0 _ _ ⟨i, _, rfl, hi, hm, rfl, rfl⟩ ih
  rcases Nat.lt_or_ge i v.kids.length with hlt | hge
  · obtain ⟨x, hx⟩ := get_lt hlt
    have hlt' : decide ((i : Int) < v.kids.length) = true := by simpa using hlt
    have hcx := hc x (List.mem_of_getElem? hx)
    simp +contextual (maxSteps := 10000000) only [↓reduceIte, go_sem, Nat.reduceEqDiff, Nat.reduceAdd, Nat.reduceSub, Nat.reduceMul, Nat.reduceLeDiff, Nat.reduceLT, Nat.reduceBEq, Nat.reduceDiv, Nat.reduceMod, Int.reduceLE, Int.reduceLT, Int.reduceEq, Int.reduceBEq, Int.reduceBNe, Int.reduceAdd, Int.reduceSub, Int.reduceNeg, Int.reduceToNat, Int.reduceMul, Int.reducePow, Nat.reducePow, reduceCtorEq, hx, hcx, hlt', wrap_i64 (n := (i : Int) + 1) (by omega) (by omega)]
    refine ite_intro (fun h => ?_) (fun h => ?_)
    · rw [hm, mayL_drop hx]; simp at h; simp [h]
    · exact ih (m0 - 1) _ _ (by omega) ⟨i + 1, _, by omega, by omega, by rw [hm, mayL_drop hx]; simp at h; simp [h], rfl, rfl⟩
  · have hlt' : decide ((i : Int) < v.kids.length) = false := by simpa using hge
    clear ih
    rw [List.drop_eq_nil_of_le hge] at hm
    rw [hm, mayL, Bool.true_and]
    simp +contextual (maxSteps := 10000000) only [↓reduceIte, go_sem, Nat.reduceEqDiff, Nat.reduceAdd, Nat.reduceSub, Nat.reduceMul, Nat.reduceLeDiff, Nat.reduceLT, Nat.reduceBEq, Nat.reduceDiv, Nat.reduceMod, Int.reduceLE, Int.reduceLT, Int.reduceEq, Int.reduceBEq, Int.reduceBNe, Int.reduceAdd, Int.reduceSub, Int.reduceNeg, Int.reduceToNat, Int.reduceMul, Int.reducePow, Nat.reducePow, reduceCtorEq, hlt', hk, rfS, famS]
    rfl
set_option maxHeartbeats 2000000 in
theorem rmay23 (v : Val) (hs : v.sz ≤ 4000000) (hc : ∀ x ∈ v.kids, EV 54 [x.d] [] = some (.ret (B (mayS x)), [])) (hk : v.kind = 23) : EV 54 [v.d] [] = some (.ret (B (mayL v.kids && rfS v)), []) := by
  have hl := szL_len v.kids
  have hz := Val.sz_eq v
  refine (ev_body ⟨[1], [(0, [1, 3]), (3, [1, 4, 5]), (5, [1, 4, 5, 6]), (7, [1, 4, 7])], [(19, [(0, 0, false), (1, 0, false), (2, 0, false), (3, 0, false), (4, 0, false), (5, 0, false), (6, 0, false), (7, 0, false), (8, 0, false), (9, 0, false), (10, 0, false)]), (25, [(0, 0, false), (1, 0, false), (2, 0, false), (3, 0, false), (4, 0, false), (5, 0, false), (6, 0, false), (7, 0, false), (8, 0, false), (9, 0, false), (10, 0, false)])], false, [], noIt⟩ [.tmp 2] rfl Try.func54 rfl rfl rfl (by kernel_rfl) (by show 1 ≤ 95; decide)).trans ?_
  simp +contextual (maxSteps := 10000000) only [↓reduceIte, go_sem, Nat.reduceEqDiff, Nat.reduceAdd, Nat.reduceSub, Nat.reduceMul, Nat.reduceLeDiff, Nat.reduceLT, Nat.reduceBEq, Nat.reduceDiv, Nat.reduceMod, Int.reduceLE, Int.reduceLT, Int.reduceEq, Int.reduceBEq, Int.reduceBNe, Int.reduceAdd, Int.reduceSub, Int.reduceNeg, Int.reduceToNat, Int.reduceMul, Int.reducePow, Nat.reducePow, reduceCtorEq]
  refine lpK_inv (fun m0 f es => ∃ (i : Nat) (j : Int), j = i ∧ i + m0 = v.kids.length ∧ mayL v.kids = mayL (v.kids.drop i) ∧ f = [(1, .rp v.cs), (3, I j)] ∧ es = []) v.kids.length ⟨0, _, rfl, by omega, rfl, rfl, rfl⟩ ?_
  rintro m0 _ _ ⟨i, _, rfl, hi, hm, rfl, rfl⟩ ih
  rcases Nat.lt_or_ge i v.kids.length with hlt | hge
  · obtain ⟨x, hx⟩ := get_lt hlt
    have hlt' : decide ((i : Int) < v.kids.length) = true := by simpa using hlt
    have hcx := hc x (List.mem_of_getElem? hx)
    simp +contextual (maxSteps := 10000000) only [↓reduceIte, go_sem, Nat.reduceEqDiff, Nat.reduceAdd, Nat.reduceSub, Nat.reduceMul, Nat.reduceLeDiff, Nat.reduceLT, Nat.reduceBEq, Nat.reduceDiv, Nat.reduceMod, Int.reduceLE, Int.reduceLT, Int.reduceEq, Int.reduceBEq, Int.reduceBNe, Int.reduceAdd, Int.reduceSub, Int.reduceNeg, Int.reduceToNat, Int.reduceMul, Int.reducePow, Nat.reducePow, reduceCtorEq, hx, hcx, hlt', wrap_i64 (n := (i : Int) + 1) (by omega) (by omega)]
    refine ite_intro (fun h => ?_) (fun h => ?_)
    · rw [hm, mayL_drop hx]; simp at h; simp [h]
    · exact ih (m0 - 1) _ _ (by omega) ⟨i + 1, _, by omega, by omega, by rw [hm, mayL_drop hx]; simp at h; simp [h], rfl, rfl⟩
  · have hlt' : decide ((i : Int) < v.kids.length) = false := by simpa using hge
    clear ih
    rw [List.drop_eq_nil_of_le hge] at hm
    rw [hm, mayL, Bool.true_and]
    have hk0 : rfS v = (famS 23 v.kids && ntS v) := by rw [rfS, if_pos (by simp [hk]), hk]
    rw [hk0]
    simp +contextual (maxSteps := 10000000) only [↓reduceIte, go_sem, Nat.reduceEqDiff, Nat.reduceAdd, Nat.reduceSub, Nat.reduceMul, Nat.reduceLeDiff, Nat.reduceLT, Nat.reduceBEq, Nat.reduceDiv, Nat.reduceMod, Int.reduceLE, Int.reduceLT, Int.reduceEq, Int.reduceBEq, Int.reduceBNe, Int.reduceAdd, Int.reduceSub, Int.reduceNeg, Int.reduceToNat, Int.reduceMul, Int.reducePow, Nat.reducePow, reduceCtorEq, hlt', hk, mod21]
    refine ite_intro (fun h => ?_) (fun h => ?_)
    · have : (v.kids.length % 2 == 0) = false := by simp at h ⊢ <;> omega
      simp only [famS, this]; rfl
    · have h2 : v.kids.length % 2 = 0 := by simp at h <;> omega
      have hf : famS 23 v.kids = noSame [] (keyL v.kids) := by simp only [famS, h2]; rfl
      rw [hf]
      obtain ⟨q1, q2⟩ := keyL_len v.kids
      refine lpK_inv (fun m0 f es => ∃ (a : Nat) (j : Int), j = 2 * a ∧ 2 * a + m0 = v.kids.length ∧ noSame [] (keyL v.kids) = noSame ((keyL v.kids).take a) ((keyL v.kids).drop a) ∧ f = [(1, .rp v.cs), (4, I v.kids.length), (5, I j)] ∧ es = []) v.kids.length ⟨0, _, rfl, by omega, rfl, rfl, rfl⟩ ?_
      rintro m1 _ _ ⟨a, j, hj, ha, hn, rfl, rfl⟩ ih
      rcases Nat.lt_or_ge (2 * a) v.kids.length with hlt | hge
      · obtain ⟨x, hx⟩ := get_lt hlt
        have hx2 := hx
        rw [← keyL_at _ _ (by omega)] at hx2
        have hlt2 : decide (j < v.kids.length) = true := by simp <;> omega
        simp +contextual (maxSteps := 10000000) only [↓reduceIte, go_sem, Nat.reduceEqDiff, Nat.reduceAdd, Nat.reduceSub, Nat.reduceMul, Nat.reduceLeDiff, Nat.reduceLT, Nat.reduceBEq, Nat.reduceDiv, Nat.reduceMod, Int.reduceLE, Int.reduceLT, Int.reduceEq, Int.reduceBEq, Int.reduceBNe, Int.reduceAdd, Int.reduceSub, Int.reduceNeg, Int.reduceToNat, Int.reduceMul, Int.reducePow, Nat.reducePow, reduceCtorEq, hlt2]
        refine lpK_inv (fun m2 f es => ∃ (b : Nat) (k : Int), k = 2 * b ∧ b + m2 = a ∧ (((keyL v.kids).take a).any fun s => same s x) = ((((keyL v.kids).take a).drop b).any fun s => same s x) ∧ f = [(1, .rp v.cs), (4, I v.kids.length), (5, I j), (6, I k)] ∧ es = []) a ⟨0, _, rfl, by omega, rfl, rfl, rfl⟩ ?_
        rintro m2 _ _ ⟨b, k, hk2, hb, hn2, rfl, rfl⟩ ih2
        rcases Nat.lt_or_ge b a with hba | hba
        · obtain ⟨y, hy⟩ := get_lt (show 2 * b < v.kids.length by omega)
          have hy2 := hy
          rw [← keyL_at _ _ (by omega)] at hy2
          have hlt3 : decide (k < j) = true := by simp <;> omega
          have h32 := same32 _ x y (Nat.le_refl _) (by have := szL_in (List.mem_of_getElem? hx); omega)
          have g1 : v.kids[j.toNat]? = some x := by rw [show j.toNat = 2 * a by omega]; exact hx
          have g2 : v.kids[k.toNat]? = some y := by rw [show k.toNat = 2 * b by omega]; exact hy
          simp +contextual (maxSteps := 10000000) only [↓reduceIte, go_sem, Nat.reduceEqDiff, Nat.reduceAdd, Nat.reduceSub, Nat.reduceMul, Nat.reduceLeDiff, Nat.reduceLT, Nat.reduceBEq, Nat.reduceDiv, Nat.reduceMod, Int.reduceLE, Int.reduceLT, Int.reduceEq, Int.reduceBEq, Int.reduceBNe, Int.reduceAdd, Int.reduceSub, Int.reduceNeg, Int.reduceToNat, Int.reduceMul, Int.reducePow, Nat.reducePow, reduceCtorEq, hlt3, g1, g2, h32, show 0 ≤ j by omega, show j < v.kids.length by omega, show 0 ≤ k by omega, show k < v.kids.length by omega, wrap_i64 (n := k + 2) (by omega) (by omega)]
          refine ite_intro (fun h => ?_) (fun h => ?_)
          · rw [hn, noSame_step hx2, hn2, any_step hba hy2, same_comm y x, h]; rfl
          · have e : same y x = false := by rw [same_comm]; simpa using h
            exact ih2 (m2 - 1) _ _ (by omega) ⟨b + 1, _, by omega, by omega, by rw [hn2, any_step hba hy2, e, Bool.false_or], rfl, rfl⟩
        · have hlt3 : decide (k < j) = false := by simp <;> omega
          clear ih2
          simp +contextual (maxSteps := 10000000) only [↓reduceIte, go_sem, Nat.reduceEqDiff, Nat.reduceAdd, Nat.reduceSub, Nat.reduceMul, Nat.reduceLeDiff, Nat.reduceLT, Nat.reduceBEq, Nat.reduceDiv, Nat.reduceMod, Int.reduceLE, Int.reduceLT, Int.reduceEq, Int.reduceBEq, Int.reduceBNe, Int.reduceAdd, Int.reduceSub, Int.reduceNeg, Int.reduceToNat, Int.reduceMul, Int.reducePow, Nat.reducePow, reduceCtorEq, hlt3, wrap_i64 (n := j + 2) (by omega) (by omega)]
          have e : (((keyL v.kids).take a).any fun s => same s x) = false := by
            rw [hn2, List.drop_eq_nil_of_le (by rw [List.length_take]; omega)]; rfl
          exact ih (m1 - 2) _ _ (by omega) ⟨a + 1, _, by omega, by omega, by rw [hn, noSame_step hx2, e]; rfl, rfl, rfl⟩
      · have hlt2 : decide (j < v.kids.length) = false := by simp <;> omega
        simp +contextual (maxSteps := 10000000) only [↓reduceIte, go_sem, Nat.reduceEqDiff, Nat.reduceAdd, Nat.reduceSub, Nat.reduceMul, Nat.reduceLeDiff, Nat.reduceLT, Nat.reduceBEq, Nat.reduceDiv, Nat.reduceMod, Int.reduceLE, Int.reduceLT, Int.reduceEq, Int.reduceBEq, Int.reduceBNe, Int.reduceAdd, Int.reduceSub, Int.reduceNeg, Int.reduceToNat, Int.reduceMul, Int.reducePow, Nat.reducePow, reduceCtorEq, hlt2]
        rw [hn, List.drop_eq_nil_of_le (by omega)]
        simp only [noSame, Bool.true_and]
        rfl
set_option maxHeartbeats 2000000 in
theorem rmay24 (v : Val) (hs : v.sz ≤ 4000000) (hc : ∀ x ∈ v.kids, EV 54 [x.d] [] = some (.ret (B (mayS x)), [])) (hk : v.kind = 24) : EV 54 [v.d] [] = some (.ret (B (mayL v.kids && rfS v)), []) := by
  have hl := szL_len v.kids
  have hz := Val.sz_eq v
  refine (ev_body ⟨[1], [(0, [1, 3]), (3, [1, 4, 5]), (5, [1, 4, 5, 6]), (7, [1, 4, 7])], [(19, [(0, 0, false), (1, 0, false), (2, 0, false), (3, 0, false), (4, 0, false), (5, 0, false), (6, 0, false), (7, 0, false), (8, 0, false), (9, 0, false), (10, 0, false)]), (25, [(0, 0, false), (1, 0, false), (2, 0, false), (3, 0, false), (4, 0, false), (5, 0, false), (6, 0, false), (7, 0, false), (8, 0, false), (9, 0, false), (10, 0, false)])], false, [], noIt⟩ [.tmp 2] rfl Try.func54 rfl rfl rfl (by kernel_rfl) (by show 1 ≤ 95; decide)).trans ?_
  simp +contextual (maxSteps := 10000000) only [↓reduceIte, go_sem, Nat.reduceEqDiff, Nat.reduceAdd, Nat.reduceSub, Nat.reduceMul, Nat.reduceLeDiff, Nat.reduceLT, Nat.reduceBEq, Nat.reduceDiv, Nat.reduceMod, Int.reduceLE, Int.reduceLT, Int.reduceEq, Int.reduceBEq, Int.reduceBNe, Int.reduceAdd, Int.reduceSub, Int.reduceNeg, Int.reduceToNat, Int.reduceMul, Int.reducePow, Nat.reducePow, reduceCtorEq]
  refine lpK_inv (fun m0 f es => ∃ (i : Nat) (j : Int), j = i ∧ i + m0 = v.kids.length ∧ mayL v.kids = mayL (v.kids.drop i) ∧ f = [(1, .rp v.cs), (3, I j)] ∧ es = []) v.kids.length ⟨0, _, rfl, by omega, rfl, rfl, rfl⟩ ?_
  rintro m0 _ _ ⟨i, _, rfl, hi, hm, rfl, rfl⟩ ih
  rcases Nat.lt_or_ge i v.kids.length with hlt | hge
  · obtain ⟨x, hx⟩ := get_lt hlt
    have hlt' : decide ((i : Int) < v.kids.length) = true := by simpa using hlt
    have hcx := hc x (List.mem_of_getElem? hx)
    simp +contextual (maxSteps := 10000000) only [↓reduceIte, go_sem, Nat.reduceEqDiff, Nat.reduceAdd, Nat.reduceSub, Nat.reduceMul, Nat.reduceLeDiff, Nat.reduceLT, Nat.reduceBEq, Nat.reduceDiv, Nat.reduceMod, Int.reduceLE, Int.reduceLT, Int.reduceEq, Int.reduceBEq, Int.reduceBNe, Int.reduceAdd, Int.reduceSub, Int.reduceNeg, Int.reduceToNat, Int.reduceMul, Int.reducePow, Nat.reducePow, reduceCtorEq, hx, hcx, hlt', wrap_i64 (n := (i : Int) + 1) (by omega) (by omega)]
    refine ite_intro (fun h => ?_) (fun h => ?_)
    · rw [hm, mayL_drop hx]; simp at h; simp [h]
    · exact ih (m0 - 1) _ _ (by omega) ⟨i + 1, _, by omega, by omega, by rw [hm, mayL_drop hx]; simp at h; simp [h], rfl, rfl⟩
  · have hlt' : decide ((i : Int) < v.kids.length) = false := by simpa using hge
    clear ih
    rw [List.drop_eq_nil_of_le hge] at hm
    rw [hm, mayL, Bool.true_and]
    have hk0 : rfS v = (famS 24 v.kids && ntS v) := by rw [rfS, if_pos (by simp [hk]), hk]
    rw [hk0, fam24_eq]
    have hall : v.kids.all (arS v.kids) = (v.kids.drop 1).all (arS v.kids) := by
      cases h0 : v.kids with
      | nil => rfl
      | cons y r =>
        rw [h0] at hm
        have : mayS y = true := mayL_at hm (i := 0) rfl
        rw [List.all_cons, show arS (y :: r) y = alike y y from rfl, alike_refl this]; rfl
    rw [hall]
    simp +contextual (maxSteps := 10000000) only [↓reduceIte, go_sem, Nat.reduceEqDiff, Nat.reduceAdd, Nat.reduceSub, Nat.reduceMul, Nat.reduceLeDiff, Nat.reduceLT, Nat.reduceBEq, Nat.reduceDiv, Nat.reduceMod, Int.reduceLE, Int.reduceLT, Int.reduceEq, Int.reduceBEq, Int.reduceBNe, Int.reduceAdd, Int.reduceSub, Int.reduceNeg, Int.reduceToNat, Int.reduceMul, Int.reducePow, Nat.reducePow, reduceCtorEq, hlt', hk]
    refine lpK_inv (fun m0 f es => ∃ (i : Nat) (j : Int), j = i ∧ 1 ≤ i ∧ v.kids.length - i = m0 ∧ (v.kids.drop 1).all (arS v.kids) = (v.kids.drop i).all (arS v.kids) ∧ f = [(1, .rp v.cs), (4, I v.kids.length), (7, I j)] ∧ es = []) (v.kids.length - 1) ⟨1, _, rfl, Nat.le_refl _, rfl, rfl, rfl, rfl⟩ ?_
    rintro m1 _ _ ⟨i, j, hj, h1, hi, ha, rfl, rfl⟩ ih
    rcases Nat.lt_or_ge i v.kids.length with hlt | hge
    · obtain ⟨x, hx⟩ := get_lt hlt
      obtain ⟨y, hy⟩ := get_lt (show 0 < v.kids.length by omega)
      have hlt2 : decide (j < v.kids.length) = true := by simp <;> omega
      have hal := ralike_c _ y x (Nat.le_refl _) (by have := szL_in (List.mem_of_getElem? hy); omega) (mayL_at hm hy) (mayL_at hm hx)
      have hp : arS v.kids x = alike y x := by
        cases h0 : v.kids with
        | nil => rw [h0] at hy; cases hy
        | cons z r => rw [h0] at hy; simp only [List.getElem?_cons_zero, Option.some.injEq] at hy; subst hy; rfl
      have g1 : v.kids[j.toNat]? = some x := by rw [show j.toNat = i by omega]; exact hx
      simp +contextual (maxSteps := 10000000) only [↓reduceIte, go_sem, Nat.reduceEqDiff, Nat.reduceAdd, Nat.reduceSub, Nat.reduceMul, Nat.reduceLeDiff, Nat.reduceLT, Nat.reduceBEq, Nat.reduceDiv, Nat.reduceMod, Int.reduceLE, Int.reduceLT, Int.reduceEq, Int.reduceBEq, Int.reduceBNe, Int.reduceAdd, Int.reduceSub, Int.reduceNeg, Int.reduceToNat, Int.reduceMul, Int.reducePow, Nat.reducePow, reduceCtorEq, hlt2, g1, hy, hal, show 0 ≤ j by omega, show j < v.kids.length by omega, show (0 : Int) < v.kids.length by omega, wrap_i64 (n := j + 1) (by omega) (by omega)]
      refine ite_intro (fun h => ?_) (fun h => ?_)
      · have e : alikeF y.sz y x = false := by simpa using h
        rw [ha, all_drop hx, hp, alike, e]; rfl
      · have e : alikeF y.sz y x = true := by simpa using h
        exact ih (m1 - 1) _ _ (by omega) ⟨i + 1, _, by omega, by omega, by omega, by rw [ha, all_drop hx, hp, alike, e]; rfl, rfl, rfl⟩
    · have hlt2 : decide (j < v.kids.length) = false := by simp <;> omega
      simp +contextual (maxSteps := 10000000) only [↓reduceIte, go_sem, Nat.reduceEqDiff, Nat.reduceAdd, Nat.reduceSub, Nat.reduceMul, Nat.reduceLeDiff, Nat.reduceLT, Nat.reduceBEq, Nat.reduceDiv, Nat.reduceMod, Int.reduceLE, Int.reduceLT, Int.reduceEq, Int.reduceBEq, Int.reduceBNe, Int.reduceAdd, Int.reduceSub, Int.reduceNeg, Int.reduceToNat, Int.reduceMul, Int.reducePow, Nat.reducePow, reduceCtorEq, hlt2]
      rw [ha, List.drop_eq_nil_of_le hge]
      simp only [List.all_nil, Bool.true_and]
      rfl
set_option maxHeartbeats 2000000 in
theorem rmay25 (v : Val) (hs : v.sz ≤ 4000000) (hc : ∀ x ∈ v.kids, EV 54 [x.d] [] = some (.ret (B (mayS x)), [])) (hk : v.kind = 25) : EV 54 [v.d] [] = some (.ret (B (mayL v.kids && rfS v)), []) := by
  have hl := szL_len v.kids
  have hz := Val.sz_eq v
  refine (ev_body ⟨[1], [(0, [1, 3]), (3, [1, 4, 5]), (5, [1, 4, 5, 6]), (7, [1, 4, 7])], [(19, [(0, 0, false), (1, 0, false), (2, 0, false), (3, 0, false), (4, 0, false), (5, 0, false), (6, 0, false), (7, 0, false), (8, 0, false), (9, 0, false), (10, 0, false)]), (25, [(0, 0, false), (1, 0, false), (2, 0, false), (3, 0, false), (4, 0, false), (5, 0, false), (6, 0, false), (7, 0, false), (8, 0, false), (9, 0, false), (10, 0, false)])], false, [], noIt⟩ [.tmp 2] rfl Try.func54 rfl rfl rfl (by kernel_rfl) (by show 1 ≤ 95; decide)).trans ?_
  simp +contextual (maxSteps := 10000000) only [↓reduceIte, go_sem, Nat.reduceEqDiff, Nat.reduceAdd, Nat.reduceSub, Nat.reduceMul, Nat.reduceLeDiff, Nat.reduceLT, Nat.reduceBEq, Nat.reduceDiv, Nat.reduceMod, Int.reduceLE, Int.reduceLT, Int.reduceEq, Int.reduceBEq, Int.reduceBNe, Int.reduceAdd, Int.reduceSub, Int.reduceNeg, Int.reduceToNat, Int.reduceMul, Int.reducePow, Nat.reducePow, reduceCtorEq]
  refine lpK_inv (fun m0 f es => ∃ (i : Nat) (j : Int), j = i ∧ i + m0 = v.kids.length ∧ mayL v.kids = mayL (v.kids.drop i) ∧ f = [(1, .rp v.cs), (3, I j)] ∧ es = []) v.kids.length ⟨0, _, rfl, by omega, rfl, rfl, rfl⟩ ?_
  rintro m0 _ _ ⟨i, _, rfl, hi, hm, rfl, rfl⟩ ih
  rcases Nat.lt_or_ge i v.kids.length with hlt | hge
  · obtain ⟨x, hx⟩ := get_lt hlt
    have hlt' : decide ((i : Int) < v.kids.length) = true := by simpa using hlt
    have hcx := hc x (List.mem_of_getElem? hx)
    simp +contextual (maxSteps := 10000000) only [↓reduceIte, go_sem, Nat.reduceEqDiff, Nat.reduceAdd, Nat.reduceSub, Nat.reduceMul, Nat.reduceLeDiff, Nat.reduceLT, Nat.reduceBEq, Nat.reduceDiv, Nat.reduceMod, Int.reduceLE, Int.reduceLT, Int.reduceEq, Int.reduceBEq, Int.reduceBNe, Int.reduceAdd, Int.reduceSub, Int.reduceNeg, Int.reduceToNat, Int.reduceMul, Int.reducePow, Nat.reducePow, reduceCtorEq, hx, hcx, hlt', wrap_i64 (n := (i : Int) + 1) (by omega) (by omega)]
    refine ite_intro (fun h => ?_) (fun h => ?_)
    · rw [hm, mayL_drop hx]; simp at h; simp [h]
    · exact ih (m0 - 1) _ _ (by omega) ⟨i + 1, _, by omega, by omega, by rw [hm, mayL_drop hx]; simp at h; simp [h], rfl, rfl⟩
  · have hlt' : decide ((i : Int) < v.kids.length) = false := by simpa using hge
    clear ih
    rw [List.drop_eq_nil_of_le hge] at hm
    rw [hm, mayL, Bool.true_and]
    have hk0 : rfS v = (famS 25 v.kids && ntS v) := by rw [rfS, if_pos (by simp [hk]), hk]
    rw [hk0]
    match h0 : v.kids, hge with
    | [], hge =>
      have hlt' : decide ((i : Int) < 0) = false := by simp
      simp +contextual (maxSteps := 10000000) only [↓reduceIte, go_sem, Nat.reduceEqDiff, Nat.reduceAdd, Nat.reduceSub, Nat.reduceMul, Nat.reduceLeDiff, Nat.reduceLT, Nat.reduceBEq, Nat.reduceDiv, Nat.reduceMod, Int.reduceLE, Int.reduceLT, Int.reduceEq, Int.reduceBEq, Int.reduceBNe, Int.reduceAdd, Int.reduceSub, Int.reduceNeg, Int.reduceToNat, Int.reduceMul, Int.reducePow, Nat.reducePow, reduceCtorEq, hlt', hk, h0, famS, List.map_nil, List.length_nil, Bool.false_and]
    | [x], hge =>
      have hlt' : decide ((i : Int) < 1) = false := by simp at hge ⊢ <;> omega
      simp +contextual (maxSteps := 10000000) only [↓reduceIte, go_sem, Nat.reduceEqDiff, Nat.reduceAdd, Nat.reduceSub, Nat.reduceMul, Nat.reduceLeDiff, Nat.reduceLT, Nat.reduceBEq, Nat.reduceDiv, Nat.reduceMod, Int.reduceLE, Int.reduceLT, Int.reduceEq, Int.reduceBEq, Int.reduceBNe, Int.reduceAdd, Int.reduceSub, Int.reduceNeg, Int.reduceToNat, Int.reduceMul, Int.reducePow, Nat.reducePow, reduceCtorEq, hlt', hk, h0, famS, List.map_cons, List.map_nil, List.length_nil, List.length_cons, Bool.false_and]
    | [x, y], hge =>
      have hlt' : decide ((i : Int) < 2) = false := by simp at hge ⊢ <;> omega
      have hcl := called_c x
      cases hx : (x.kind == 6 || x.kind == 21)
      · rw [hx] at hcl
        simp +contextual (maxSteps := 10000000) only [↓reduceIte, go_sem, Nat.reduceEqDiff, Nat.reduceAdd, Nat.reduceSub, Nat.reduceMul, Nat.reduceLeDiff, Nat.reduceLT, Nat.reduceBEq, Nat.reduceDiv, Nat.reduceMod, Int.reduceLE, Int.reduceLT, Int.reduceEq, Int.reduceBEq, Int.reduceBNe, Int.reduceAdd, Int.reduceSub, Int.reduceNeg, Int.reduceToNat, Int.reduceMul, Int.reducePow, Nat.reducePow, reduceCtorEq, hlt', hk, h0, famS, List.map_cons, List.map_nil, List.length_nil, List.length_cons, hcl, hx, Bool.false_and]
      · rw [hx] at hcl
        simp +contextual (maxSteps := 10000000) only [↓reduceIte, go_sem, Nat.reduceEqDiff, Nat.reduceAdd, Nat.reduceSub, Nat.reduceMul, Nat.reduceLeDiff, Nat.reduceLT, Nat.reduceBEq, Nat.reduceDiv, Nat.reduceMod, Int.reduceLE, Int.reduceLT, Int.reduceEq, Int.reduceBEq, Int.reduceBNe, Int.reduceAdd, Int.reduceSub, Int.reduceNeg, Int.reduceToNat, Int.reduceMul, Int.reducePow, Nat.reducePow, reduceCtorEq, hlt', hk, h0, famS, List.map_cons, List.map_nil, List.length_nil, List.length_cons, hcl, hx, Bool.true_and]
        rfl
    | x :: y :: z :: r, hge =>
      have hlt' : decide ((i : Int) < (r.length : Int) + 1 + 1 + 1) = false := by simp at hge ⊢ <;> omega
      have e : ((r.length : Int) + 1 + 1 + 1 == 2) = false := by simp <;> omega
      have e' : ((r.length : Int) + 1 + 1 + 1 != 2) = true := by rw [bne, e]; rfl
      simp +contextual (maxSteps := 10000000) only [↓reduceIte, go_sem, Nat.reduceEqDiff, Nat.reduceAdd, Nat.reduceSub, Nat.reduceMul, Nat.reduceLeDiff, Nat.reduceLT, Nat.reduceBEq, Nat.reduceDiv, Nat.reduceMod, Int.reduceLE, Int.reduceLT, Int.reduceEq, Int.reduceBEq, Int.reduceBNe, Int.reduceAdd, Int.reduceSub, Int.reduceNeg, Int.reduceToNat, Int.reduceMul, Int.reducePow, Nat.reducePow, reduceCtorEq, hlt', hk, h0, famS, List.map_cons, List.length_cons, e, e', Bool.false_and]
set_option maxHeartbeats 2000000 in
theorem rmay_no (v : Val) (hs : v.sz ≤ 4000000) (hc : ∀ x ∈ v.kids, EV 54 [x.d] [] = some (.ret (B (mayS x)), [])) (h2 : v.kind ≠ 22) (h3 : v.kind ≠ 23) (h4 : v.kind ≠ 24) (h5 : v.kind ≠ 25) : EV 54 [v.d] [] = some (.ret (B (mayL v.kids && rfS v)), []) := by
  have hl := szL_len v.kids
  have hz := Val.sz_eq v
  refine (ev_body ⟨[1], [(0, [1, 3]), (3, [1, 4, 5]), (5, [1, 4, 5, 6]), (7, [1, 4, 7])], [(19, [(0, 0, false), (1, 0, false), (2, 0, false), (3, 0, false), (4, 0, false), (5, 0, false), (6, 0, false), (7, 0, false), (8, 0, false), (9, 0, false), (10, 0, false)]), (25, [(0, 0, false), (1, 0, false), (2, 0, false), (3, 0, false), (4, 0, false), (5, 0, false), (6, 0, false), (7, 0, false), (8, 0, false), (9, 0, false), (10, 0, false)])], false, [], noIt⟩ [.tmp 2] rfl Try.func54 rfl rfl rfl (by kernel_rfl) (by show 1 ≤ 95; decide)).trans ?_
  simp +contextual (maxSteps := 10000000) only [↓reduceIte, go_sem, Nat.reduceEqDiff, Nat.reduceAdd, Nat.reduceSub, Nat.reduceMul, Nat.reduceLeDiff, Nat.reduceLT, Nat.reduceBEq, Nat.reduceDiv, Nat.reduceMod, Int.reduceLE, Int.reduceLT, Int.reduceEq, Int.reduceBEq, Int.reduceBNe, Int.reduceAdd, Int.reduceSub, Int.reduceNeg, Int.reduceToNat, Int.reduceMul, Int.reducePow, Nat.reducePow, reduceCtorEq]
  refine lpK_inv (fun m0 f es => ∃ (i : Nat) (j : Int), j = i ∧ i + m0 = v.kids.length ∧ mayL v.kids = mayL (v.kids.drop i) ∧ f = [(1, .rp v.cs), (3, I j)] ∧ es = []) v.kids.length ⟨0, _, rfl, by omega, rfl, rfl, rfl⟩ ?_
  rintro m0 _ _ ⟨i, _, rfl, hi, hm, rfl, rfl⟩ ih
  rcases Nat.lt_or_ge i v.kids.length with hlt | hge
  · obtain ⟨x, hx⟩ := get_lt hlt
    have hlt' : decide ((i : Int) < v.kids.length) = true := by simpa using hlt
    have hcx := hc x (List.mem_of_getElem? hx)
    simp +contextual (maxSteps := 10000000) only [↓reduceIte, go_sem, Nat.reduceEqDiff, Nat.reduceAdd, Nat.reduceSub, Nat.reduceMul, Nat.reduceLeDiff, Nat.reduceLT, Nat.reduceBEq, Nat.reduceDiv, Nat.reduceMod, Int.reduceLE, Int.reduceLT, Int.reduceEq, Int.reduceBEq, Int.reduceBNe, Int.reduceAdd, Int.reduceSub, Int.reduceNeg, Int.reduceToNat, Int.reduceMul, Int.reducePow, Nat.reducePow, reduceCtorEq, hx, hcx, hlt', wrap_i64 (n := (i : Int) + 1) (by omega) (by omega)]
    refine ite_intro (fun h => ?_) (fun h => ?_)
    · rw [hm, mayL_drop hx]; simp at h; simp [h]
    · exact ih (m0 - 1) _ _ (by omega) ⟨i + 1, _, by omega, by omega, by rw [hm, mayL_drop hx]; simp at h; simp [h], rfl, rfl⟩
  · have hlt' : decide ((i : Int) < v.kids.length) = false := by simpa using hge
    clear ih
    rw [List.drop_eq_nil_of_le hge] at hm
    rw [hm, mayL, Bool.true_and]
    have hk0 : rfS v = (v.kids.isEmpty && plainS v.kind v.num v.text) := by rw [rfS, if_neg (by simp [h2, h3, h4, h5])]
    rw [hk0]
    simp +contextual (maxSteps := 10000000) only [↓reduceIte, go_sem, Nat.reduceEqDiff, Nat.reduceAdd, Nat.reduceSub, Nat.reduceMul, Nat.reduceLeDiff, Nat.reduceLT, Nat.reduceBEq, Nat.reduceDiv, Nat.reduceMod, Int.reduceLE, Int.reduceLT, Int.reduceEq, Int.reduceBEq, Int.reduceBNe, Int.reduceAdd, Int.reduceSub, Int.reduceNeg, Int.reduceToNat, Int.reduceMul, Int.reducePow, Nat.reducePow, reduceCtorEq, hlt', fb h2, fb h3, fb h4, fb h5, plain_c v (by omega)]
theorem rf_eq (v : Val) : (mayL v.kids && rfS v) = mayS v := by
  rw [mayS_eq, rfS]
  by_cases h : v.kind = 22 ∨ v.kind = 23 ∨ v.kind = 24 ∨ v.kind = 25
  · rw [if_pos h]
    have hn : (numS v.kind v.num && textS v.kind v.text) = ntS v := by rcases h with h | h | h | h <;> (rw [h]; rfl)
    have hr : (decide (1 ≤ v.kind) && decide (v.kind ≤ 25)) = true := by rcases h with h | h | h | h <;> (rw [h]; rfl)
    rw [hn, hr, Bool.true_and, Bool.and_comm (ntS v)]
  · rw [if_neg h]
    simp only [not_or] at h
    obtain ⟨h2, h3, h4, h5⟩ := h
    have hf : famS v.kind v.kids = v.kids.isEmpty := by simp only [famS, fb h2, fb h3, fb h4, fb h5, Bool.false_eq_true, if_false]
    have hr : decide (v.kind ≤ 21) = decide (v.kind ≤ 25) := decide_eq_decide.2 (by omega)
    rw [hf, plainS, hr]
    cases mayL v.kids <;> cases v.kids.isEmpty <;> cases (decide (1 ≤ v.kind) && decide (v.kind ≤ 25)) <;> cases numS v.kind v.num <;> cases textS v.kind v.text <;> rfl
theorem rmay_c : ∀ (n : Nat) (v : Val), v.sz ≤ n → n ≤ 4000000 → EV 54 [v.d] [] = some (.ret (B (mayS v)), [])
  | 0, .mk .., h, _ => by simp [Val.sz] at h
  | n + 1, v, hs, hn => by
    have hz := Val.sz_eq v
    have hc : ∀ x ∈ v.kids, EV 54 [x.d] [] = some (.ret (B (mayS x)), []) := fun x hx => rmay_c n x (by have := szL_in hx; omega) (by omega)
    rw [← rf_eq]
    by_cases h2 : v.kind = 22
    · exact rmay22 v (by omega) hc h2
    by_cases h3 : v.kind = 23
    · exact rmay23 v (by omega) hc h3
    by_cases h4 : v.kind = 24
    · exact rmay24 v (by omega) hc h4
    by_cases h5 : v.kind = 25
    · exact rmay25 v (by omega) hc h5
    exact rmay_no v (by omega) hc h2 h3 h4 h5
set_option maxHeartbeats 2000000 in
theorem rright_v (v : Val) (h : v.sz ≤ 4000000) : EV 31 [v.d] [] = some (.ret (B (rightS v)), []) := by
  refine (ev_body ⟨[1], [], [], false, [], noIt⟩ [.tmp 2] rfl Try.func31 rfl rfl rfl (by kernel_rfl) (by show 1 ≤ 15; decide)).trans ?_
  have h1 := rdepth_c _ v (Nat.le_refl _) (by omega)
  have h2 := ritems_c _ v (Nat.le_refl _) (by omega)
  have h3 := rmay_c _ v (Nat.le_refl _) h
  by_cases k2 : v.items ≤ 1024
  · have e2 : decide ((v.items : Int) ≤ 1024) = true := by simp <;> omega
    have f2 : decide (v.items ≤ 1024) = true := by simpa using k2
    by_cases k1 : v.depth ≤ 16
    · have e1 : decide ((v.depth : Int) ≤ 16) = true := by simp <;> omega
      have f1 : decide (v.depth ≤ 16) = true := by simpa using k1
      simp +contextual (maxSteps := 10000000) only [↓reduceIte, go_sem, Nat.reduceEqDiff, Nat.reduceAdd, Nat.reduceSub, Nat.reduceMul, Nat.reduceLeDiff, Nat.reduceLT, Nat.reduceBEq, Nat.reduceDiv, Nat.reduceMod, Int.reduceLE, Int.reduceLT, Int.reduceEq, Int.reduceBEq, Int.reduceBNe, Int.reduceAdd, Int.reduceSub, Int.reduceNeg, Int.reduceToNat, Int.reduceMul, Int.reducePow, Nat.reducePow, reduceCtorEq, h1, h2, h3, e1, e2, rightS, f1, f2, Bool.true_and]
    · have e1 : decide ((v.depth : Int) ≤ 16) = false := by simp <;> omega
      have f1 : decide (v.depth ≤ 16) = false := by simp <;> omega
      simp +contextual (maxSteps := 10000000) only [↓reduceIte, go_sem, Nat.reduceEqDiff, Nat.reduceAdd, Nat.reduceSub, Nat.reduceMul, Nat.reduceLeDiff, Nat.reduceLT, Nat.reduceBEq, Nat.reduceDiv, Nat.reduceMod, Int.reduceLE, Int.reduceLT, Int.reduceEq, Int.reduceBEq, Int.reduceBNe, Int.reduceAdd, Int.reduceSub, Int.reduceNeg, Int.reduceToNat, Int.reduceMul, Int.reducePow, Nat.reducePow, reduceCtorEq, h1, h2, e1, e2, rightS, f1, f2, Bool.true_and, Bool.false_and]
  · have e2 : decide ((v.items : Int) ≤ 1024) = false := by simp <;> omega
    have f2 : decide (v.items ≤ 1024) = false := by simp <;> omega
    simp +contextual (maxSteps := 10000000) only [↓reduceIte, go_sem, Nat.reduceEqDiff, Nat.reduceAdd, Nat.reduceSub, Nat.reduceMul, Nat.reduceLeDiff, Nat.reduceLT, Nat.reduceBEq, Nat.reduceDiv, Nat.reduceMod, Int.reduceLE, Int.reduceLT, Int.reduceEq, Int.reduceBEq, Int.reduceBNe, Int.reduceAdd, Int.reduceSub, Int.reduceNeg, Int.reduceToNat, Int.reduceMul, Int.reducePow, Nat.reducePow, reduceCtorEq, h2, e2, rightS, f2, Bool.false_and, Bool.and_false]
end Go.Bw.R1

namespace Go.Bw.R1
open Go Go.Bw Go.Proofs
/-- what a map has by a key -/
def findS (key : Val) : List (Val × Val) → Option Val
  | [] => none
  | p :: r => if same p.1 key = true then some p.2 else findS key r
def v0 : Val := .mk 0 0 ⟨#[]⟩ []
def getR (o : Option Val) : D := .tup [(o.getD v0).d, B o.isSome]
def getS (m key : Val) : Option Val := if m.kind = 23 then findS key (pairL m.kids) else none
set_option maxHeartbeats 1000000 in
theorem get_no (m key : Val) (hk : m.kind ≠ 23) : EV 49 [m.d, key.d] [] = some (.ret (getR none), []) := by
  have e : (m.kind != 23) = true := by simpa using hk
  refine (ev_body ⟨[2, 3], [], [], true, [], keysIt⟩ [.cell 4 56, .cell 5 4] rfl Try.func49 rfl rfl rfl (by kernel_rfl) (by show 2 ≤ 22; decide)).trans ?_
  simp +contextual (maxSteps := 10000000) only [↓reduceIte, go_sem, Nat.reduceEqDiff, Nat.reduceAdd, Nat.reduceSub, Nat.reduceMul, Nat.reduceLeDiff, Nat.reduceLT, Nat.reduceBEq, Nat.reduceDiv, Nat.reduceMod, Int.reduceLE, Int.reduceLT, Int.reduceEq, Int.reduceBEq, Int.reduceBNe, Int.reduceAdd, Int.reduceSub, Int.reduceNeg, Int.reduceToNat, Int.reduceMul, Int.reducePow, Nat.reducePow, reduceCtorEq, e]
  rfl
def GetI (key : Val) (n : Int) (t : ByteArray) (l : List Val) (yss : List (List D)) (f : Fr) (es : Sto) : Prop :=
  ∃ (rest : List (Val × Val)), yss = rest.map Pd ∧ findS key (pairL l) = findS key rest ∧ (∀ p ∈ rest, p.1.sz ≤ 4000000 ∧ p.2.sz ≤ 4000000) ∧
    ((f = [(13, .fn (.func 70) [] [.rp (Val.mk 23 n t l).cs]), (12, (Val.mk 23 n t l).d), (10, B false), (9, .sc (.int .u8 23)), (8, .rp (Val.mk 23 n t l).cs), (5, .ptr 1 0 0), (4, .ptr 0 0 0), (3, .rp key.cs), (2, .rp (Val.mk 23 n t l).cs), (0, (Val.mk 23 n t l).d), (1, key.d)] ∧ es = [some ⟨0, [.sc (.int .u8 0), .sc (.int .u64 0), .sc (.string ⟨#[]⟩), .nils]⟩, some ⟨0, [B false]⟩]) ∨
     (f = [(13, .fn (.func 70) [] [.rp (Val.mk 23 n t l).cs]), (12, (Val.mk 23 n t l).d), (10, B false), (9, .sc (.int .u8 23)), (8, .rp (Val.mk 23 n t l).cs), (5, .ptr 0 0 0), (4, .ptr 1 0 0), (3, .rp key.cs), (2, .rp (Val.mk 23 n t l).cs), (0, (Val.mk 23 n t l).d), (1, key.d)] ∧ es = [some ⟨0, [B false]⟩, some ⟨0, [.sc (.int .u8 0), .sc (.int .u64 0), .sc (.string ⟨#[]⟩), .nils]⟩]))
set_option maxHeartbeats 1000000 in
theorem get_yes (key : Val) (n : Int) (t : ByteArray) (l : List Val) (hs : (Val.mk 23 n t l).sz ≤ 4000000) : EV 49 [(Val.mk 23 n t l).d, key.d] [] = some (.ret (getR (findS key (pairL l))), []) := by
  have hl := szL_len l
  have hz := Val.sz_eq (Val.mk 23 n t l)
  simp only [Val.kids_mk] at hz
  refine (ev_body ⟨[2, 3], [], [], true, [], keysIt⟩ [.cell 4 56, .cell 5 4] rfl Try.func49 rfl rfl rfl (by kernel_rfl) (by show 2 ≤ 22; decide)).trans ?_
  have hi := keysIt_val (Val.mk 23 n t l) (by simp only [Val.kids_mk]; omega)
  simp only [Val.kids_mk] at hi
  have hc := keys_c (Val.mk 23 n t l)
  simp +contextual (maxSteps := 10000000) only [↓reduceIte, go_sem, Nat.reduceEqDiff, Nat.reduceAdd, Nat.reduceSub, Nat.reduceMul, Nat.reduceLeDiff, Nat.reduceLT, Nat.reduceBEq, Nat.reduceDiv, Nat.reduceMod, Int.reduceLE, Int.reduceLT, Int.reduceEq, Int.reduceBEq, Int.reduceBNe, Int.reduceAdd, Int.reduceSub, Int.reduceNeg, Int.reduceToNat, Int.reduceMul, Int.reducePow, Nat.reducePow, reduceCtorEq, hc, hi]
  refine rgK_inv (GetI key n t l) ⟨pairL l, pairsD_map _, rfl, fun p hp => ⟨by have := szL_in (pair_mem hp).1; omega, by have := szL_in (pair_mem hp).2; omega⟩, .inl ⟨rfl, rfl⟩⟩ ?_ ?_
  · rintro f es ⟨rest, hy, hn, _, h⟩
    have hr : rest = [] := by simpa using hy.symm
    subst hr
    rw [hn]
    rcases h with ⟨rfl, rfl⟩ | ⟨rfl, rfl⟩
    · simp +contextual (maxSteps := 10000000) only [↓reduceIte, go_sem, Nat.reduceEqDiff, Nat.reduceAdd, Nat.reduceSub, Nat.reduceMul, Nat.reduceLeDiff, Nat.reduceLT, Nat.reduceBEq, Nat.reduceDiv, Nat.reduceMod, Int.reduceLE, Int.reduceLT, Int.reduceEq, Int.reduceBEq, Int.reduceBNe, Int.reduceAdd, Int.reduceSub, Int.reduceNeg, Int.reduceToNat, Int.reduceMul, Int.reducePow, Nat.reducePow, reduceCtorEq]
      rfl
    · simp +contextual (maxSteps := 10000000) only [↓reduceIte, go_sem, Nat.reduceEqDiff, Nat.reduceAdd, Nat.reduceSub, Nat.reduceMul, Nat.reduceLeDiff, Nat.reduceLT, Nat.reduceBEq, Nat.reduceDiv, Nat.reduceMod, Int.reduceLE, Int.reduceLT, Int.reduceEq, Int.reduceBEq, Int.reduceBNe, Int.reduceAdd, Int.reduceSub, Int.reduceNeg, Int.reduceToNat, Int.reduceMul, Int.reducePow, Nat.reducePow, reduceCtorEq]
      rfl
  · rintro ys yss f es ⟨rest, hy, hn, hps, h⟩ ih
    cases rest with
    | nil => cases hy
    | cons p rest =>
      simp only [List.map_cons, List.cons.injEq, Pd] at hy
      obtain ⟨rfl, rfl⟩ := hy
      have h1 := same_c _ p.1 key (Nat.le_refl _) (by have := (hps p (List.mem_cons_self ..)).1; omega)
      have h2 := copy_c _ p.2 (Nat.le_refl _) (by have := (hps p (List.mem_cons_self ..)).2; omega)
      rw [findS] at hn
      rcases h with ⟨rfl, rfl⟩ | ⟨rfl, rfl⟩
      · simp +contextual (maxSteps := 10000000) only [↓reduceIte, go_sem, Nat.reduceEqDiff, Nat.reduceAdd, Nat.reduceSub, Nat.reduceMul, Nat.reduceLeDiff, Nat.reduceLT, Nat.reduceBEq, Nat.reduceDiv, Nat.reduceMod, Int.reduceLE, Int.reduceLT, Int.reduceEq, Int.reduceBEq, Int.reduceBNe, Int.reduceAdd, Int.reduceSub, Int.reduceNeg, Int.reduceToNat, Int.reduceMul, Int.reducePow, Nat.reducePow, reduceCtorEq, h1, h2]
        refine ite_intro (fun h => ?_) (fun h => ?_)
        · rw [hn, if_pos h]; rfl
        · rw [if_neg h] at hn
          exact ih _ _ ⟨rest, rfl, hn, fun q hq => hps q (List.mem_cons_of_mem _ hq), .inr ⟨rfl, rfl⟩⟩
      · simp +contextual (maxSteps := 10000000) only [↓reduceIte, go_sem, Nat.reduceEqDiff, Nat.reduceAdd, Nat.reduceSub, Nat.reduceMul, Nat.reduceLeDiff, Nat.reduceLT, Nat.reduceBEq, Nat.reduceDiv, Nat.reduceMod, Int.reduceLE, Int.reduceLT, Int.reduceEq, Int.reduceBEq, Int.reduceBNe, Int.reduceAdd, Int.reduceSub, Int.reduceNeg, Int.reduceToNat, Int.reduceMul, Int.reducePow, Nat.reducePow, reduceCtorEq, h1, h2]
        refine ite_intro (fun h => ?_) (fun h => ?_)
        · rw [hn, if_pos h]; rfl
        · rw [if_neg h] at hn
          exact ih _ _ ⟨rest, rfl, hn, fun q hq => hps q (List.mem_cons_of_mem _ hq), .inr ⟨rfl, rfl⟩⟩
theorem get_c (m key : Val) (hs : m.sz ≤ 4000000) : EV 49 [m.d, key.d] [] = some (.ret (getR (getS m key)), []) := by
  by_cases hk : m.kind = 23
  · cases m; simp only [Val.kind_mk] at hk; subst hk
    rw [get_yes key _ _ _ hs]; rfl
  · rw [get_no m key hk, getS, if_neg hk]
end Go.Bw.R1

namespace Go.Bw.R1
open Go Go.Bw Go.Proofs
abbrev wU : Val := .mk 5 1 ⟨#[]⟩ []
abbrev wL : Val := .mk 6 1 ⟨#[]⟩ []
abbrev wT : Val := .mk 2 1 ⟨#[]⟩ []
abbrev wN : Val := .mk 1 0 ⟨#[]⟩ []
abbrev wM : Val := .mk 23 0 ⟨#[]⟩ [wU, wN, wL, wT]
abbrev wB : Val := .mk 23 0 ⟨#[]⟩ [wU, wU, wU, wU]
abbrev wA : Val := .mk 21 0 ⟨#[97]⟩ []
theorem wf0 (k n : Int) (t : ByteArray) (h : 0 ≤ k ∧ k < 256 ∧ 0 ≤ n ∧ n < 18446744073709551616) : (Val.mk k n t []).wf := ⟨h, trivial⟩
theorem right_of {v : Val} {b : Bool} (h : v.sz ≤ 4000000) (hw : v.wf) (hb : rightS v = b) : EV 30 [v.d] [] = some (.ret (B b), []) := by rw [right_c v h hw, hb]
theorem wfU : wU.wf := wf0 _ _ _ (by decide)
theorem wfM : wM.wf := ⟨by decide, wfU, wf0 _ _ _ (by decide), wf0 _ _ _ (by decide), wf0 _ _ _ (by decide), trivial⟩
theorem wfB : wB.wf := ⟨by decide, wfU, wfU, wfU, wfU, trivial⟩
theorem wr1 : rightS wM = true := by decide
theorem wr2 : rightS wB = false := by decide
theorem wr3 : rightS (.mk 3 300 ⟨#[]⟩ []) = false := by decide
theorem wr4 : rightS (.mk 25 0 ⟨#[]⟩ [wA, wU]) = true := by decide
theorem wr5 : rightS (.mk 25 0 ⟨#[]⟩ [wU, wU]) = false := by decide
set_option maxHeartbeats 1000000 in
theorem works4 : EV 28 [] [] = some (.ret (B true), []) := by
  refine (ev_body ⟨[], [], [(3, [(6, 0, true), (0, 0, false), (1, 0, false), (2, 0, false), (3, 0, false), (4, 0, false), (5, 0, false), (7, 0, true)]), (6, [(0, 0, false), (1, 0, false), (2, 0, false), (3, 0, false), (4, 0, false), (5, 0, false), (6, 0, false), (7, 0, false), (8, 0, false), (9, 0, false), (10, 0, false), (11, 0, false), (12, 0, false), (13, 0, false), (14, 0, false), (15, 0, false), (16, 0, false), (17, 0, false), (18, 0, false), (19, 0, false), (20, 0, false), (21, 0, false), (22, 0, false), (23, 0, false), (24, 0, false), (25, 0, false), (26, 0, false), (27, 0, false), (28, 0, false), (29, 0, false), (30, 0, false), (31, 0, false), (32, 0, false), (33, 0, false), (34, 0, false), (35, 0, false), (36, 0, false), (37, 0, false), (38, 0, false), (39, 0, false), (40, 0, false), (41, 0, false), (42, 0, false), (43, 0, false)])], false, [], noIt⟩ [.tmp 0] rfl Try.func28 rfl rfl rfl (by kernel_rfl) (by show 0 ≤ 70; decide)).trans ?_
  have h1 := many_c 23 [wU, wN, wL, wT] (by decide)
  have h2 := many_c 23 [wU, wU, wU, wU] (by decide)
  simp only [List.map_cons, List.map_nil] at h1 h2
  have h3 := desc_c wA wU (by decide)
  have h4 := desc_c wU wU (by decide)
  have r1 := right_of (v := wM) (by decide) wfM wr1
  have r2 := right_of (v := wB) (by decide) wfB wr2
  have r3 := right_of (v := .mk 3 300 ⟨#[]⟩ []) (by decide) (wf0 _ _ _ (by decide)) wr3
  have r4 := right_of (v := .mk 25 0 ⟨#[]⟩ [wA, wU]) (by decide) ⟨by decide, wf0 _ _ _ (by decide), wfU, trivial⟩ wr4
  have r5 := right_of (v := .mk 25 0 ⟨#[]⟩ [wU, wU]) (by decide) ⟨by decide, wfU, wfU, trivial⟩ wr5
  have g : EV 49 [wM.d, wL.d] [] = some (.ret (.tup [wT.d, B true]), []) := get_c wM wL (by decide)
  have s : EV 35 [wT.d, wT.d] [] = some (.ret (B true), []) := same_c _ wT wT (Nat.le_refl _) (by decide)
  have i : EV 47 [wM.d] [] = some (.ret (I 5), []) := items_c wM (by decide)
  have d : EV 45 [wM.d] [] = some (.ret (I 2), []) := depth_c wM (by decide)
  have b := bool_c true
  simp only [if_true] at b
  simp +contextual (maxSteps := 10000000) only [↓reduceIte, go_sem, Nat.reduceEqDiff, Nat.reduceAdd, Nat.reduceSub, Nat.reduceMul, Nat.reduceLeDiff, Nat.reduceLT, Nat.reduceBEq, Nat.reduceDiv, Nat.reduceMod, Int.reduceLE, Int.reduceLT, Int.reduceEq, Int.reduceBEq, Int.reduceBNe, Int.reduceAdd, Int.reduceSub, Int.reduceNeg, Int.reduceToNat, Int.reduceMul, Int.reducePow, Nat.reducePow, reduceCtorEq, number_c, text_c, null_c, b, h1, h2, h3, h4, r1, r2, r3, r4, r5, g, s, i, d]
end Go.Bw.R1

namespace Go.Bw
open Go
theorem Rd.slice_cases {P : Program} {t e : TypeId} {ds : List D} (hu : P.underlying t = some (.slice e)) (h : Rd P t ds) : ds = [.nils] ∨ ∃ dss : List (List D), ds = [.ro false (dss.map fun ds => (whole ((aggB P e).getD false) ds).getD .undef)] ∧ ∀ ds ∈ dss, Rd P e ds := by
  cases h with
  | nils h => exact .inl rfl
  | ro h dss hl k =>
    rw [hu] at h
    simp only [Option.some.injEq, TypeDesc.slice.injEq] at h
    subst h
    exact .inr ⟨dss, rfl, k⟩
  | veil h n => unfold Bw.veil at h; rw [hu] at h; cases h
  | _ h => rw [hu] at h; simp at h
theorem Arg.cells {P : Program} {t : TypeId} {d : D} {ag : Bool} (ha : aggB P t = some ag) (h : Arg P t d) : ∃ cs, Rd P t cs ∧ d = (whole ag cs).getD .undef := by
  obtain ⟨cs, h1, _, h3⟩ := h
  rw [ha] at h3
  exact ⟨cs, h1, h3⟩
end Go.Bw
namespace Go.Bw.R1
open Go Go.Bw Go.Proofs
theorem ag56' : aggB Try.prog 56 = some true := by kernel_rfl
theorem wh56 : (fun ds => (whole ((aggB Try.prog 56).getD false) ds).getD .undef) = D.agg := by rw [ag56']; rfl
theorem vals_of {n : Nat} (ih : ∀ ds, Rd Try.prog 56 ds → D.blkL ds ≤ n → ∃ v : Val, v.wf ∧ WkL ds v.cs ∧ v.sz ≤ D.blkL ds) : ∀ dss : List (List D), (∀ ds ∈ dss, Rd Try.prog 56 ds) → D.blkL (dss.map D.agg) ≤ n →
    ∃ l : List Val, Val.wfL l ∧ dss.length = l.length ∧ Val.szL l ≤ D.blkL (dss.map D.agg) ∧ ∀ (j : Nat) (ds : List D) (x : Val), dss[j]? = some ds → l[j]? = some x → WkL ds x.cs
  | [], _, _ => ⟨[], trivial, rfl, Nat.le_refl _, fun j ds x h => by simp at h⟩
  | ds :: dss, hr, hn => by
    rw [List.map_cons, D.blkL, D.blk] at hn ⊢
    obtain ⟨v, h1, h2, h3⟩ := ih ds (hr ds (List.mem_cons_self ..)) (by omega)
    obtain ⟨l, k1, k2, k3, k4⟩ := vals_of ih dss (fun d hd => hr d (List.mem_cons_of_mem _ hd)) (by omega)
    refine ⟨v :: l, ⟨h1, k1⟩, by simp [k2], by simp only [Val.szL]; omega, fun j d x hd hx => ?_⟩
    cases j with
    | zero => simp at hd hx; subst hd hx; exact h2
    | succ j => exact k4 j d x (by simpa using hd) (by simpa using hx)
theorem slice_rd {n : Nat} (ih : ∀ ds, Rd Try.prog 56 ds → D.blkL ds ≤ n → ∃ v : Val, v.wf ∧ WkL ds v.cs ∧ v.sz ≤ D.blkL ds) {ds : List D} (h : Rd Try.prog 54 ds) (hn : D.blkL ds ≤ n + 1) : ∃ l : List Val, Val.wfL l ∧ WkL ds [.ro false (l.map Val.d)] ∧ Val.szL l + 1 ≤ D.blkL ds := by
  rcases Rd.slice_cases Try.underlying54 h with rfl | ⟨dss, rfl, k⟩
  · exact ⟨[], trivial, .cons (.nils _) .nil, by simp [Val.szL, D.blkL, D.blk]⟩
  · rw [wh56] at hn ⊢
    simp only [D.blkL, D.blk] at hn ⊢
    have hn' : D.blkL (dss.map D.agg) ≤ n := by clear ih k; omega
    obtain ⟨l, k1, k2, k3, k4⟩ := vals_of ih dss k hn'
    refine ⟨l, k1, .cons (Wk.ro (by simp [k2]) fun j e1 e2 he1 he2 => ?_) .nil, by clear ih k k4 hn; omega⟩
    simp only [List.getElem?_map, Option.map_eq_some_iff] at he1 he2
    obtain ⟨d1, hd1, rfl⟩ := he1
    obtain ⟨x1, hx1, rfl⟩ := he2
    have q := k4 j d1 x1 hd1 hx1
    rw [Val.cells]
    exact q
theorem val_rd : ∀ (n : Nat) (ds : List D), Rd Try.prog 56 ds → D.blkL ds ≤ n → ∃ v : Val, v.wf ∧ WkL ds v.cs ∧ v.sz ≤ D.blkL ds := by
  intro n
  induction n with
  | zero =>
    intro ds h hn
    have h := Rd.fields Try.underlying56 h
    obtain ⟨a0, b0, rfl, h0, h⟩ := h
    obtain ⟨x0, rfl, _, _⟩ := Rd.int_inv Try.underlying5 h0
    rw [D.blkL_append] at hn
    simp [D.blkL, D.blk] at hn
  | succ n ih =>
    intro ds h hn
    have h := Rd.fields Try.underlying56 h
    obtain ⟨a0, b0, rfl, h0, h⟩ := h
    obtain ⟨a1, b1, rfl, h1, h⟩ := h
    obtain ⟨a2, b2, rfl, h2, h⟩ := h
    obtain ⟨a3, b3, rfl, h3, h⟩ := h
    obtain rfl : b3 = [] := h
    obtain ⟨x0, rfl, l0, u0⟩ := Rd.int_inv Try.underlying5 h0
    obtain ⟨x1, rfl, l1, u1⟩ := Rd.int_inv Try.underlying33 h1
    obtain ⟨x2, rfl, s2⟩ := Rd.str_inv Try.underlying9 h2
    simp only [D.blkL_append, D.blkL, D.blk] at hn ⊢
    obtain ⟨l, k1, k2, k3⟩ := slice_rd ih h3 (by omega)
    refine ⟨.mk x0 x1 x2 l, ⟨?_, k1⟩, ?_, ?_⟩
    · simp [IntKind.min, IntKind.max, IntKind.signed, IntKind.bits] at l0 u0 l1 u1
      omega
    · simp only [List.cons_append, List.nil_append, List.append_nil, Val.cs, Val.kind_mk, Val.num_mk, Val.text_mk, Val.kids_mk]
      exact .cons (.refl _) (.cons (.refl _) (.cons (.refl _) k2))
    · simp only [Val.sz]; omega
theorem val_arg {d : D} (h : Arg Try.prog 56 d) : ∃ v : Val, v.wf ∧ Wk d v.d ∧ v.sz ≤ d.blk := by
  obtain ⟨ds, h1, h3⟩ := h.cells ag56'
  have e : d = .agg ds := h3
  subst e
  obtain ⟨v, k1, k2, k3⟩ := val_rd _ ds h1 (Nat.le_refl _)
  refine ⟨v, k1, ?_, ?_⟩
  · have := Wk.agg k2
    rw [Val.fold, Val.eta] at this
    exact this
  · rw [D.blk]; omega
theorem ag54' : aggB Try.prog 54 = some false := by kernel_rfl
theorem vals_arg {d : D} (h : Arg Try.prog 54 d) : ∃ l : List Val, Val.wfL l ∧ Wk d (.ro false (l.map Val.d)) ∧ Val.szL l ≤ d.blk := by
  obtain ⟨ds, h1, h3⟩ := h.cells ag54'
  obtain ⟨l, k1, k2, k3⟩ := slice_rd (fun ds h _ => val_rd _ ds h (Nat.le_refl _)) h1 (Nat.le_succ (D.blkL ds))
  match ds, k2.1, h3 with
  | [y], _, h3 =>
    have e : d = y := h3
    subst e
    refine ⟨l, k1, k2.2 0 d _ rfl rfl, ?_⟩
    simp only [D.blkL] at k3; omega
end Go.Bw.R1

namespace Go.Bw.R1
open Go Go.Bw Go.Proofs
/-- how large values are, by Large -/
def lgS : List Val → Nat
  | [] => 0
  | v :: l => v.items + v.text.size / 8 + lgS l
theorem lgS_app : ∀ a b : List Val, lgS (a ++ b) = lgS a + lgS b
  | [], b => by simp [lgS]
  | v :: a, b => by simp only [List.cons_append, lgS, lgS_app a b]; omega
theorem lgS_sz : ∀ l : List Val, lgS l ≤ 2 * Val.szL l
  | [] => Nat.le_refl _
  | v :: l => by have := items_sz v; have := lgS_sz l; have := Val.sz_eq v; simp only [lgS, Val.szL]; omega
theorem lgS_take (l : List Val) (i : Nat) : lgS (l.take i) ≤ 2 * Val.szL l := by
  have := lgS_sz l
  have e : lgS l = lgS (l.take i) + lgS (l.drop i) := by rw [← lgS_app, List.take_append_drop]
  omega
theorem lgS_step {l : List Val} {i : Nat} {x : Val} (h : l[i]? = some x) : lgS (l.take (i + 1)) = lgS (l.take i) + (x.items + x.text.size / 8) := by
  rw [take_snoc h, lgS_app]; simp [lgS]
theorem tdiv8 (n : Nat) : ((n : Int)).tdiv 8 = ((n / 8 : Nat) : Int) := by
  rw [Int.tdiv_eq_ediv_of_nonneg (by omega)]; omega
set_option maxHeartbeats 1000000 in
theorem large_c (l : List Val) (hs : Val.szL l ≤ 4000000) : EV 27 [.ro false (l.map Val.d)] [] = some (.ret (B (decide (8192 < lgS l))), []) := by
  have hl := szL_len l
  refine (ev_body ⟨[], [(0, [0, 3, 4])], [(5, [(0, 0, false), (1, 0, false), (2, 0, false), (3, 0, false), (4, 0, false), (5, 0, false), (6, 0, false), (7, 0, false), (8, 0, false), (9, 0, false), (10, 0, false), (11, 0, false), (12, 0, false), (13, 0, false), (14, 0, false), (15, 0, false)])], false, [], noIt⟩ [.tmp 2] rfl Try.func27 rfl rfl rfl (by kernel_rfl) (by show 1 ≤ 28; decide)).trans ?_
  simp +contextual (maxSteps := 10000000) only [↓reduceIte, go_sem, Nat.reduceEqDiff, Nat.reduceAdd, Nat.reduceSub, Nat.reduceMul, Nat.reduceLeDiff, Nat.reduceLT, Nat.reduceBEq, Nat.reduceDiv, Nat.reduceMod, Int.reduceLE, Int.reduceLT, Int.reduceEq, Int.reduceBEq, Int.reduceBNe, Int.reduceAdd, Int.reduceSub, Int.reduceNeg, Int.reduceToNat, Int.reduceMul, Int.reducePow, Nat.reducePow, reduceCtorEq]
  refine lpK_inv (fun m0 f es => ∃ (i : Nat) (j n : Int), j = i ∧ n = lgS (l.take i) ∧ i + m0 = l.length ∧ f = [(0, .ro false (l.map Val.d)), (3, I n), (4, I j)] ∧ es = []) l.length ⟨0, 0, 0, rfl, by simp [lgS], by omega, rfl, rfl⟩ ?_
  rintro m0 _ _ ⟨i, j, n, hj, hn, hi, rfl, rfl⟩ ih
  rcases Nat.lt_or_ge i l.length with hlt | hge
  · obtain ⟨x, hx⟩ := get_lt hlt
    have hlt' : decide (j < l.length) = true := by simp <;> omega
    have hxm := szL_in (List.mem_of_getElem? hx)
    have h1 := ritems_c _ x (Nat.le_refl _) (by omega)
    have g1 : l[j.toNat]? = some x := by rw [show j.toNat = i by omega]; exact hx
    have hstep := lgS_step hx
    have hb := lgS_take l (i + 1)
    have hz := Val.sz_eq x
    simp +contextual (maxSteps := 10000000) only [↓reduceIte, go_sem, Nat.reduceEqDiff, Nat.reduceAdd, Nat.reduceSub, Nat.reduceMul, Nat.reduceLeDiff, Nat.reduceLT, Nat.reduceBEq, Nat.reduceDiv, Nat.reduceMod, Int.reduceLE, Int.reduceLT, Int.reduceEq, Int.reduceBEq, Int.reduceBNe, Int.reduceAdd, Int.reduceSub, Int.reduceNeg, Int.reduceToNat, Int.reduceMul, Int.reducePow, Nat.reducePow, reduceCtorEq, hlt', g1, h1, tdiv8, wrap_i64 (n := ((x.text.size / 8 : Nat) : Int)) (by omega) (by omega), show 0 ≤ j by omega, show j < l.length by omega, wrap_i64 (n := j + 1) (by omega) (by omega), wrap_i64 (n := n + x.items) (by omega) (by omega), wrap_i64 (n := n + x.items + (x.text.size / 8 : Nat)) (by omega) (by omega)]
    exact ih (m0 - 1) _ _ (by omega) ⟨i + 1, _, _, by omega, by omega, by omega, rfl, rfl⟩
  · have hlt' : decide (j < l.length) = false := by simp <;> omega
    simp +contextual (maxSteps := 10000000) only [↓reduceIte, go_sem, Nat.reduceEqDiff, Nat.reduceAdd, Nat.reduceSub, Nat.reduceMul, Nat.reduceLeDiff, Nat.reduceLT, Nat.reduceBEq, Nat.reduceDiv, Nat.reduceMod, Int.reduceLE, Int.reduceLT, Int.reduceEq, Int.reduceBEq, Int.reduceBNe, Int.reduceAdd, Int.reduceSub, Int.reduceNeg, Int.reduceToNat, Int.reduceMul, Int.reducePow, Nat.reducePow, reduceCtorEq, hlt']
    have e : decide (8192 < n) = decide (8192 < lgS l) := by
      rw [List.take_of_length_le hge] at hn
      exact decide_eq_decide.2 (by omega)
    rw [e]
theorem large1 (v : Val) (hs : v.sz ≤ 4000000) : EV 27 [.ro false [v.d]] [] = some (.ret (B (decide (8192 < lgS [v]))), []) := large_c [v] (by simp only [Val.szL]; omega)
set_option maxHeartbeats 1000000 in
theorem rights_law (v : Val) (hw : v.wf) (hs : v.sz ≤ 4000000) : EV 8 [v.d] [] = some (.ret (B true), []) := by
  refine (ev_body ⟨[1], [], [(4, [(0, 0, false), (1, 0, false), (2, 0, false), (3, 0, false), (4, 0, false), (5, 0, false), (6, 0, false), (7, 0, false), (8, 0, false), (9, 0, false), (10, 0, false), (11, 0, false), (12, 0, false), (13, 0, false)])], false, [], noIt⟩ [.tmp 2] rfl Try.func8 rfl rfl rfl (by kernel_rfl) (by show 1 ≤ 23; decide)).trans ?_
  have h1 := large1 v hs
  have h2 := rcopy_c _ v (Nat.le_refl _) hs
  have h3 := right_c v hs hw
  have h4 := rright_v v hs
  have h5 := same32 _ v v (Nat.le_refl _) hs
  rw [same_refl] at h5
  cases hb : decide (8192 < lgS [v])
  · rw [hb] at h1
    simp +contextual (maxSteps := 10000000) only [↓reduceIte, go_sem, Nat.reduceEqDiff, Nat.reduceAdd, Nat.reduceSub, Nat.reduceMul, Nat.reduceLeDiff, Nat.reduceLT, Nat.reduceBEq, Nat.reduceDiv, Nat.reduceMod, Int.reduceLE, Int.reduceLT, Int.reduceEq, Int.reduceBEq, Int.reduceBNe, Int.reduceAdd, Int.reduceSub, Int.reduceNeg, Int.reduceToNat, Int.reduceMul, Int.reducePow, Nat.reducePow, reduceCtorEq, h1, h2, h3, h4, h5, works4]
    rw [beq_self_eq_true]
  · rw [hb] at h1
    simp +contextual (maxSteps := 10000000) only [↓reduceIte, go_sem, Nat.reduceEqDiff, Nat.reduceAdd, Nat.reduceSub, Nat.reduceMul, Nat.reduceLeDiff, Nat.reduceLT, Nat.reduceBEq, Nat.reduceDiv, Nat.reduceMod, Int.reduceLE, Int.reduceLT, Int.reduceEq, Int.reduceBEq, Int.reduceBNe, Int.reduceAdd, Int.reduceSub, Int.reduceNeg, Int.reduceToNat, Int.reduceMul, Int.reducePow, Nat.reducePow, reduceCtorEq, h1, works4]
end Go.Bw.R1

namespace Go.Bw.R1
open Go Go.Bw Go.Proofs
theorem own : ownKnob Try.prog.godebug = none := by kernel_rfl
theorem Args.end_ {dl : List D} (h : Args Try.prog [] dl) : dl = [] := List.length_eq_zero_iff.1 h.1
theorem blk_one {d : D} {n : Nat} (h : D.blkL [d] ≤ n) : d.blk ≤ n := by simp only [D.blkL] at h; omega
theorem u64_arg {d : D} (h : Arg Try.prog 33 d) : ∃ n : Int, (0 ≤ n ∧ n < 18446744073709551616) ∧ Wk d (.sc (.int .u64 n)) := by
  obtain ⟨n, h, hw⟩ := Arg.one (by kernel_rfl) (fun n : Int => IntKind.u64.min ≤ n ∧ n ≤ IntKind.u64.max) (fun n => .sc (.int .u64 n)) (fun ds hd => by
    obtain ⟨n, rfl, h1, h2⟩ := Rd.int_inv Try.underlying33 hd
    exact ⟨n, ⟨h1, h2⟩, .refl _⟩) h
  simp [IntKind.min, IntKind.max, IntKind.signed, IntKind.bits] at h
  exact ⟨n, by omega, hw⟩
end Go.Bw.R1

namespace Go.Bw.R1
open Go Go.Bw Go.Proofs
/-- those in even places -/
def evs : List Val → List Val
  | a :: _ :: r => a :: evs r
  | [a] => [a]
  | [] => []
theorem evs_even : ∀ l : List Val, l.length % 2 = 0 → evs l = keyL l
  | [], _ => rfl
  | [_], h => by simp at h
  | a :: b :: r, h => by rw [evs, keyL, evs_even r (by simp only [List.length_cons] at h; omega)]
theorem evs_at : ∀ (l : List Val) (b : Nat), 2 * b < l.length → (evs l)[b]? = l[2 * b]?
  | [], b, h => by simp at h
  | [a], 0, _ => rfl
  | [a], b + 1, h => by simp at h <;> omega
  | x :: y :: r, 0, _ => rfl
  | x :: y :: r, b + 1, h => by
    rw [evs, List.getElem?_cons_succ, evs_at r b (by simp only [List.length_cons] at h; omega), show 2 * (b + 1) = 2 * b + 1 + 1 by omega, List.getElem?_cons_succ, List.getElem?_cons_succ]
theorem evs_len : ∀ l : List Val, (evs l).length = (l.length + 1) / 2
  | [] => rfl
  | [_] => by simp [evs]
  | _ :: _ :: r => by rw [evs, List.length_cons, evs_len r]; simp only [List.length_cons]; omega
theorem evs_snoc : ∀ (l : List Val) (x : Val), evs (l ++ [x]) = if l.length % 2 = 0 then evs l ++ [x] else evs l
  | [], x => rfl
  | [a], x => rfl
  | a :: b :: r, x => by
    have := evs_snoc r x
    simp only [List.cons_append, evs, List.length_cons, this]
    by_cases h : r.length % 2 = 0
    · rw [if_pos h, if_pos (by omega)]
    · rw [if_neg h, if_neg (by omega)]
theorem noSame_snoc : ∀ (ks seen : List Val) (x : Val), noSame seen (ks ++ [x]) = (noSame seen ks && !((seen ++ ks).any fun s => same s x))
  | [], seen, x => by
    simp only [List.nil_append, noSame, List.append_nil, Bool.true_and]
    cases seen.any fun s => same s x <;> rfl
  | k :: ks, seen, x => by
    simp only [List.cons_append, noSame]
    by_cases h : (seen.any fun s => same s k) = true
    · simp only [if_pos h, Bool.false_and]
    · simp only [if_neg h]
      rw [noSame_snoc ks (seen ++ [k]) x, List.append_assoc]; rfl
def kd0 (l : List Val) (x : Val) : Bool := match l with | [] => true | y :: _ => x.kind == y.kind
theorem depthL_lt : ∀ {l : List Val} {n : Nat}, 0 < n → (∀ x ∈ l, x.depth < n) → Val.depthL l < n
  | [], n, hn, _ => by simpa [Val.depthL] using hn
  | x :: l, n, hn, h => by
    have := depthL_lt hn fun z hz => h z (List.mem_cons_of_mem _ hz)
    have := h x (List.mem_cons_self ..)
    simp only [Val.depthL]; omega
theorem all_congr' {p q : Val → Bool} : ∀ {l : List Val}, (∀ x ∈ l, p x = q x) → l.all p = l.all q
  | [], _ => rfl
  | x :: l, h => by rw [List.all_cons, List.all_cons, h x (List.mem_cons_self ..), all_congr' fun z hz => h z (List.mem_cons_of_mem _ hz)]
theorem alike_kind {x y : Val} (h : y.kind ≠ 25) : alike y x = (x.kind == y.kind) := by
  unfold alike
  have hz := Val.sz_eq y
  obtain ⟨n, hn⟩ : ∃ n, y.sz = n + 1 := ⟨y.sz - 1, by omega⟩
  have e : (y.kind != 25) = true := by simpa using h
  rw [hn, alikeF]
  simp only [e, Bool.true_or, if_true]
  exact Bool.beq_comm
def wdS (l : List Val) : Prop := ∀ x ∈ l, rightS x = true ∧ x.kind ≠ 25 ∧ x.depth < 16
theorem many_right {k : Int} {l : List Val} (hk : k = 23 ∨ k = 24) (h : wdS l) : rightS (.mk k 0 ⟨#[]⟩ l) = (famS k l && decide ((Val.mk k 0 ⟨#[]⟩ l).items ≤ 1024)) := by
  have hd : (Val.mk k 0 ⟨#[]⟩ l).depth = Val.depthL l + 1 := Val.depth_eq _
  have hdl := depthL_lt (by decide) fun x hx => (h x hx).2.2
  have hml : mayL l = true := by
    rw [mayL_all, List.all_eq_true]
    intro x hx
    have := (h x hx).1
    simp only [rightS, Bool.and_eq_true] at this
    exact this.2
  have hm : mayS (.mk k 0 ⟨#[]⟩ l) = famS k l := by
    rw [mayS_eq]; simp only [Val.kind_mk, Val.num_mk, Val.text_mk, Val.kids_mk, hml]
    rcases hk with rfl | rfl
    · show (true && true && (true && true && _)) = _; simp
    · show (true && true && (true && true && _)) = _; simp
  rw [rightS, hd, hm, show decide (Val.depthL l + 1 ≤ 16) = true from decide_eq_true (by omega), Bool.true_and, Bool.and_comm]
theorem arr_right {l : List Val} (h : wdS l) : rightS (.mk 24 0 ⟨#[]⟩ l) = (l.all (kd0 l) && decide ((Val.mk 24 0 ⟨#[]⟩ l).items ≤ 1024)) := by
  rw [many_right (.inr rfl) h, fam24_eq]
  congr 1
  refine all_congr' fun x hx => ?_
  cases l with
  | nil => rfl
  | cons y r => exact alike_kind (h y (List.mem_cons_self ..)).2.1
theorem map_right {l : List Val} (h : wdS l) : rightS (.mk 23 0 ⟨#[]⟩ l) = ((l.length % 2 == 0 && noSame [] (evs l)) && decide ((Val.mk 23 0 ⟨#[]⟩ l).items ≤ 1024)) := by
  rw [many_right (.inl rfl) h]
  congr 1
  have e : famS 23 l = (l.length % 2 == 0 && noSame [] (keyL l)) := rfl
  rw [e]
  by_cases hp : l.length % 2 = 0
  · rw [evs_even l hp]
  · have : (l.length % 2 == 0) = false := by simpa using hp
    rw [this]; rfl
set_option maxHeartbeats 4000000 in
theorem alike_law (l : List Val) (hw : Val.wfL l) (hs : Val.szL l ≤ 2000000) : EV 14 [.ro false (l.map Val.d)] [] = some (.ret (B true), []) := by
  have hlen := szL_len l
  refine (ev_body ⟨[], [(0, [0, 3, 4, 5]), (2, [0, 3, 4, 5, 6])], [(10, [(0, 0, false), (1, 0, false), (2, 0, false), (3, 0, false), (4, 0, false), (5, 0, false), (6, 0, false), (7, 0, false), (8, 0, false), (9, 0, false), (10, 0, false), (11, 0, false), (12, 0, false), (13, 0, false)]), (14, [(0, 0, false), (1, 0, false), (2, 0, false), (3, 0, false), (4, 0, false), (5, 0, false), (6, 0, false), (7, 0, false), (8, 0, false), (9, 0, false), (10, 0, false), (11, 0, false), (12, 0, false), (13, 0, false), (14, 0, false), (15, 0, false), (16, 0, false), (17, 0, false), (18, 0, false)])], false, [], noIt⟩ [.tmp 2] rfl Try.func14 rfl rfl rfl (by kernel_rfl) (by show 1 ≤ 115; decide)).trans ?_
  have hlg := large_c l (by omega)
  cases hb : decide (8192 < lgS l)
  · rw [hb] at hlg
    by_cases h60 : l.length ≤ 60
    · have e60 : decide ((60 : Int) < l.length) = false := by simp <;> omega
      simp +contextual (maxSteps := 10000000) only [↓reduceIte, go_sem, Nat.reduceEqDiff, Nat.reduceAdd, Nat.reduceSub, Nat.reduceMul, Nat.reduceLeDiff, Nat.reduceLT, Nat.reduceBEq, Nat.reduceDiv, Nat.reduceMod, Int.reduceLE, Int.reduceLT, Int.reduceEq, Int.reduceBEq, Int.reduceBNe, Int.reduceAdd, Int.reduceSub, Int.reduceNeg, Int.reduceToNat, Int.reduceMul, Int.reducePow, Nat.reducePow, reduceCtorEq, hlg, e60, mod2]
      refine lpK_inv (fun m0 f es => ∃ (i : Nat) (j : Int) (al un : Bool), j = i ∧ i + m0 = l.length ∧ wdS (l.take i) ∧ al = (l.take i).all (kd0 l) ∧ un = (l.length % 2 == 0 && noSame [] (evs (l.take i))) ∧ f = [(0, .ro false (l.map Val.d)), (3, B al), (4, B un), (5, I j)] ∧ es = []) l.length ⟨0, 0, true, _, rfl, by omega, fun x hx => (by simp at hx), rfl, by simp only [List.take_zero, evs, noSame, Bool.and_true], rfl, rfl⟩ ?_
      rintro m0 _ _ ⟨i, j, al, un, hj, hi, hall, hal, hun, rfl, rfl⟩ ih
      rcases Nat.lt_or_ge i l.length with hlt | hge
      · obtain ⟨x, hx⟩ := get_lt hlt
        obtain ⟨y, hy⟩ := get_lt (show 0 < l.length by omega)
        have hlt' : decide (j < l.length) = true := by simp <;> omega
        have g1 : l[j.toNat]? = some x := by rw [show j.toNat = i by omega]; exact hx
        have hxm := szL_in (List.mem_of_getElem? hx)
        have c1 := right_c x (by omega) (wfL_mem hw x (List.mem_of_getElem? hx))
        have c2 := depth_c x (by omega)
        cases hr : rightS x
        · rw [hr] at c1
          simp +contextual (maxSteps := 10000000) only [↓reduceIte, go_sem, Nat.reduceEqDiff, Nat.reduceAdd, Nat.reduceSub, Nat.reduceMul, Nat.reduceLeDiff, Nat.reduceLT, Nat.reduceBEq, Nat.reduceDiv, Nat.reduceMod, Int.reduceLE, Int.reduceLT, Int.reduceEq, Int.reduceBEq, Int.reduceBNe, Int.reduceAdd, Int.reduceSub, Int.reduceNeg, Int.reduceToNat, Int.reduceMul, Int.reducePow, Nat.reducePow, reduceCtorEq, hlt', g1, c1, show 0 ≤ j by omega, show j < l.length by omega, works4]
        rw [hr] at c1
        by_cases hk : x.kind = 25
        · have ek : (x.kind == 25) = true := by simp [hk]
          simp +contextual (maxSteps := 10000000) only [↓reduceIte, go_sem, Nat.reduceEqDiff, Nat.reduceAdd, Nat.reduceSub, Nat.reduceMul, Nat.reduceLeDiff, Nat.reduceLT, Nat.reduceBEq, Nat.reduceDiv, Nat.reduceMod, Int.reduceLE, Int.reduceLT, Int.reduceEq, Int.reduceBEq, Int.reduceBNe, Int.reduceAdd, Int.reduceSub, Int.reduceNeg, Int.reduceToNat, Int.reduceMul, Int.reducePow, Nat.reducePow, reduceCtorEq, hlt', g1, c1, ek, show 0 ≤ j by omega, show j < l.length by omega, works4]
        by_cases hd : x.depth < 16
        · have hd' : decide ((16 : Int) ≤ x.depth) = false := by simp <;> omega
          have hmd : j.tmod 2 = (i % 2 : Nat) := by rw [hj, Int.tmod_eq_emod_of_nonneg (by omega)]; omega
          have hsn := take_snoc hx
          have hall' : ∀ z ∈ l.take (i + 1), rightS z = true ∧ z.kind ≠ 25 ∧ z.depth < 16 := fun z hz => by
            rw [hsn] at hz
            rcases List.mem_append.1 hz with hz | hz
            · exact hall z hz
            · rw [List.mem_singleton.1 hz]; exact ⟨hr, hk, hd⟩
          have hkd : kd0 l x = (x.kind == y.kind) := by
            cases h0 : l with
            | nil => rw [h0] at hy; cases hy
            | cons z r => rw [h0] at hy; simp only [List.getElem?_cons_zero, Option.some.injEq] at hy; subst hy; rfl
          have hli : (l.take i).length = i := by rw [List.length_take]; omega
          cases al
          all_goals
            simp +contextual (maxSteps := 10000000) only [↓reduceIte, go_sem, Nat.reduceEqDiff, Nat.reduceAdd, Nat.reduceSub, Nat.reduceMul, Nat.reduceLeDiff, Nat.reduceLT, Nat.reduceBEq, Nat.reduceDiv, Nat.reduceMod, Int.reduceLE, Int.reduceLT, Int.reduceEq, Int.reduceBEq, Int.reduceBNe, Int.reduceAdd, Int.reduceSub, Int.reduceNeg, Int.reduceToNat, Int.reduceMul, Int.reducePow, Nat.reducePow, reduceCtorEq, hlt', g1, c1, c2, fb hk, hd', hy, hmd, show 0 ≤ j by omega, show j < l.length by omega, show (0 : Int) < l.length by omega]
            rcases Nat.mod_two_eq_zero_or_one i with hp | hp
            · rw [hp]
              refine lpK_inv (fun m1 f es => ∃ (b : Nat) (k : Int) (u2 : Bool), k = 2 * b ∧ 2 * b ≤ i ∧ i - 2 * b = m1 ∧ u2 = (un && !(((evs (l.take i)).take b).any fun s => same s x)) ∧ f = [(0, .ro false (l.map Val.d)), (3, _), (4, B u2), (5, I j), (6, I k)] ∧ es = []) i ⟨0, 0, un, rfl, by omega, rfl, by simp, rfl, rfl⟩ ?_
              rintro m1 _ _ ⟨b, k, u2, hk2, hb2, hm1, hu2, rfl, rfl⟩ ih2
              rcases Nat.lt_or_ge (2 * b) i with hbi | hbi
              · obtain ⟨z, hz⟩ := get_lt (show 2 * b < l.length by omega)
                have hz2 : (evs (l.take i))[b]? = some z := by rw [evs_at _ _ (by omega), List.getElem?_take, if_pos hbi]; exact hz
                have hlk : decide (k < j) = true := by simp <;> omega
                have g2 : l[k.toNat]? = some z := by rw [show k.toNat = 2 * b by omega]; exact hz
                have c3 := same_c _ x z (Nat.le_refl _) (by omega)
                rw [same_comm] at c3
                have hstep : (un && !(((evs (l.take i)).take (b + 1)).any fun s => same s x)) = (u2 && !same z x) := by
                  rw [take_snoc hz2, List.any_append, hu2]
                  simp only [List.any_cons, List.any_nil, Bool.or_false, Bool.not_or, Bool.and_assoc]
                cases u2
                · simp +contextual (maxSteps := 10000000) only [↓reduceIte, go_sem, Nat.reduceEqDiff, Nat.reduceAdd, Nat.reduceSub, Nat.reduceMul, Nat.reduceLeDiff, Nat.reduceLT, Nat.reduceBEq, Nat.reduceDiv, Nat.reduceMod, Int.reduceLE, Int.reduceLT, Int.reduceEq, Int.reduceBEq, Int.reduceBNe, Int.reduceAdd, Int.reduceSub, Int.reduceNeg, Int.reduceToNat, Int.reduceMul, Int.reducePow, Nat.reducePow, reduceCtorEq, hlk, g2, c3, hp, hmd, wrap_i64 (n := k + 2) (by omega) (by omega)]
                  exact ih2 (m1 - 2) _ _ (by omega) ⟨b + 1, _, _, by omega, by omega, by omega, by rw [hstep]; rfl, rfl, rfl⟩
                · simp +contextual (maxSteps := 10000000) only [↓reduceIte, go_sem, Nat.reduceEqDiff, Nat.reduceAdd, Nat.reduceSub, Nat.reduceMul, Nat.reduceLeDiff, Nat.reduceLT, Nat.reduceBEq, Nat.reduceDiv, Nat.reduceMod, Int.reduceLE, Int.reduceLT, Int.reduceEq, Int.reduceBEq, Int.reduceBNe, Int.reduceAdd, Int.reduceSub, Int.reduceNeg, Int.reduceToNat, Int.reduceMul, Int.reducePow, Nat.reducePow, reduceCtorEq, hlk, g1, g2, c3, hp, hmd, show 0 ≤ j by omega, show j < l.length by omega, show 0 ≤ k by omega, show k < l.length by omega, wrap_i64 (n := k + 2) (by omega) (by omega)]
                  exact ih2 (m1 - 2) _ _ (by omega) ⟨b + 1, _, _, by omega, by omega, by omega, by rw [hstep]; rfl, rfl, rfl⟩
              · have hlk : decide (k < j) = false := by simp <;> omega
                clear ih2
                rw [List.take_of_length_le (by rw [evs_len, hli]; omega)] at hu2
                simp +contextual (maxSteps := 10000000) only [↓reduceIte, go_sem, Nat.reduceEqDiff, Nat.reduceAdd, Nat.reduceSub, Nat.reduceMul, Nat.reduceLeDiff, Nat.reduceLT, Nat.reduceBEq, Nat.reduceDiv, Nat.reduceMod, Int.reduceLE, Int.reduceLT, Int.reduceEq, Int.reduceBEq, Int.reduceBNe, Int.reduceAdd, Int.reduceSub, Int.reduceNeg, Int.reduceToNat, Int.reduceMul, Int.reducePow, Nat.reducePow, reduceCtorEq, hlk, wrap_i64 (n := j + 1) (by omega) (by omega)]
                refine ih (m0 - 1) _ _ (by omega) ⟨i + 1, _, _, u2, by omega, by omega, hall', ?_, ?_, rfl, rfl⟩
                · rw [hsn, List.all_append, ← hal, List.all_cons, List.all_nil, Bool.and_true, hkd]; rfl
                · rw [hu2, hun, hsn, evs_snoc, hli, if_pos hp, noSame_snoc, List.nil_append, Bool.and_assoc]
            · rw [hp]
              refine lpK_inv (fun m1 f es => ∃ (k : Int), k ≤ j + 1 ∧ 1 ≤ k ∧ (j + 1 - k).toNat = m1 ∧ f = [(0, .ro false (l.map Val.d)), (3, _), (4, B un), (5, I j), (6, I k)] ∧ es = []) (j + 1 - 1).toNat ⟨1, by omega, by omega, rfl, rfl, rfl⟩ ?_
              rintro m1 _ _ ⟨k, hk1, hk2, hm1, rfl, rfl⟩ ih2
              rcases (by omega : k < j ∨ j ≤ k) with hkj | hkj
              · have hlk : decide (k < j) = true := by simp <;> omega
                cases un
                · simp +contextual (maxSteps := 10000000) only [↓reduceIte, go_sem, Nat.reduceEqDiff, Nat.reduceAdd, Nat.reduceSub, Nat.reduceMul, Nat.reduceLeDiff, Nat.reduceLT, Nat.reduceBEq, Nat.reduceDiv, Nat.reduceMod, Int.reduceLE, Int.reduceLT, Int.reduceEq, Int.reduceBEq, Int.reduceBNe, Int.reduceAdd, Int.reduceSub, Int.reduceNeg, Int.reduceToNat, Int.reduceMul, Int.reducePow, Nat.reducePow, reduceCtorEq, hlk, hp, hmd, wrap_i64 (n := k + 2) (by omega) (by omega)]
                  exact ih2 (m1 - 2) _ _ (by omega) ⟨k + 2, by omega, by omega, by omega, rfl, rfl⟩
                · simp +contextual (maxSteps := 10000000) only [↓reduceIte, go_sem, Nat.reduceEqDiff, Nat.reduceAdd, Nat.reduceSub, Nat.reduceMul, Nat.reduceLeDiff, Nat.reduceLT, Nat.reduceBEq, Nat.reduceDiv, Nat.reduceMod, Int.reduceLE, Int.reduceLT, Int.reduceEq, Int.reduceBEq, Int.reduceBNe, Int.reduceAdd, Int.reduceSub, Int.reduceNeg, Int.reduceToNat, Int.reduceMul, Int.reducePow, Nat.reducePow, reduceCtorEq, hlk, hp, hmd, wrap_i64 (n := k + 2) (by omega) (by omega)]
                  exact ih2 (m1 - 2) _ _ (by omega) ⟨k + 2, by omega, by omega, by omega, rfl, rfl⟩
              · have hlk : decide (k < j) = false := by simp <;> omega
                clear ih2
                simp +contextual (maxSteps := 10000000) only [↓reduceIte, go_sem, Nat.reduceEqDiff, Nat.reduceAdd, Nat.reduceSub, Nat.reduceMul, Nat.reduceLeDiff, Nat.reduceLT, Nat.reduceBEq, Nat.reduceDiv, Nat.reduceMod, Int.reduceLE, Int.reduceLT, Int.reduceEq, Int.reduceBEq, Int.reduceBNe, Int.reduceAdd, Int.reduceSub, Int.reduceNeg, Int.reduceToNat, Int.reduceMul, Int.reducePow, Nat.reducePow, reduceCtorEq, hlk, wrap_i64 (n := j + 1) (by omega) (by omega)]
                refine ih (m0 - 1) _ _ (by omega) ⟨i + 1, _, _, un, by omega, by omega, hall', ?_, ?_, rfl, rfl⟩
                · rw [hsn, List.all_append, ← hal, List.all_cons, List.all_nil, Bool.and_true, hkd]; rfl
                · rw [hun, hsn, evs_snoc, hli, if_neg (by omega)]
        · have hd' : decide ((16 : Int) ≤ x.depth) = true := by simp <;> omega
          simp +contextual (maxSteps := 10000000) only [↓reduceIte, go_sem, Nat.reduceEqDiff, Nat.reduceAdd, Nat.reduceSub, Nat.reduceMul, Nat.reduceLeDiff, Nat.reduceLT, Nat.reduceBEq, Nat.reduceDiv, Nat.reduceMod, Int.reduceLE, Int.reduceLT, Int.reduceEq, Int.reduceBEq, Int.reduceBNe, Int.reduceAdd, Int.reduceSub, Int.reduceNeg, Int.reduceToNat, Int.reduceMul, Int.reducePow, Nat.reducePow, reduceCtorEq, hlt', g1, c1, c2, fb hk, hd', show 0 ≤ j by omega, show j < l.length by omega, works4]
      · have hlt' : decide (j < l.length) = false := by simp <;> omega
        have ca := many_c 24 l (by omega)
        have cm := many_c 23 l (by omega)
        rw [List.take_of_length_le hge] at hall hal hun
        have szA : (Val.mk 24 0 ⟨#[]⟩ l).sz ≤ 4000000 := by rw [Val.sz_eq]; simp only [Val.text_mk, Val.kids_mk]; show 0 + _ + 1 ≤ _; omega
        have szM : (Val.mk 23 0 ⟨#[]⟩ l).sz ≤ 4000000 := by rw [Val.sz_eq]; simp only [Val.text_mk, Val.kids_mk]; show 0 + _ + 1 ≤ _; omega
        have ci := items_c _ szA
        have ra := right_c _ szA ⟨by decide, hw⟩
        have rm := right_c _ szM ⟨by decide, hw⟩
        have em : (Val.mk 23 0 ⟨#[]⟩ l).items = (Val.mk 24 0 ⟨#[]⟩ l).items := by rw [Val.items_eq, Val.items_eq]; rfl
        rw [arr_right hall, ← hal, show decide ((Val.mk 24 0 ⟨#[]⟩ l).items ≤ 1024) = decide (((Val.mk 24 0 ⟨#[]⟩ l).items : Int) ≤ 1024) from decide_eq_decide.2 (by omega)] at ra
        rw [map_right hall, ← hun, em, show decide ((Val.mk 24 0 ⟨#[]⟩ l).items ≤ 1024) = decide (((Val.mk 24 0 ⟨#[]⟩ l).items : Int) ≤ 1024) from decide_eq_decide.2 (by omega)] at rm
        clear ih hal hun
        cases al <;> cases un
        all_goals
          simp only [Bool.false_and, Bool.true_and] at ra rm
          simp +contextual (maxSteps := 10000000) only [↓reduceIte, go_sem, Nat.reduceEqDiff, Nat.reduceAdd, Nat.reduceSub, Nat.reduceMul, Nat.reduceLeDiff, Nat.reduceLT, Nat.reduceBEq, Nat.reduceDiv, Nat.reduceMod, Int.reduceLE, Int.reduceLT, Int.reduceEq, Int.reduceBEq, Int.reduceBNe, Int.reduceAdd, Int.reduceSub, Int.reduceNeg, Int.reduceToNat, Int.reduceMul, Int.reducePow, Nat.reducePow, reduceCtorEq, hlt', ca, cm, ci, ra, rm, beq_self_eq_true, works4]
    · have e60 : decide ((60 : Int) < l.length) = true := by simp <;> omega
      simp +contextual (maxSteps := 10000000) only [↓reduceIte, go_sem, Nat.reduceEqDiff, Nat.reduceAdd, Nat.reduceSub, Nat.reduceMul, Nat.reduceLeDiff, Nat.reduceLT, Nat.reduceBEq, Nat.reduceDiv, Nat.reduceMod, Int.reduceLE, Int.reduceLT, Int.reduceEq, Int.reduceBEq, Int.reduceBNe, Int.reduceAdd, Int.reduceSub, Int.reduceNeg, Int.reduceToNat, Int.reduceMul, Int.reducePow, Nat.reducePow, reduceCtorEq, hlg, e60, works4]
  · rw [hb] at hlg
    simp +contextual (maxSteps := 10000000) only [↓reduceIte, go_sem, Nat.reduceEqDiff, Nat.reduceAdd, Nat.reduceSub, Nat.reduceMul, Nat.reduceLeDiff, Nat.reduceLT, Nat.reduceBEq, Nat.reduceDiv, Nat.reduceMod, Int.reduceLE, Int.reduceLT, Int.reduceEq, Int.reduceBEq, Int.reduceBNe, Int.reduceAdd, Int.reduceSub, Int.reduceNeg, Int.reduceToNat, Int.reduceMul, Int.reducePow, Nat.reducePow, reduceCtorEq, hlg, works4]
end Go.Bw.R1
