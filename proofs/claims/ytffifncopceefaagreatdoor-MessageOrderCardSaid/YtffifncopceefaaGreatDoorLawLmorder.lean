/- Of any sections in any order: message.Get takes them just if they stand in their order, each once but data. Conditions: none beyond the card. -/
import Derived.Test.YtffifncopceefaaGreatDoorWalk3
import Derived.Test.YtffifncopceefaaGreatDoorCards
import Derived.Test.YtffifncopceefaaGreatDoorTie
set_option linter.unusedSimpArgs false
set_option linter.unusedVariables false
/- law10: sections stand in their order. -/
namespace Go.Bw.R1
set_option maxRecDepth 5000
open Go Go.Bw Go.Proofs
abbrev someL (ord body : ByteArray) (mp : Bool) : List D := [.ro false (bytesD ord), .ro false (bytesD body), B mp]
def kOf (x : UInt8) : Int := (x.toNat : Int) % 10
def ksL (ord : ByteArray) : List Int := (toL ord).map kOf
def encO (body : ByteArray) (k : Int) : ByteArray := wrV (secV k (xvS k body))
def ordB (body : ByteArray) (ks : List Int) : ByteArray := joinB (ks.map (encO body))
theorem ordB_snoc (body : ByteArray) (l : List Int) (k : Int) : ordB body (l ++ [k]) = ordB body l ++ encO body k := by
  unfold ordB; rw [List.map_append]; exact joinB_snoc _ _
theorem wholeS_snoc (body : ByteArray) (l : List Int) (k : Int) : wholeS body (l ++ [k]) = wholeS body l ++ (if k = 5 then body else e0) := by
  rw [wholeS_app]
  show _ ++ ((if k = 5 then body else e0) ++ e0) = _
  rw [ba_e0]
theorem ordS_snoc (l : List Int) (k last : Int) : ordS (l ++ [k]) last = (ordS l last && fineK k (lastS l last)) := by
  rw [ordS_app]
  show (_ && (fineK k (lastS l last) && true)) = _
  rw [Bool.and_true]
theorem lastS_snoc : ∀ (l : List Int) (k last : Int), lastS (l ++ [k]) last = k
  | [], k, last => rfl
  | a :: l, k, last => lastS_snoc l k a
theorem kOf_ok (x : UInt8) : okK (kOf x) := by unfold okK kOf; omega
theorem ks_ok (ord : ByteArray) : ∀ k ∈ ksL ord, okK k := by
  intro k hk
  obtain ⟨x, _, rfl⟩ := List.mem_map.1 hk
  exact kOf_ok x
theorem encO_size (body : ByteArray) (k : Int) : 0 < (encO body k).size ∧ (encO body k).size ≤ 10 * body.size + 40 := by
  have h1 := wr_pos (secV k (xvS k body))
  have h2 := wr_sz (secV k (xvS k body))
  have h3 := sec_sz k (xvS k body)
  have h4 := xv_sz k body
  unfold encO; omega
theorem ordB_size (body : ByteArray) (l : List Int) : (ordB body l).size ≤ (10 * body.size + 40) * l.length := by
  have := joinB_size (B := 10 * body.size + 40) (l.map (encO body)) (fun p hp => by
    obtain ⟨q, hq, rfl⟩ := List.mem_map.1 hp
    exact (encO_size body q).2)
  rw [List.length_map] at this; exact this
theorem ordB_pos (body : ByteArray) : ∀ l : List Int, l.length ≤ (ordB body l).size
  | [] => Nat.zero_le _
  | k :: l => by
    have h1 := ordB_pos body l
    have h2 := (encO_size body k).1
    show _ ≤ (encO body k ++ ordB body l).size
    rw [ByteArray.size_append, List.length_cons]; omega
theorem wholeS_size (body : ByteArray) : ∀ l : List Int, (wholeS body l).size ≤ body.size * l.length
  | [] => by simp [show (wholeS body []).size = 0 by rfl]
  | k :: l => by
    have h1 := wholeS_size body l
    show ((if k = 5 then body else e0) ++ wholeS body l).size ≤ _
    rw [ByteArray.size_append, List.length_cons, Nat.mul_add]
    split
    · omega
    · have : e0.size = 0 := rfl
      omega
theorem toL_ordB (body : ByteArray) (l : List Int) : toL (ordB body l) = bytesM (l.map fun k => secV k (xvS k body)) := by
  unfold ordB bytesM
  rw [toL_join, List.flatMap_map, List.flatMap_map]
  rfl
theorem plainM_e0 : m0S = plainM e0 := rfl
theorem getM_ordB (body : ByteArray) (hb : body.size ≤ 100) (l : List Int) (hk : ∀ k ∈ l, okK k) (hl : l.length ≤ 12) : getM (toL (ordB body l)) = if ordS l (-1) = true ∧ (l.any (· == 5)) = true then some (plainM (wholeS body l)) else none := by
  have hp := ordB_pos body l
  have hz := toL_len (ordB body l)
  obtain ⟨n, hn⟩ : ∃ n, (toL (ordB body l)).length + 1 = l.length + (n + 1) := ⟨(ordB body l).size - l.length, by omega⟩
  unfold getM
  have h := getF_ord body (by omega) l (n + 1) (-1) false e0 [] hk (by omega)
  rw [List.append_nil] at h
  rw [hn, toL_ordB, plainM_e0, h, e0_app, Bool.false_or]
  have hw := wholeS_size body l
  have hw2 : body.size * l.length ≤ 100 * 12 := Nat.mul_le_mul hb hl
  by_cases ho : ordS l (-1) = true
  · rw [if_pos ho, getF_nil]
    by_cases ha : (l.any (· == 5)) = true
    · rw [if_pos ⟨ha, by show (wholeS body l).size ≤ 2048; omega⟩, if_pos ⟨ho, ha⟩]
    · rw [if_neg (fun h => ha h.1), if_neg (fun h => ha h.2)]
  · rw [if_neg ho, if_neg (fun h => ho h.1)]
/-- what is of another kind than its section -/
abbrev numV : Val := .mk 5 0 ⟨#[]⟩ []
def encN (k : Int) : ByteArray := wrV (secV k numV)
theorem getM_ordN (body : ByteArray) (hb : body.size ≤ 100) (l : List Int) (hk : ∀ k ∈ l, okK k) (hl : l.length ≤ 12) (k : Int) (h5 : k ≠ 5) (h : okK k) : getM (toL (ordB body l ++ encN k)) = none := by
  have hp := ordB_pos body l
  have hz := toL_len (ordB body l ++ encN k)
  have hnp : 0 < (encN k).size := wr_pos _
  rw [ByteArray.size_append] at hz
  obtain ⟨n, hn⟩ : ∃ n, (toL (ordB body l ++ encN k)).length + 1 = l.length + (n + 1) := ⟨(ordB body l).size - l.length + (encN k).size, by omega⟩
  unfold getM
  have hh := getF_ord body (by omega) l (n + 1) (-1) false e0 (toL (encN k)) hk (by omega)
  rw [hn, toL_app, toL_ordB, plainM_e0, hh]
  by_cases ho : ordS l (-1) = true
  · rw [if_pos ho]
    have hlast : -1 ≤ lastS l (-1) := by
      clear hh ho hn hz hp
      have key : ∀ (l : List Int) (a : Int), -1 ≤ a → (∀ k ∈ l, okK k) → -1 ≤ lastS l a := by
        intro l
        induction l with
        | nil => intro a ha _; exact ha
        | cons x l ih => intro a _ hx; exact ih x (by have := (hx x (by simp)).1; omega) fun y hy => hx y (by simp [hy])
      exact key l (-1) (by omega) hk
    have hs := step_num (last := lastS l (-1)) h.1 h.2 h5 hlast (plainM (e0 ++ wholeS body l)) (by show e0.size ≤ 64; decide)
    have := getF_bad (n := n) (bd := (false || l.any (· == 5))) (r := []) (v := secV k numV) (by rw [sec_sz]; show 0 + 0 + 1 + 2 ≤ _; omega) (num_right k) (sec_wf h ⟨by decide, trivial⟩) hs
    rw [List.append_nil] at this
    exact this
  · rw [if_neg ho]
theorem mmany_nil (k : Int) : EV 22 [U8 k, .nils] [] = some (.ret (Val.mk k 0 ⟨#[]⟩ []).d, []) := by
  have hc : EV 49 [.nils] [] = some (.ret (.ro false []), []) := by
    refine (ev_body ⟨[], [(0, [2, 5, 6, 7])], [], true, [], noIt⟩ [.tmp 2] rfl Tryz.func49 rfl rfl rfl (by kernel_rfl) (by show 1 ≤ 18; decide) (by kernel_rfl)).trans ?_
    simp +contextual (maxSteps := 10000000) only [go_sem]
    refine lpK_inv (fun m0 f es => f = [(2, .nils), (5, .nils), (6, I 0), (7, I 0)] ∧ es = []) 0 ⟨rfl, rfl⟩ ?_
    rintro m0 _ _ ⟨rfl, rfl⟩ ih
    simp +contextual (maxSteps := 10000000) only [go_sem]
  refine (ev_body ⟨[], [], [], true, [], noIt⟩ [.cell 4 46] rfl Tryz.func22 rfl rfl rfl (by kernel_rfl) (by show 2 ≤ 9; decide) (by kernel_rfl)).trans ?_
  simp +contextual (maxSteps := 10000000) only [go_sem, hc]
theorem menc_sec {k : Int} {x : Val} (hk : okK k) (hx : x.wf) (hr : rightS (secV k x) = true) (hz : x.sz ≤ 30000000) : EL 25 [(Val.mk 25 0 ⟨#[]⟩ [.mk 6 (112 + k) ⟨#[]⟩ [], x]).d] [] = some (.ret (.tup [.ref 0 0 1 0 (wrV (secV k x)).size, I 0]), [some ⟨0, bytesD (wrV (secV k x))⟩]) :=
  el_ev (f := 25) rfl rfl rfl (menc_ok (secV k x) (by rw [sec_sz]; omega) (sec_wf hk hx) hr)
end Go.Bw.R1

/- law10: sections stand in their order: the law. -/
namespace Go.Bw.R1
set_option maxRecDepth 5000
open Go Go.Bw Go.Proofs
abbrev ordF (ord body : ByteArray) (mp : Bool) (x y : D) (fine : Bool) (last j : Int) : Fr := [(1, .rp (someL ord body mp)), (3, x), (4, y), (5, B fine), (6, I last), (7, I j)]
theorem fine1 (f : Bool) (k last : Int) (h5 : k ≠ 5) : (f && k != 6 && k != 7 && k != 9 && decide (last < k)) = (f && fineK k last) := by
  have h : (k == 5) = false := by rw [beq_eq_false_iff_ne]; exact h5
  unfold fineK
  simp only [h, Bool.false_and, Bool.or_false, Bool.not_or, bne, Bool.and_assoc]
theorem fine5 (f : Bool) (k last : Int) (h5 : k = 5) : (f && (decide (last < k) || last == 5)) = (f && fineK k last) := by
  subst h5
  unfold fineK
  simp
/-- the states of the first loop -/
inductive OrdI (ord body : ByteArray) (mp : Bool) (n : Nat) : Nat → Fr → Sto → Prop where
  | a {f : Fr} {es : Sto} (hf : f = ordF ord body mp .nils .nils true (-1) 0) (he : es = []) : OrdI ord body mp n 0 f es
  | b {i : Nat} {j : Int} {l : List Int} {f : Fr} {es : Sto} (hi : 0 < i) (hj : j = i) (hl : l = (ksL ord).take i) (hz : (wholeS body l).size = 0) (hf : f = ordF ord body mp (.ref 0 0 1 0 (ordB body l).size) .nils (ordS l (-1)) (lastS l (-1)) j) (he : es = [some ⟨0, bytesD (ordB body l)⟩]) : OrdI ord body mp n i f es
  | c {i : Nat} {j : Int} {l : List Int} {f : Fr} {es : Sto} (hi : 0 < i) (hj : j = i) (hl : l = (ksL ord).take i) (hz : ¬ (wholeS body l).size = 0) (hf : f = ordF ord body mp (.ref 0 0 1 0 (ordB body l).size) (.ref 1 0 1 0 (wholeS body l).size) (ordS l (-1)) (lastS l (-1)) j) (he : es = [some ⟨0, bytesD (ordB body l)⟩, some ⟨0, bytesD (wholeS body l)⟩]) : OrdI ord body mp n i f es
  | d {i : Nat} {j k : Int} {l : List Int} {B0 : ByteArray} {f : Fr} {es : Sto} (hi : i = n) (hj : j = i) (hl : l = (ksL ord).take (n - 1)) (hk : okK k) (h5 : k ≠ 5) (hB : B0 = ordB body l ++ encN k) (hz : (wholeS body l).size = 0) (hf : f = ordF ord body mp (.ref 0 0 1 0 B0.size) .nils false k j) (he : es = [some ⟨0, bytesD B0⟩]) : OrdI ord body mp n i f es
  | e {i : Nat} {j k : Int} {l : List Int} {B0 : ByteArray} {f : Fr} {es : Sto} (hi : i = n) (hj : j = i) (hl : l = (ksL ord).take (n - 1)) (hk : okK k) (h5 : k ≠ 5) (hB : B0 = ordB body l ++ encN k) (hz : ¬ (wholeS body l).size = 0) (hf : f = ordF ord body mp (.ref 0 0 1 0 B0.size) (.ref 1 0 1 0 (wholeS body l).size) false k j) (he : es = [some ⟨0, bytesD B0⟩, some ⟨0, bytesD (wholeS body l)⟩]) : OrdI ord body mp n i f es
theorem ks_len (ord : ByteArray) : (ksL ord).length = ord.size := by unfold ksL; rw [List.length_map, toL_len]
theorem ord_rng {ord body : ByteArray} (hl : ¬ (12 : Int) < ord.size) (hb : ¬ (100 : Int) < body.size) (i : Nat) : (ordB body ((ksL ord).take i)).size ≤ 12480 ∧ (wholeS body ((ksL ord).take i)).size ≤ 1200 := by
  have h1 := ordB_size body ((ksL ord).take i)
  have h2 := wholeS_size body ((ksL ord).take i)
  have h3 : ((ksL ord).take i).length ≤ 12 := by rw [List.length_take, ks_len]; omega
  have h4 : (10 * body.size + 40) * ((ksL ord).take i).length ≤ 1040 * 12 := Nat.mul_le_mul (by omega) h3
  have h5 : body.size * ((ksL ord).take i).length ≤ 100 * 12 := Nat.mul_le_mul (by omega) h3
  omega
set_option maxHeartbeats 40000000 in
theorem MessageOrder_c (ord body : ByteArray) (mp : Bool) : EL 7 [.agg (someL ord body mp)] [] = some (.ret (B true), []) := by
  have hW := worksL
  refine (ev_body ⟨[1], [(0, [1, 3, 4, 5, 6, 7]), (3, [1, 3, 4, 5, 12, 13])], [(22, [(0, 0, false), (1, 0, false), (2, 0, false), (3, 0, false), (4, 0, false), (5, 0, false), (6, 0, true), (7, 1, false), (8, 0, false), (9, 0, false), (10, 1, false), (11, 1, false)])], false, [(3000033, [3, 4])], noIt⟩ [.tmp 2] rfl Tryz.func7 rfl rfl rfl (by kernel_rfl) (by show 1 ≤ 159; decide) (by kernel_rfl)).trans ?_
  unfold someL
  by_cases hl : (12 : Int) < ord.size
  · have g1 : decide ((12 : Int) < ord.size) = true := decide_eq_true hl
    simp +contextual (maxSteps := 10000000) only [go_sem, g1, hW]
  have g1 : decide ((12 : Int) < ord.size) = false := decide_eq_false hl
  by_cases hb : (100 : Int) < body.size
  · have g2 : decide ((100 : Int) < body.size) = true := decide_eq_true hb
    simp +contextual (maxSteps := 10000000) only [go_sem, g1, g2, hW]
  have g2 : decide ((100 : Int) < body.size) = false := decide_eq_false hb
  simp +contextual (maxSteps := 10000000) only [go_sem, g1, g2]
  refine lpK_inv (fun m f es => ∃ i : Nat, m + i = ord.size ∧ OrdI ord body mp ord.size i f es) ord.size ⟨0, by omega, .a rfl rfl⟩ ?_
  rintro m _ _ ⟨i, hmi, hst⟩ ih
  have hbn : body.size ≤ 140737488355328 := by omega
  cases m with
  | succ m =>
    obtain ⟨x, hx⟩ := get_lt (l := toL ord) (i := i) (by have := toL_len ord; omega)
    have hlt : decide ((i : Int) < ord.size) = true := by simp; omega
    have hix : (bytesD ord)[i]? = some (.sc (.int .u8 x.toNat)) := by unfold bytesD; rw [List.getElem?_map]; show Option.map _ (toL ord)[i]? = _; rw [hx]; rfl
    have hkm : IntKind.i64.wrap (x.toNat : Int) = (x.toNat : Int) := wrap_i64 (by omega) (by have := x.toNat_lt; omega)
    obtain ⟨k, hk⟩ : ∃ k : Int, k = kOf x := ⟨_, rfl⟩
    have hok := kOf_ok x
    have hks : (ksL ord)[i]? = some k := by unfold ksL; rw [List.getElem?_map, hx, hk]; rfl
    rw [← hk] at hok
    have hkx : (x.toNat : Int).tmod 10 = k := by rw [hk, Int.tmod_eq_emod_of_nonneg (by omega)]; rfl
    have hts := take_snoc hks
    have m23 := el_ev (f := 22) rfl rfl rfl (mmany_nil 23)
    have m22 := el_ev (f := 22) rfl rfl rfl (mmany_nil 22)
    have n6 := el_ev (f := 24) rfl rfl rfl (number_c 6 (112 + k))
    have n5 := el_ev (f := 24) rfl rfl rfl (number_c 5 0)
    have t19 := el_ev (f := 23) rfl rfl rfl (text_c 19 body)
    have hdc := fun x hx => el_ev (f := 26) rfl rfl rfl (desc_c (.mk 6 (112 + k) ⟨#[]⟩ []) x hx)
    have u64k : IntKind.u64.wrap k = k := wrap_u64_id hok.1 (by have := hok.2; omega)
    have u64k2 : IntKind.u64.wrap (112 + k) = 112 + k := wrap_u64_id (by have := hok.1; omega) (by have := hok.2; omega)
    obtain ⟨r1, r2⟩ := ord_rng hl hb i
    have hO := ordS_snoc ((ksL ord).take i) k (-1)
    have hL := lastS_snoc ((ksL ord).take i) k (-1)
    have hB := ordB_snoc body ((ksL ord).take i) k
    have hWh := wholeS_snoc body ((ksL ord).take i) k
    rw [← hts] at hO hL hB hWh
    have hen := menc_sec hok (xv_wf k body) (ord_right k body) (by have := xv_sz k body; omega)
    have hsz := encO_size body k
    have hem := menc_sec (x := numV) hok ⟨by decide, trivial⟩ (num_right k) (by decide)
    have hsm := wr_sz (secV k numV)
    have hsm2 := wr_pos (secV k numV)
    rw [sec_sz] at hsm
    have hsm3 : (wrV (secV k numV)).size ≤ 30 := hsm
    unfold encO at hsz hB
    have v1 : ¬ (wrV (secV k numV)).size = 0 := by omega
    have v3 : (wrV (secV k numV)).size ≤ 140737488355328 := by omega
    have v5 : (ordB body ((ksL ord).take i)).size + (wrV (secV k numV)).size ≤ 140737488355328 := by omega
    have hdn := hdc numV (by show 0 + 0 + 1 + (0 + 0 + 1) ≤ _; omega)
    have w1 : ¬ (wrV (secV k (xvS k body))).size = 0 := by omega
    have w3 : (wrV (secV k (xvS k body))).size ≤ 140737488355328 := by omega
    have w5 : (ordB body ((ksL ord).take i)).size + (wrV (secV k (xvS k body))).size ≤ 140737488355328 := by omega
    have w6 : (wholeS body ((ksL ord).take i)).size + body.size ≤ 140737488355328 := by omega
    have hN : encN k = wrV (secV k numV) := rfl
    have hxsz := xv_sz k body
    generalize wrV (secV k numV) = W2 at *
    generalize wrV (secV k (xvS k body)) = W at *
    have wj : IntKind.i64.wrap ((ord.size : Int) - 1) = (ord.size : Int) - 1 := wrap_i64 (by omega) (by omega)
    cases hst with
    | d hi => omega
    | e hi => omega
    | a hf he =>
      subst hf he
      have hlt0 : decide ((0 : Int) < ord.size) = true := by simpa using hlt
      unfold ordF someL
      by_cases h0 : k = 0
      · have c0 : (k == 0) = true := by rw [h0]; rfl
        have h5' : k ≠ 5 := by omega
        have c5 : (k == 5) = false := by rw [beq_eq_false_iff_ne]; exact h5'
        have b5 : (k != 5) = true := by rw [bne_iff_ne]; exact h5'
        have hxv : xvS k body = .mk 22 0 ⟨#[]⟩ [] := by unfold xvS; rw [if_pos (by omega)]
        rw [hxv] at hen hxsz
        have hde := hdc (.mk 22 0 ⟨#[]⟩ []) (by show 0 + 0 + 1 + Val.sz (.mk 22 0 ⟨#[]⟩ []) ≤ _; omega)
        rw [if_neg h5', ba_e0] at hWh
        rw [← fine1 _ _ _ h5'] at hO
        have hBn : ordB body ((ksL ord).take 1) = W := by rw [hB]; exact e0_app _
        have hLn : lastS ((ksL ord).take 1) (-1) = k := hL
        have hOn := hO
        have hWn : wholeS body ((ksL ord).take 1) = e0 := hWh
        have hz0 : e0.size = 0 := rfl
        simp only [show ordS (List.take 0 (ksL ord)) (-1) = true by rfl, show lastS (List.take 0 (ksL ord)) (-1) = -1 by rfl, Bool.true_and, Int.reduceBEq, Int.reduceNeg, Bool.or_false] at hOn
        cases mp with
        | false =>
          simp +contextual (maxSteps := 10000000) only [go_sem, hlt0, hix, hkx, hkm, m23, u64k, u64k2, n6, c0, m22, c5, hde, hen, w1, w3]
          exact ih m _ _ (by omega) ⟨1, by omega, .b (l := (ksL ord).take (1)) (j := 1) (by omega) (by omega) rfl (by rw [hWn]; exact hz0) (by rw [hBn, hOn, hLn]) (by rw [hBn])⟩
        | true =>
          by_cases hq0 : 0 + 1 = ord.size
          · have hq : ((0 : Int) == (ord.size : Int) - 1) = true := by rw [beq_iff_eq]; omega
            simp +contextual (maxSteps := 10000000) only [go_sem, hlt0, hix, hkx, hkm, m23, u64k, u64k2, n6, c0, m22, c5, b5, wj, hq, n5, hdn, hem, v1, v3]
            exact ih m _ _ (by omega) ⟨1, by omega, .d (l := []) (k := k) (B0 := W2) (j := 1) (by omega) rfl (by rw [show ord.size - 1 = 0 by omega]; rfl) hok h5' (by rw [hN]; exact (e0_app _).symm) rfl rfl rfl⟩
          · have hq : ((0 : Int) == (ord.size : Int) - 1) = false := by rw [beq_eq_false_iff_ne]; omega
            simp +contextual (maxSteps := 10000000) only [go_sem, hlt0, hix, hkx, hkm, m23, u64k, u64k2, n6, c0, m22, c5, b5, wj, hq, hde, hen, w1, w3]
            exact ih m _ _ (by omega) ⟨1, by omega, .b (l := (ksL ord).take (1)) (j := 1) (by omega) (by omega) rfl (by rw [hWn]; exact hz0) (by rw [hBn, hOn, hLn]) (by rw [hBn])⟩
      have c0 : (k == 0) = false := by rw [beq_eq_false_iff_ne]; exact h0
      by_cases h3 : k = 3
      · have c3 : (k == 3) = true := by rw [h3]; rfl
        have h5' : k ≠ 5 := by omega
        have c5 : (k == 5) = false := by rw [beq_eq_false_iff_ne]; exact h5'
        have b5 : (k != 5) = true := by rw [bne_iff_ne]; exact h5'
        have hxv : xvS k body = .mk 22 0 ⟨#[]⟩ [] := by unfold xvS; rw [if_pos (by omega)]
        rw [hxv] at hen hxsz
        have hde := hdc (.mk 22 0 ⟨#[]⟩ []) (by show 0 + 0 + 1 + Val.sz (.mk 22 0 ⟨#[]⟩ []) ≤ _; omega)
        rw [if_neg h5', ba_e0] at hWh
        rw [← fine1 _ _ _ h5'] at hO
        have hBn : ordB body ((ksL ord).take 1) = W := by rw [hB]; exact e0_app _
        have hLn : lastS ((ksL ord).take 1) (-1) = k := hL
        have hOn := hO
        have hWn : wholeS body ((ksL ord).take 1) = e0 := hWh
        have hz0 : e0.size = 0 := rfl
        simp only [show ordS (List.take 0 (ksL ord)) (-1) = true by rfl, show lastS (List.take 0 (ksL ord)) (-1) = -1 by rfl, Bool.true_and, Int.reduceBEq, Int.reduceNeg, Bool.or_false] at hOn
        cases mp with
        | false =>
          simp +contextual (maxSteps := 10000000) only [go_sem, hlt0, hix, hkx, hkm, m23, u64k, u64k2, n6, c0, c3, m22, c5, hde, hen, w1, w3]
          exact ih m _ _ (by omega) ⟨1, by omega, .b (l := (ksL ord).take (1)) (j := 1) (by omega) (by omega) rfl (by rw [hWn]; exact hz0) (by rw [hBn, hOn, hLn]) (by rw [hBn])⟩
        | true =>
          by_cases hq0 : 0 + 1 = ord.size
          · have hq : ((0 : Int) == (ord.size : Int) - 1) = true := by rw [beq_iff_eq]; omega
            simp +contextual (maxSteps := 10000000) only [go_sem, hlt0, hix, hkx, hkm, m23, u64k, u64k2, n6, c0, c3, m22, c5, b5, wj, hq, n5, hdn, hem, v1, v3]
            exact ih m _ _ (by omega) ⟨1, by omega, .d (l := []) (k := k) (B0 := W2) (j := 1) (by omega) rfl (by rw [show ord.size - 1 = 0 by omega]; rfl) hok h5' (by rw [hN]; exact (e0_app _).symm) rfl rfl rfl⟩
          · have hq : ((0 : Int) == (ord.size : Int) - 1) = false := by rw [beq_eq_false_iff_ne]; omega
            simp +contextual (maxSteps := 10000000) only [go_sem, hlt0, hix, hkx, hkm, m23, u64k, u64k2, n6, c0, c3, m22, c5, b5, wj, hq, hde, hen, w1, w3]
            exact ih m _ _ (by omega) ⟨1, by omega, .b (l := (ksL ord).take (1)) (j := 1) (by omega) (by omega) rfl (by rw [hWn]; exact hz0) (by rw [hBn, hOn, hLn]) (by rw [hBn])⟩
      have c3 : (k == 3) = false := by rw [beq_eq_false_iff_ne]; exact h3
      by_cases h6 : k = 6
      · have c6 : (k == 6) = true := by rw [h6]; rfl
        have h5' : k ≠ 5 := by omega
        have c5 : (k == 5) = false := by rw [beq_eq_false_iff_ne]; exact h5'
        have b5 : (k != 5) = true := by rw [bne_iff_ne]; exact h5'
        have hxv : xvS k body = .mk 22 0 ⟨#[]⟩ [] := by unfold xvS; rw [if_pos (by omega)]
        rw [hxv] at hen hxsz
        have hde := hdc (.mk 22 0 ⟨#[]⟩ []) (by show 0 + 0 + 1 + Val.sz (.mk 22 0 ⟨#[]⟩ []) ≤ _; omega)
        rw [if_neg h5', ba_e0] at hWh
        rw [← fine1 _ _ _ h5'] at hO
        have hBn : ordB body ((ksL ord).take 1) = W := by rw [hB]; exact e0_app _
        have hLn : lastS ((ksL ord).take 1) (-1) = k := hL
        have hOn := hO
        have hWn : wholeS body ((ksL ord).take 1) = e0 := hWh
        have hz0 : e0.size = 0 := rfl
        simp only [show ordS (List.take 0 (ksL ord)) (-1) = true by rfl, show lastS (List.take 0 (ksL ord)) (-1) = -1 by rfl, Bool.true_and, Int.reduceBEq, Int.reduceNeg, Bool.or_false] at hOn
        cases mp with
        | false =>
          simp +contextual (maxSteps := 10000000) only [go_sem, hlt0, hix, hkx, hkm, m23, u64k, u64k2, n6, c0, c3, c6, m22, c5, hde, hen, w1, w3]
          exact ih m _ _ (by omega) ⟨1, by omega, .b (l := (ksL ord).take (1)) (j := 1) (by omega) (by omega) rfl (by rw [hWn]; exact hz0) (by rw [hBn, hOn, hLn]) (by rw [hBn])⟩
        | true =>
          by_cases hq0 : 0 + 1 = ord.size
          · have hq : ((0 : Int) == (ord.size : Int) - 1) = true := by rw [beq_iff_eq]; omega
            simp +contextual (maxSteps := 10000000) only [go_sem, hlt0, hix, hkx, hkm, m23, u64k, u64k2, n6, c0, c3, c6, m22, c5, b5, wj, hq, n5, hdn, hem, v1, v3]
            exact ih m _ _ (by omega) ⟨1, by omega, .d (l := []) (k := k) (B0 := W2) (j := 1) (by omega) rfl (by rw [show ord.size - 1 = 0 by omega]; rfl) hok h5' (by rw [hN]; exact (e0_app _).symm) rfl rfl rfl⟩
          · have hq : ((0 : Int) == (ord.size : Int) - 1) = false := by rw [beq_eq_false_iff_ne]; omega
            simp +contextual (maxSteps := 10000000) only [go_sem, hlt0, hix, hkx, hkm, m23, u64k, u64k2, n6, c0, c3, c6, m22, c5, b5, wj, hq, hde, hen, w1, w3]
            exact ih m _ _ (by omega) ⟨1, by omega, .b (l := (ksL ord).take (1)) (j := 1) (by omega) (by omega) rfl (by rw [hWn]; exact hz0) (by rw [hBn, hOn, hLn]) (by rw [hBn])⟩
      have c6 : (k == 6) = false := by rw [beq_eq_false_iff_ne]; exact h6
      by_cases h5 : k = 5
      · have c5 : (k == 5) = true := by rw [h5]; rfl
        have b5 : (k != 5) = false := by rw [h5]; rfl
        have b6 : (k != 6) = true := by rw [h5]; rfl
        have b7 : (k != 7) = true := by rw [h5]; rfl
        have b9 : (k != 9) = true := by rw [h5]; rfl
        have hxv : xvS k body = .mk 19 0 body [] := by unfold xvS; rw [if_neg (by omega), if_pos h5]
        rw [hxv] at hen hxsz
        have hde := hdc (.mk 19 0 body []) (by show 0 + 0 + 1 + Val.sz (.mk 19 0 body []) ≤ _; omega)
        rw [if_pos h5] at hWh
        rw [← fine5 _ _ _ h5] at hO
        have hBn : ordB body ((ksL ord).take 1) = W := by rw [hB]; exact e0_app _
        have hLn : lastS ((ksL ord).take 1) (-1) = k := hL
        have hOn := hO
        have hWn : wholeS body ((ksL ord).take 1) = body := by rw [hWh]; exact e0_app _
        simp only [show ordS (List.take 0 (ksL ord)) (-1) = true by rfl, show lastS (List.take 0 (ksL ord)) (-1) = -1 by rfl, Bool.true_and, Int.reduceBEq, Int.reduceNeg, Bool.or_false] at hOn
        cases mp with
        | false =>
          by_cases hb0 : body.size = 0
          · have hz0 := hb0
            simp +contextual (maxSteps := 10000000) only [go_sem, hlt0, hix, hkx, hkm, m23, u64k, u64k2, n6, c0, c3, c6, c5, t19, b6, b7, b9, hde, hen, w1, w3, hb0]
            exact ih m _ _ (by omega) ⟨1, by omega, .b (l := (ksL ord).take (1)) (j := 1) (by omega) (by omega) rfl (by rw [hWn]; exact hz0) (by rw [hBn, hOn, hLn]) (by rw [hBn])⟩
          · have hz1 := hb0
            simp +contextual (maxSteps := 10000000) only [go_sem, hlt0, hix, hkx, hkm, m23, u64k, u64k2, n6, c0, c3, c6, c5, t19, b6, b7, b9, hde, hen, w1, w3, hb0, hbn]
            exact ih m _ _ (by omega) ⟨1, by omega, .c (l := (ksL ord).take (1)) (j := 1) (by omega) (by omega) rfl (by rw [hWn]; exact hz1) (by rw [hBn, hOn, hLn, hWn]) (by rw [hBn, hWn])⟩
        | true =>
          by_cases hb0 : body.size = 0
          · have hz0 := hb0
            simp +contextual (maxSteps := 10000000) only [go_sem, hlt0, hix, hkx, hkm, m23, u64k, u64k2, n6, c0, c3, c6, c5, t19, b6, b7, b9, b5, hde, hen, w1, w3, hb0]
            exact ih m _ _ (by omega) ⟨1, by omega, .b (l := (ksL ord).take (1)) (j := 1) (by omega) (by omega) rfl (by rw [hWn]; exact hz0) (by rw [hBn, hOn, hLn]) (by rw [hBn])⟩
          · have hz1 := hb0
            simp +contextual (maxSteps := 10000000) only [go_sem, hlt0, hix, hkx, hkm, m23, u64k, u64k2, n6, c0, c3, c6, c5, t19, b6, b7, b9, b5, hde, hen, w1, w3, hb0, hbn]
            exact ih m _ _ (by omega) ⟨1, by omega, .c (l := (ksL ord).take (1)) (j := 1) (by omega) (by omega) rfl (by rw [hWn]; exact hz1) (by rw [hBn, hOn, hLn, hWn]) (by rw [hBn, hWn])⟩
      have c5 : (k == 5) = false := by rw [beq_eq_false_iff_ne]; exact h5
      have h5' : k ≠ 5 := h5
      have b5 : (k != 5) = true := by rw [bne_iff_ne]; exact h5'
      have hxv : xvS k body = .mk 23 0 ⟨#[]⟩ [] := by unfold xvS; rw [if_neg (by omega), if_neg h5]
      rw [hxv] at hen hxsz
      have hde := hdc (.mk 23 0 ⟨#[]⟩ []) (by show 0 + 0 + 1 + Val.sz (.mk 23 0 ⟨#[]⟩ []) ≤ _; omega)
      rw [if_neg h5', ba_e0] at hWh
      rw [← fine1 _ _ _ h5'] at hO
      have hBn : ordB body ((ksL ord).take 1) = W := by rw [hB]; exact e0_app _
      have hLn : lastS ((ksL ord).take 1) (-1) = k := hL
      have hOn := hO
      have hWn : wholeS body ((ksL ord).take 1) = e0 := hWh
      have hz0 : e0.size = 0 := rfl
      simp only [show ordS (List.take 0 (ksL ord)) (-1) = true by rfl, show lastS (List.take 0 (ksL ord)) (-1) = -1 by rfl, Bool.true_and, Int.reduceBEq, Int.reduceNeg, Bool.or_false] at hOn
      cases mp with
      | false =>
        simp +contextual (maxSteps := 10000000) only [go_sem, hlt0, hix, hkx, hkm, m23, u64k, u64k2, n6, c0, c3, c6, c5, hde, hen, w1, w3]
        exact ih m _ _ (by omega) ⟨1, by omega, .b (l := (ksL ord).take (1)) (j := 1) (by omega) (by omega) rfl (by rw [hWn]; exact hz0) (by rw [hBn, hOn, hLn]) (by rw [hBn])⟩
      | true =>
        by_cases hq0 : 0 + 1 = ord.size
        · have hq : ((0 : Int) == (ord.size : Int) - 1) = true := by rw [beq_iff_eq]; omega
          simp +contextual (maxSteps := 10000000) only [go_sem, hlt0, hix, hkx, hkm, m23, u64k, u64k2, n6, c0, c3, c6, c5, b5, wj, hq, n5, hdn, hem, v1, v3]
          exact ih m _ _ (by omega) ⟨1, by omega, .d (l := []) (k := k) (B0 := W2) (j := 1) (by omega) rfl (by rw [show ord.size - 1 = 0 by omega]; rfl) hok h5' (by rw [hN]; exact (e0_app _).symm) rfl rfl rfl⟩
        · have hq : ((0 : Int) == (ord.size : Int) - 1) = false := by rw [beq_eq_false_iff_ne]; omega
          simp +contextual (maxSteps := 10000000) only [go_sem, hlt0, hix, hkx, hkm, m23, u64k, u64k2, n6, c0, c3, c6, c5, b5, wj, hq, hde, hen, w1, w3]
          exact ih m _ _ (by omega) ⟨1, by omega, .b (l := (ksL ord).take (1)) (j := 1) (by omega) (by omega) rfl (by rw [hWn]; exact hz0) (by rw [hBn, hOn, hLn]) (by rw [hBn])⟩
    | @b _ j l _ _ hi hj hli hz hf he =>
      subst hf he hj
      rw [← hli] at w5 w6 v5
      unfold ordF someL
      by_cases h0 : k = 0
      · have c0 : (k == 0) = true := by rw [h0]; rfl
        have h5' : k ≠ 5 := by omega
        have c5 : (k == 5) = false := by rw [beq_eq_false_iff_ne]; exact h5'
        have b5 : (k != 5) = true := by rw [bne_iff_ne]; exact h5'
        have hxv : xvS k body = .mk 22 0 ⟨#[]⟩ [] := by unfold xvS; rw [if_pos (by omega)]
        rw [hxv] at hen hxsz
        have hde := hdc (.mk 22 0 ⟨#[]⟩ []) (by show 0 + 0 + 1 + Val.sz (.mk 22 0 ⟨#[]⟩ []) ≤ _; omega)
        rw [if_neg h5', ba_e0] at hWh
        rw [← fine1 _ _ _ h5'] at hO
        have hBn := hB
        have hLn := hL
        have hOn := hO
        have hWn := hWh
        rw [← hli] at hBn hOn hWn
        have hz0 := hz
        cases mp with
        | false =>
          simp +contextual (maxSteps := 10000000) only [go_sem, hlt, hix, hkx, hkm, m23, u64k, u64k2, n6, c0, m22, c5, hde, hen, w1, w3, w5, bytesD_one, wrap_i64 (n := (i : Int) + 1) (by omega) (by omega)]
          exact ih m _ _ (by omega) ⟨i + 1, by omega, .b (l := (ksL ord).take (i + 1)) (j := (i : Int) + 1) (by omega) (by omega) rfl (by rw [hWn]; exact hz0) (by rw [hBn, hOn, hLn, ByteArray.size_append]) (by rw [hBn])⟩
        | true =>
          by_cases hq0 : i + 1 = ord.size
          · have hq : ((i : Int) == (ord.size : Int) - 1) = true := by rw [beq_iff_eq]; omega
            simp +contextual (maxSteps := 10000000) only [go_sem, hlt, hix, hkx, hkm, m23, u64k, u64k2, n6, c0, m22, c5, b5, wj, hq, n5, hdn, hem, v1, v3, v5, bytesD_one, wrap_i64 (n := (i : Int) + 1) (by omega) (by omega)]
            exact ih m _ _ (by omega) ⟨i + 1, by omega, .d (l := l) (k := k) (B0 := ordB body l ++ W2) (j := (i : Int) + 1) (by omega) (by omega) (by rw [hli, show ord.size - 1 = i by omega]) hok h5' (by rw [hN]) hz (by rw [ByteArray.size_append]) rfl⟩
          · have hq : ((i : Int) == (ord.size : Int) - 1) = false := by rw [beq_eq_false_iff_ne]; omega
            simp +contextual (maxSteps := 10000000) only [go_sem, hlt, hix, hkx, hkm, m23, u64k, u64k2, n6, c0, m22, c5, b5, wj, hq, hde, hen, w1, w3, w5, bytesD_one, wrap_i64 (n := (i : Int) + 1) (by omega) (by omega)]
            exact ih m _ _ (by omega) ⟨i + 1, by omega, .b (l := (ksL ord).take (i + 1)) (j := (i : Int) + 1) (by omega) (by omega) rfl (by rw [hWn]; exact hz0) (by rw [hBn, hOn, hLn, ByteArray.size_append]) (by rw [hBn])⟩
      have c0 : (k == 0) = false := by rw [beq_eq_false_iff_ne]; exact h0
      by_cases h3 : k = 3
      · have c3 : (k == 3) = true := by rw [h3]; rfl
        have h5' : k ≠ 5 := by omega
        have c5 : (k == 5) = false := by rw [beq_eq_false_iff_ne]; exact h5'
        have b5 : (k != 5) = true := by rw [bne_iff_ne]; exact h5'
        have hxv : xvS k body = .mk 22 0 ⟨#[]⟩ [] := by unfold xvS; rw [if_pos (by omega)]
        rw [hxv] at hen hxsz
        have hde := hdc (.mk 22 0 ⟨#[]⟩ []) (by show 0 + 0 + 1 + Val.sz (.mk 22 0 ⟨#[]⟩ []) ≤ _; omega)
        rw [if_neg h5', ba_e0] at hWh
        rw [← fine1 _ _ _ h5'] at hO
        have hBn := hB
        have hLn := hL
        have hOn := hO
        have hWn := hWh
        rw [← hli] at hBn hOn hWn
        have hz0 := hz
        cases mp with
        | false =>
          simp +contextual (maxSteps := 10000000) only [go_sem, hlt, hix, hkx, hkm, m23, u64k, u64k2, n6, c0, c3, m22, c5, hde, hen, w1, w3, w5, bytesD_one, wrap_i64 (n := (i : Int) + 1) (by omega) (by omega)]
          exact ih m _ _ (by omega) ⟨i + 1, by omega, .b (l := (ksL ord).take (i + 1)) (j := (i : Int) + 1) (by omega) (by omega) rfl (by rw [hWn]; exact hz0) (by rw [hBn, hOn, hLn, ByteArray.size_append]) (by rw [hBn])⟩
        | true =>
          by_cases hq0 : i + 1 = ord.size
          · have hq : ((i : Int) == (ord.size : Int) - 1) = true := by rw [beq_iff_eq]; omega
            simp +contextual (maxSteps := 10000000) only [go_sem, hlt, hix, hkx, hkm, m23, u64k, u64k2, n6, c0, c3, m22, c5, b5, wj, hq, n5, hdn, hem, v1, v3, v5, bytesD_one, wrap_i64 (n := (i : Int) + 1) (by omega) (by omega)]
            exact ih m _ _ (by omega) ⟨i + 1, by omega, .d (l := l) (k := k) (B0 := ordB body l ++ W2) (j := (i : Int) + 1) (by omega) (by omega) (by rw [hli, show ord.size - 1 = i by omega]) hok h5' (by rw [hN]) hz (by rw [ByteArray.size_append]) rfl⟩
          · have hq : ((i : Int) == (ord.size : Int) - 1) = false := by rw [beq_eq_false_iff_ne]; omega
            simp +contextual (maxSteps := 10000000) only [go_sem, hlt, hix, hkx, hkm, m23, u64k, u64k2, n6, c0, c3, m22, c5, b5, wj, hq, hde, hen, w1, w3, w5, bytesD_one, wrap_i64 (n := (i : Int) + 1) (by omega) (by omega)]
            exact ih m _ _ (by omega) ⟨i + 1, by omega, .b (l := (ksL ord).take (i + 1)) (j := (i : Int) + 1) (by omega) (by omega) rfl (by rw [hWn]; exact hz0) (by rw [hBn, hOn, hLn, ByteArray.size_append]) (by rw [hBn])⟩
      have c3 : (k == 3) = false := by rw [beq_eq_false_iff_ne]; exact h3
      by_cases h6 : k = 6
      · have c6 : (k == 6) = true := by rw [h6]; rfl
        have h5' : k ≠ 5 := by omega
        have c5 : (k == 5) = false := by rw [beq_eq_false_iff_ne]; exact h5'
        have b5 : (k != 5) = true := by rw [bne_iff_ne]; exact h5'
        have hxv : xvS k body = .mk 22 0 ⟨#[]⟩ [] := by unfold xvS; rw [if_pos (by omega)]
        rw [hxv] at hen hxsz
        have hde := hdc (.mk 22 0 ⟨#[]⟩ []) (by show 0 + 0 + 1 + Val.sz (.mk 22 0 ⟨#[]⟩ []) ≤ _; omega)
        rw [if_neg h5', ba_e0] at hWh
        rw [← fine1 _ _ _ h5'] at hO
        have hBn := hB
        have hLn := hL
        have hOn := hO
        have hWn := hWh
        rw [← hli] at hBn hOn hWn
        have hz0 := hz
        cases mp with
        | false =>
          simp +contextual (maxSteps := 10000000) only [go_sem, hlt, hix, hkx, hkm, m23, u64k, u64k2, n6, c0, c3, c6, m22, c5, hde, hen, w1, w3, w5, bytesD_one, wrap_i64 (n := (i : Int) + 1) (by omega) (by omega)]
          exact ih m _ _ (by omega) ⟨i + 1, by omega, .b (l := (ksL ord).take (i + 1)) (j := (i : Int) + 1) (by omega) (by omega) rfl (by rw [hWn]; exact hz0) (by rw [hBn, hOn, hLn, ByteArray.size_append]) (by rw [hBn])⟩
        | true =>
          by_cases hq0 : i + 1 = ord.size
          · have hq : ((i : Int) == (ord.size : Int) - 1) = true := by rw [beq_iff_eq]; omega
            simp +contextual (maxSteps := 10000000) only [go_sem, hlt, hix, hkx, hkm, m23, u64k, u64k2, n6, c0, c3, c6, m22, c5, b5, wj, hq, n5, hdn, hem, v1, v3, v5, bytesD_one, wrap_i64 (n := (i : Int) + 1) (by omega) (by omega)]
            exact ih m _ _ (by omega) ⟨i + 1, by omega, .d (l := l) (k := k) (B0 := ordB body l ++ W2) (j := (i : Int) + 1) (by omega) (by omega) (by rw [hli, show ord.size - 1 = i by omega]) hok h5' (by rw [hN]) hz (by rw [ByteArray.size_append]) rfl⟩
          · have hq : ((i : Int) == (ord.size : Int) - 1) = false := by rw [beq_eq_false_iff_ne]; omega
            simp +contextual (maxSteps := 10000000) only [go_sem, hlt, hix, hkx, hkm, m23, u64k, u64k2, n6, c0, c3, c6, m22, c5, b5, wj, hq, hde, hen, w1, w3, w5, bytesD_one, wrap_i64 (n := (i : Int) + 1) (by omega) (by omega)]
            exact ih m _ _ (by omega) ⟨i + 1, by omega, .b (l := (ksL ord).take (i + 1)) (j := (i : Int) + 1) (by omega) (by omega) rfl (by rw [hWn]; exact hz0) (by rw [hBn, hOn, hLn, ByteArray.size_append]) (by rw [hBn])⟩
      have c6 : (k == 6) = false := by rw [beq_eq_false_iff_ne]; exact h6
      by_cases h5 : k = 5
      · have c5 : (k == 5) = true := by rw [h5]; rfl
        have b5 : (k != 5) = false := by rw [h5]; rfl
        have b6 : (k != 6) = true := by rw [h5]; rfl
        have b7 : (k != 7) = true := by rw [h5]; rfl
        have b9 : (k != 9) = true := by rw [h5]; rfl
        have hxv : xvS k body = .mk 19 0 body [] := by unfold xvS; rw [if_neg (by omega), if_pos h5]
        rw [hxv] at hen hxsz
        have hde := hdc (.mk 19 0 body []) (by show 0 + 0 + 1 + Val.sz (.mk 19 0 body []) ≤ _; omega)
        rw [if_pos h5] at hWh
        rw [← fine5 _ _ _ h5] at hO
        have hBn := hB
        have hLn := hL
        have hOn := hO
        have hWn := hWh
        rw [← hli] at hBn hOn hWn
        cases mp with
        | false =>
          by_cases hb0 : body.size = 0
          · have he0 : body = e0 := ByteArray.ext (Array.eq_empty_of_size_eq_zero hb0)
            have hWn2 : wholeS body ((ksL ord).take (i + 1)) = wholeS body l := by rw [hWn]; exact (congrArg (wholeS body l ++ ·) he0).trans (ba_e0 _)
            clear hWn; have hWn := hWn2
            have hz0 := hz
            simp +contextual (maxSteps := 10000000) only [go_sem, hlt, hix, hkx, hkm, m23, u64k, u64k2, n6, c0, c3, c6, c5, t19, b6, b7, b9, hde, hen, w1, w3, w5, bytesD_one, hb0, wrap_i64 (n := (i : Int) + 1) (by omega) (by omega)]
            exact ih m _ _ (by omega) ⟨i + 1, by omega, .b (l := (ksL ord).take (i + 1)) (j := (i : Int) + 1) (by omega) (by omega) rfl (by rw [hWn]; exact hz0) (by rw [hBn, hOn, hLn, ByteArray.size_append]) (by rw [hBn])⟩
          · have hz1 : ¬ (wholeS body l ++ body).size = 0 := by rw [ByteArray.size_append]; omega
            have hle : wholeS body l = e0 := ByteArray.ext (Array.eq_empty_of_size_eq_zero hz)
            have hWn2 : wholeS body ((ksL ord).take (i + 1)) = body := by rw [hWn]; exact (congrArg (· ++ body) hle).trans (e0_app _)
            clear hWn hz1; have hWn := hWn2; have hz1 := hb0
            simp +contextual (maxSteps := 10000000) only [go_sem, hlt, hix, hkx, hkm, m23, u64k, u64k2, n6, c0, c3, c6, c5, t19, b6, b7, b9, hde, hen, w1, w3, w5, bytesD_one, hb0, hbn, wrap_i64 (n := (i : Int) + 1) (by omega) (by omega)]
            exact ih m _ _ (by omega) ⟨i + 1, by omega, .c (l := (ksL ord).take (i + 1)) (j := (i : Int) + 1) (by omega) (by omega) rfl (by rw [hWn]; exact hz1) (by rw [hBn, hOn, hLn, hWn, ByteArray.size_append]) (by rw [hBn, hWn])⟩
        | true =>
          by_cases hb0 : body.size = 0
          · have he0 : body = e0 := ByteArray.ext (Array.eq_empty_of_size_eq_zero hb0)
            have hWn2 : wholeS body ((ksL ord).take (i + 1)) = wholeS body l := by rw [hWn]; exact (congrArg (wholeS body l ++ ·) he0).trans (ba_e0 _)
            clear hWn; have hWn := hWn2
            have hz0 := hz
            simp +contextual (maxSteps := 10000000) only [go_sem, hlt, hix, hkx, hkm, m23, u64k, u64k2, n6, c0, c3, c6, c5, t19, b6, b7, b9, b5, hde, hen, w1, w3, w5, bytesD_one, hb0, wrap_i64 (n := (i : Int) + 1) (by omega) (by omega)]
            exact ih m _ _ (by omega) ⟨i + 1, by omega, .b (l := (ksL ord).take (i + 1)) (j := (i : Int) + 1) (by omega) (by omega) rfl (by rw [hWn]; exact hz0) (by rw [hBn, hOn, hLn, ByteArray.size_append]) (by rw [hBn])⟩
          · have hz1 : ¬ (wholeS body l ++ body).size = 0 := by rw [ByteArray.size_append]; omega
            have hle : wholeS body l = e0 := ByteArray.ext (Array.eq_empty_of_size_eq_zero hz)
            have hWn2 : wholeS body ((ksL ord).take (i + 1)) = body := by rw [hWn]; exact (congrArg (· ++ body) hle).trans (e0_app _)
            clear hWn hz1; have hWn := hWn2; have hz1 := hb0
            simp +contextual (maxSteps := 10000000) only [go_sem, hlt, hix, hkx, hkm, m23, u64k, u64k2, n6, c0, c3, c6, c5, t19, b6, b7, b9, b5, hde, hen, w1, w3, w5, bytesD_one, hb0, hbn, wrap_i64 (n := (i : Int) + 1) (by omega) (by omega)]
            exact ih m _ _ (by omega) ⟨i + 1, by omega, .c (l := (ksL ord).take (i + 1)) (j := (i : Int) + 1) (by omega) (by omega) rfl (by rw [hWn]; exact hz1) (by rw [hBn, hOn, hLn, hWn, ByteArray.size_append]) (by rw [hBn, hWn])⟩
      have c5 : (k == 5) = false := by rw [beq_eq_false_iff_ne]; exact h5
      have h5' : k ≠ 5 := h5
      have b5 : (k != 5) = true := by rw [bne_iff_ne]; exact h5'
      have hxv : xvS k body = .mk 23 0 ⟨#[]⟩ [] := by unfold xvS; rw [if_neg (by omega), if_neg h5]
      rw [hxv] at hen hxsz
      have hde := hdc (.mk 23 0 ⟨#[]⟩ []) (by show 0 + 0 + 1 + Val.sz (.mk 23 0 ⟨#[]⟩ []) ≤ _; omega)
      rw [if_neg h5', ba_e0] at hWh
      rw [← fine1 _ _ _ h5'] at hO
      have hBn := hB
      have hLn := hL
      have hOn := hO
      have hWn := hWh
      rw [← hli] at hBn hOn hWn
      have hz0 := hz
      cases mp with
      | false =>
        simp +contextual (maxSteps := 10000000) only [go_sem, hlt, hix, hkx, hkm, m23, u64k, u64k2, n6, c0, c3, c6, c5, hde, hen, w1, w3, w5, bytesD_one, wrap_i64 (n := (i : Int) + 1) (by omega) (by omega)]
        exact ih m _ _ (by omega) ⟨i + 1, by omega, .b (l := (ksL ord).take (i + 1)) (j := (i : Int) + 1) (by omega) (by omega) rfl (by rw [hWn]; exact hz0) (by rw [hBn, hOn, hLn, ByteArray.size_append]) (by rw [hBn])⟩
      | true =>
        by_cases hq0 : i + 1 = ord.size
        · have hq : ((i : Int) == (ord.size : Int) - 1) = true := by rw [beq_iff_eq]; omega
          simp +contextual (maxSteps := 10000000) only [go_sem, hlt, hix, hkx, hkm, m23, u64k, u64k2, n6, c0, c3, c6, c5, b5, wj, hq, n5, hdn, hem, v1, v3, v5, bytesD_one, wrap_i64 (n := (i : Int) + 1) (by omega) (by omega)]
          exact ih m _ _ (by omega) ⟨i + 1, by omega, .d (l := l) (k := k) (B0 := ordB body l ++ W2) (j := (i : Int) + 1) (by omega) (by omega) (by rw [hli, show ord.size - 1 = i by omega]) hok h5' (by rw [hN]) hz (by rw [ByteArray.size_append]) rfl⟩
        · have hq : ((i : Int) == (ord.size : Int) - 1) = false := by rw [beq_eq_false_iff_ne]; omega
          simp +contextual (maxSteps := 10000000) only [go_sem, hlt, hix, hkx, hkm, m23, u64k, u64k2, n6, c0, c3, c6, c5, b5, wj, hq, hde, hen, w1, w3, w5, bytesD_one, wrap_i64 (n := (i : Int) + 1) (by omega) (by omega)]
          exact ih m _ _ (by omega) ⟨i + 1, by omega, .b (l := (ksL ord).take (i + 1)) (j := (i : Int) + 1) (by omega) (by omega) rfl (by rw [hWn]; exact hz0) (by rw [hBn, hOn, hLn, ByteArray.size_append]) (by rw [hBn])⟩
    | @c _ j l _ _ hi hj hli hz hf he =>
      subst hf he hj
      rw [← hli] at w5 w6 v5
      unfold ordF someL
      by_cases h0 : k = 0
      · have c0 : (k == 0) = true := by rw [h0]; rfl
        have h5' : k ≠ 5 := by omega
        have c5 : (k == 5) = false := by rw [beq_eq_false_iff_ne]; exact h5'
        have b5 : (k != 5) = true := by rw [bne_iff_ne]; exact h5'
        have hxv : xvS k body = .mk 22 0 ⟨#[]⟩ [] := by unfold xvS; rw [if_pos (by omega)]
        rw [hxv] at hen hxsz
        have hde := hdc (.mk 22 0 ⟨#[]⟩ []) (by show 0 + 0 + 1 + Val.sz (.mk 22 0 ⟨#[]⟩ []) ≤ _; omega)
        rw [if_neg h5', ba_e0] at hWh
        rw [← fine1 _ _ _ h5'] at hO
        have hBn := hB
        have hLn := hL
        have hOn := hO
        have hWn := hWh
        rw [← hli] at hBn hOn hWn
        have hz1 := hz
        cases mp with
        | false =>
          simp +contextual (maxSteps := 10000000) only [go_sem, hlt, hix, hkx, hkm, m23, u64k, u64k2, n6, c0, m22, c5, hde, hen, w1, w3, w5, bytesD_one, wrap_i64 (n := (i : Int) + 1) (by omega) (by omega)]
          exact ih m _ _ (by omega) ⟨i + 1, by omega, .c (l := (ksL ord).take (i + 1)) (j := (i : Int) + 1) (by omega) (by omega) rfl (by rw [hWn]; exact hz1) (by rw [hBn, hOn, hLn, hWn, ByteArray.size_append]) (by rw [hBn, hWn])⟩
        | true =>
          by_cases hq0 : i + 1 = ord.size
          · have hq : ((i : Int) == (ord.size : Int) - 1) = true := by rw [beq_iff_eq]; omega
            simp +contextual (maxSteps := 10000000) only [go_sem, hlt, hix, hkx, hkm, m23, u64k, u64k2, n6, c0, m22, c5, b5, wj, hq, n5, hdn, hem, v1, v3, v5, bytesD_one, wrap_i64 (n := (i : Int) + 1) (by omega) (by omega)]
            exact ih m _ _ (by omega) ⟨i + 1, by omega, .e (l := l) (k := k) (B0 := ordB body l ++ W2) (j := (i : Int) + 1) (by omega) (by omega) (by rw [hli, show ord.size - 1 = i by omega]) hok h5' (by rw [hN]) hz (by rw [ByteArray.size_append]) rfl⟩
          · have hq : ((i : Int) == (ord.size : Int) - 1) = false := by rw [beq_eq_false_iff_ne]; omega
            simp +contextual (maxSteps := 10000000) only [go_sem, hlt, hix, hkx, hkm, m23, u64k, u64k2, n6, c0, m22, c5, b5, wj, hq, hde, hen, w1, w3, w5, bytesD_one, wrap_i64 (n := (i : Int) + 1) (by omega) (by omega)]
            exact ih m _ _ (by omega) ⟨i + 1, by omega, .c (l := (ksL ord).take (i + 1)) (j := (i : Int) + 1) (by omega) (by omega) rfl (by rw [hWn]; exact hz1) (by rw [hBn, hOn, hLn, hWn, ByteArray.size_append]) (by rw [hBn, hWn])⟩
      have c0 : (k == 0) = false := by rw [beq_eq_false_iff_ne]; exact h0
      by_cases h3 : k = 3
      · have c3 : (k == 3) = true := by rw [h3]; rfl
        have h5' : k ≠ 5 := by omega
        have c5 : (k == 5) = false := by rw [beq_eq_false_iff_ne]; exact h5'
        have b5 : (k != 5) = true := by rw [bne_iff_ne]; exact h5'
        have hxv : xvS k body = .mk 22 0 ⟨#[]⟩ [] := by unfold xvS; rw [if_pos (by omega)]
        rw [hxv] at hen hxsz
        have hde := hdc (.mk 22 0 ⟨#[]⟩ []) (by show 0 + 0 + 1 + Val.sz (.mk 22 0 ⟨#[]⟩ []) ≤ _; omega)
        rw [if_neg h5', ba_e0] at hWh
        rw [← fine1 _ _ _ h5'] at hO
        have hBn := hB
        have hLn := hL
        have hOn := hO
        have hWn := hWh
        rw [← hli] at hBn hOn hWn
        have hz1 := hz
        cases mp with
        | false =>
          simp +contextual (maxSteps := 10000000) only [go_sem, hlt, hix, hkx, hkm, m23, u64k, u64k2, n6, c0, c3, m22, c5, hde, hen, w1, w3, w5, bytesD_one, wrap_i64 (n := (i : Int) + 1) (by omega) (by omega)]
          exact ih m _ _ (by omega) ⟨i + 1, by omega, .c (l := (ksL ord).take (i + 1)) (j := (i : Int) + 1) (by omega) (by omega) rfl (by rw [hWn]; exact hz1) (by rw [hBn, hOn, hLn, hWn, ByteArray.size_append]) (by rw [hBn, hWn])⟩
        | true =>
          by_cases hq0 : i + 1 = ord.size
          · have hq : ((i : Int) == (ord.size : Int) - 1) = true := by rw [beq_iff_eq]; omega
            simp +contextual (maxSteps := 10000000) only [go_sem, hlt, hix, hkx, hkm, m23, u64k, u64k2, n6, c0, c3, m22, c5, b5, wj, hq, n5, hdn, hem, v1, v3, v5, bytesD_one, wrap_i64 (n := (i : Int) + 1) (by omega) (by omega)]
            exact ih m _ _ (by omega) ⟨i + 1, by omega, .e (l := l) (k := k) (B0 := ordB body l ++ W2) (j := (i : Int) + 1) (by omega) (by omega) (by rw [hli, show ord.size - 1 = i by omega]) hok h5' (by rw [hN]) hz (by rw [ByteArray.size_append]) rfl⟩
          · have hq : ((i : Int) == (ord.size : Int) - 1) = false := by rw [beq_eq_false_iff_ne]; omega
            simp +contextual (maxSteps := 10000000) only [go_sem, hlt, hix, hkx, hkm, m23, u64k, u64k2, n6, c0, c3, m22, c5, b5, wj, hq, hde, hen, w1, w3, w5, bytesD_one, wrap_i64 (n := (i : Int) + 1) (by omega) (by omega)]
            exact ih m _ _ (by omega) ⟨i + 1, by omega, .c (l := (ksL ord).take (i + 1)) (j := (i : Int) + 1) (by omega) (by omega) rfl (by rw [hWn]; exact hz1) (by rw [hBn, hOn, hLn, hWn, ByteArray.size_append]) (by rw [hBn, hWn])⟩
      have c3 : (k == 3) = false := by rw [beq_eq_false_iff_ne]; exact h3
      by_cases h6 : k = 6
      · have c6 : (k == 6) = true := by rw [h6]; rfl
        have h5' : k ≠ 5 := by omega
        have c5 : (k == 5) = false := by rw [beq_eq_false_iff_ne]; exact h5'
        have b5 : (k != 5) = true := by rw [bne_iff_ne]; exact h5'
        have hxv : xvS k body = .mk 22 0 ⟨#[]⟩ [] := by unfold xvS; rw [if_pos (by omega)]
        rw [hxv] at hen hxsz
        have hde := hdc (.mk 22 0 ⟨#[]⟩ []) (by show 0 + 0 + 1 + Val.sz (.mk 22 0 ⟨#[]⟩ []) ≤ _; omega)
        rw [if_neg h5', ba_e0] at hWh
        rw [← fine1 _ _ _ h5'] at hO
        have hBn := hB
        have hLn := hL
        have hOn := hO
        have hWn := hWh
        rw [← hli] at hBn hOn hWn
        have hz1 := hz
        cases mp with
        | false =>
          simp +contextual (maxSteps := 10000000) only [go_sem, hlt, hix, hkx, hkm, m23, u64k, u64k2, n6, c0, c3, c6, m22, c5, hde, hen, w1, w3, w5, bytesD_one, wrap_i64 (n := (i : Int) + 1) (by omega) (by omega)]
          exact ih m _ _ (by omega) ⟨i + 1, by omega, .c (l := (ksL ord).take (i + 1)) (j := (i : Int) + 1) (by omega) (by omega) rfl (by rw [hWn]; exact hz1) (by rw [hBn, hOn, hLn, hWn, ByteArray.size_append]) (by rw [hBn, hWn])⟩
        | true =>
          by_cases hq0 : i + 1 = ord.size
          · have hq : ((i : Int) == (ord.size : Int) - 1) = true := by rw [beq_iff_eq]; omega
            simp +contextual (maxSteps := 10000000) only [go_sem, hlt, hix, hkx, hkm, m23, u64k, u64k2, n6, c0, c3, c6, m22, c5, b5, wj, hq, n5, hdn, hem, v1, v3, v5, bytesD_one, wrap_i64 (n := (i : Int) + 1) (by omega) (by omega)]
            exact ih m _ _ (by omega) ⟨i + 1, by omega, .e (l := l) (k := k) (B0 := ordB body l ++ W2) (j := (i : Int) + 1) (by omega) (by omega) (by rw [hli, show ord.size - 1 = i by omega]) hok h5' (by rw [hN]) hz (by rw [ByteArray.size_append]) rfl⟩
          · have hq : ((i : Int) == (ord.size : Int) - 1) = false := by rw [beq_eq_false_iff_ne]; omega
            simp +contextual (maxSteps := 10000000) only [go_sem, hlt, hix, hkx, hkm, m23, u64k, u64k2, n6, c0, c3, c6, m22, c5, b5, wj, hq, hde, hen, w1, w3, w5, bytesD_one, wrap_i64 (n := (i : Int) + 1) (by omega) (by omega)]
            exact ih m _ _ (by omega) ⟨i + 1, by omega, .c (l := (ksL ord).take (i + 1)) (j := (i : Int) + 1) (by omega) (by omega) rfl (by rw [hWn]; exact hz1) (by rw [hBn, hOn, hLn, hWn, ByteArray.size_append]) (by rw [hBn, hWn])⟩
      have c6 : (k == 6) = false := by rw [beq_eq_false_iff_ne]; exact h6
      by_cases h5 : k = 5
      · have c5 : (k == 5) = true := by rw [h5]; rfl
        have b5 : (k != 5) = false := by rw [h5]; rfl
        have b6 : (k != 6) = true := by rw [h5]; rfl
        have b7 : (k != 7) = true := by rw [h5]; rfl
        have b9 : (k != 9) = true := by rw [h5]; rfl
        have hxv : xvS k body = .mk 19 0 body [] := by unfold xvS; rw [if_neg (by omega), if_pos h5]
        rw [hxv] at hen hxsz
        have hde := hdc (.mk 19 0 body []) (by show 0 + 0 + 1 + Val.sz (.mk 19 0 body []) ≤ _; omega)
        rw [if_pos h5] at hWh
        rw [← fine5 _ _ _ h5] at hO
        have hBn := hB
        have hLn := hL
        have hOn := hO
        have hWn := hWh
        rw [← hli] at hBn hOn hWn
        cases mp with
        | false =>
          by_cases hb0 : body.size = 0
          · have he0 : body = e0 := ByteArray.ext (Array.eq_empty_of_size_eq_zero hb0)
            have hWn2 : wholeS body ((ksL ord).take (i + 1)) = wholeS body l := by rw [hWn]; exact (congrArg (wholeS body l ++ ·) he0).trans (ba_e0 _)
            clear hWn; have hWn := hWn2
            have hz1 := hz
            simp +contextual (maxSteps := 10000000) only [go_sem, hlt, hix, hkx, hkm, m23, u64k, u64k2, n6, c0, c3, c6, c5, t19, b6, b7, b9, hde, hen, w1, w3, w5, bytesD_one, hb0, wrap_i64 (n := (i : Int) + 1) (by omega) (by omega)]
            exact ih m _ _ (by omega) ⟨i + 1, by omega, .c (l := (ksL ord).take (i + 1)) (j := (i : Int) + 1) (by omega) (by omega) rfl (by rw [hWn]; exact hz1) (by rw [hBn, hOn, hLn, hWn, ByteArray.size_append]) (by rw [hBn, hWn])⟩
          · have hz1 : ¬ (wholeS body l ++ body).size = 0 := by rw [ByteArray.size_append]; omega
            simp +contextual (maxSteps := 10000000) only [go_sem, hlt, hix, hkx, hkm, m23, u64k, u64k2, n6, c0, c3, c6, c5, t19, b6, b7, b9, hde, hen, w1, w3, w5, bytesD_one, hb0, hbn, w6, wrap_i64 (n := (i : Int) + 1) (by omega) (by omega)]
            exact ih m _ _ (by omega) ⟨i + 1, by omega, .c (l := (ksL ord).take (i + 1)) (j := (i : Int) + 1) (by omega) (by omega) rfl (by rw [hWn]; exact hz1) (by rw [hBn, hOn, hLn, hWn, ByteArray.size_append, ByteArray.size_append]) (by rw [hBn, hWn])⟩
        | true =>
          by_cases hb0 : body.size = 0
          · have he0 : body = e0 := ByteArray.ext (Array.eq_empty_of_size_eq_zero hb0)
            have hWn2 : wholeS body ((ksL ord).take (i + 1)) = wholeS body l := by rw [hWn]; exact (congrArg (wholeS body l ++ ·) he0).trans (ba_e0 _)
            clear hWn; have hWn := hWn2
            have hz1 := hz
            simp +contextual (maxSteps := 10000000) only [go_sem, hlt, hix, hkx, hkm, m23, u64k, u64k2, n6, c0, c3, c6, c5, t19, b6, b7, b9, b5, hde, hen, w1, w3, w5, bytesD_one, hb0, wrap_i64 (n := (i : Int) + 1) (by omega) (by omega)]
            exact ih m _ _ (by omega) ⟨i + 1, by omega, .c (l := (ksL ord).take (i + 1)) (j := (i : Int) + 1) (by omega) (by omega) rfl (by rw [hWn]; exact hz1) (by rw [hBn, hOn, hLn, hWn, ByteArray.size_append]) (by rw [hBn, hWn])⟩
          · have hz1 : ¬ (wholeS body l ++ body).size = 0 := by rw [ByteArray.size_append]; omega
            simp +contextual (maxSteps := 10000000) only [go_sem, hlt, hix, hkx, hkm, m23, u64k, u64k2, n6, c0, c3, c6, c5, t19, b6, b7, b9, b5, hde, hen, w1, w3, w5, bytesD_one, hb0, hbn, w6, wrap_i64 (n := (i : Int) + 1) (by omega) (by omega)]
            exact ih m _ _ (by omega) ⟨i + 1, by omega, .c (l := (ksL ord).take (i + 1)) (j := (i : Int) + 1) (by omega) (by omega) rfl (by rw [hWn]; exact hz1) (by rw [hBn, hOn, hLn, hWn, ByteArray.size_append, ByteArray.size_append]) (by rw [hBn, hWn])⟩
      have c5 : (k == 5) = false := by rw [beq_eq_false_iff_ne]; exact h5
      have h5' : k ≠ 5 := h5
      have b5 : (k != 5) = true := by rw [bne_iff_ne]; exact h5'
      have hxv : xvS k body = .mk 23 0 ⟨#[]⟩ [] := by unfold xvS; rw [if_neg (by omega), if_neg h5]
      rw [hxv] at hen hxsz
      have hde := hdc (.mk 23 0 ⟨#[]⟩ []) (by show 0 + 0 + 1 + Val.sz (.mk 23 0 ⟨#[]⟩ []) ≤ _; omega)
      rw [if_neg h5', ba_e0] at hWh
      rw [← fine1 _ _ _ h5'] at hO
      have hBn := hB
      have hLn := hL
      have hOn := hO
      have hWn := hWh
      rw [← hli] at hBn hOn hWn
      have hz1 := hz
      cases mp with
      | false =>
        simp +contextual (maxSteps := 10000000) only [go_sem, hlt, hix, hkx, hkm, m23, u64k, u64k2, n6, c0, c3, c6, c5, hde, hen, w1, w3, w5, bytesD_one, wrap_i64 (n := (i : Int) + 1) (by omega) (by omega)]
        exact ih m _ _ (by omega) ⟨i + 1, by omega, .c (l := (ksL ord).take (i + 1)) (j := (i : Int) + 1) (by omega) (by omega) rfl (by rw [hWn]; exact hz1) (by rw [hBn, hOn, hLn, hWn, ByteArray.size_append]) (by rw [hBn, hWn])⟩
      | true =>
        by_cases hq0 : i + 1 = ord.size
        · have hq : ((i : Int) == (ord.size : Int) - 1) = true := by rw [beq_iff_eq]; omega
          simp +contextual (maxSteps := 10000000) only [go_sem, hlt, hix, hkx, hkm, m23, u64k, u64k2, n6, c0, c3, c6, c5, b5, wj, hq, n5, hdn, hem, v1, v3, v5, bytesD_one, wrap_i64 (n := (i : Int) + 1) (by omega) (by omega)]
          exact ih m _ _ (by omega) ⟨i + 1, by omega, .e (l := l) (k := k) (B0 := ordB body l ++ W2) (j := (i : Int) + 1) (by omega) (by omega) (by rw [hli, show ord.size - 1 = i by omega]) hok h5' (by rw [hN]) hz (by rw [ByteArray.size_append]) rfl⟩
        · have hq : ((i : Int) == (ord.size : Int) - 1) = false := by rw [beq_eq_false_iff_ne]; omega
          simp +contextual (maxSteps := 10000000) only [go_sem, hlt, hix, hkx, hkm, m23, u64k, u64k2, n6, c0, c3, c6, c5, b5, wj, hq, hde, hen, w1, w3, w5, bytesD_one, wrap_i64 (n := (i : Int) + 1) (by omega) (by omega)]
          exact ih m _ _ (by omega) ⟨i + 1, by omega, .c (l := (ksL ord).take (i + 1)) (j := (i : Int) + 1) (by omega) (by omega) rfl (by rw [hWn]; exact hz1) (by rw [hBn, hOn, hLn, hWn, ByteArray.size_append]) (by rw [hBn, hWn])⟩
  | zero =>
    have hin : i = ord.size := by omega
    have hlt : decide ((ord.size : Int) < ord.size) = false := decide_eq_false (by omega)
    have ee : e0 = (⟨#[]⟩ : ByteArray) := rfl
    have hko := ks_ok ord
    have hkl := ks_len ord
    obtain ⟨r1, r2⟩ := ord_rng (body := body) hl hb ord.size
    have hall : (ksL ord).take ord.size = ksL ord := List.take_of_length_le (by omega)
    cases hst with
    | a hf he =>
      subst hf he
      have hlt0 : decide ((0 : Int) < ord.size) = false := decide_eq_false (by omega)
      unfold ordF someL
      simp +contextual (maxSteps := 10000000) only [go_sem, hlt0]
      refine lpK_inv (fun m f es => ∃ (i : Nat) (j : Int), j = i ∧ m + i = ord.size ∧ f = [(1, .rp (someL ord body mp)), (3, .nils), (4, .nils), (5, B (true)), (12, B (((ksL ord).take i).any (· == 5))), (13, I j)] ∧ es = []) ord.size ⟨0, 0, rfl, by omega, rfl, rfl⟩ ?_
      rintro m2 _ _ ⟨i2, _, rfl, hmi2, rfl, rfl⟩ ih2
      unfold someL
      cases m2 with
      | succ m2 =>
        obtain ⟨x2, hx2⟩ := get_lt (l := toL ord) (i := i2) (by have := toL_len ord; omega)
        have hlt2 : decide ((i2 : Int) < ord.size) = true := by simp; omega
        have hix2 : (bytesD ord)[i2]? = some (.sc (.int .u8 x2.toNat)) := by unfold bytesD; rw [List.getElem?_map]; show Option.map _ (toL ord)[i2]? = _; rw [hx2]; rfl
        have hks2 : (ksL ord)[i2]? = some (kOf x2) := by unfold ksL; rw [List.getElem?_map, hx2]; rfl
        have han : ((ksL ord).take (i2 + 1)).any (· == 5) = (((ksL ord).take i2).any (· == 5) || kOf x2 == 5) := by rw [take_snoc hks2, List.any_append]; simp
        have hkx2 : (x2.toNat : Int).tmod 10 = kOf x2 := by rw [Int.tmod_eq_emod_of_nonneg (by omega)]; rfl
        cases hfl : ((ksL ord).take i2).any (· == 5) with
        | true =>
          rw [hfl] at han
          rw [Bool.true_or] at han
          simp +contextual (maxSteps := 10000000) only [go_sem, hlt2, hix2, hkx2, wrap_i64 (n := (i2 : Int) + 1) (by omega) (by omega)]
          exact ih2 m2 _ _ (by omega) ⟨i2 + 1, (i2 : Int) + 1, by omega, by omega, by rw [han], rfl⟩
        | false =>
          rw [hfl] at han
          rw [Bool.false_or] at han
          simp +contextual (maxSteps := 10000000) only [go_sem, hlt2, hix2, hkx2, wrap_i64 (n := (i2 : Int) + 1) (by omega) (by omega)]
          exact ih2 m2 _ _ (by omega) ⟨i2 + 1, (i2 : Int) + 1, by omega, by omega, by rw [han], rfl⟩
      | zero =>
        have hi2 : i2 = ord.size := by omega
        rw [hi2, hall]
        have gn := getL_nil
        unfold Msg.d at gn
        have ha : (ksL ord).any (· == 5) = false := by rw [List.eq_nil_of_length_eq_zero (l := ksL ord) (by omega)]; rfl
        simp +contextual (maxSteps := 10000000) only [go_sem, hlt, gn, hW, ha]
    | @b _ j l _ _ hi hj hli hz hf he =>
      rw [hin] at hj hli
      rw [hall] at hli
      subst hf he hj hli
      rw [hall] at r1 r2
      unfold ordF someL
      simp +contextual (maxSteps := 10000000) only [go_sem, hlt]
      refine lpK_inv (fun m f es => ∃ (i : Nat) (j : Int), j = i ∧ m + i = ord.size ∧ f = [(1, .rp (someL ord body mp)), (3, .ref 0 0 1 0 (ordB body (ksL ord)).size), (4, .nils), (5, B (ordS (ksL ord) (-1))), (12, B (((ksL ord).take i).any (· == 5))), (13, I j)] ∧ es = [some ⟨0, bytesD (ordB body (ksL ord))⟩]) ord.size ⟨0, 0, rfl, by omega, rfl, rfl⟩ ?_
      rintro m2 _ _ ⟨i2, _, rfl, hmi2, rfl, rfl⟩ ih2
      unfold someL
      cases m2 with
      | succ m2 =>
        obtain ⟨x2, hx2⟩ := get_lt (l := toL ord) (i := i2) (by have := toL_len ord; omega)
        have hlt2 : decide ((i2 : Int) < ord.size) = true := by simp; omega
        have hix2 : (bytesD ord)[i2]? = some (.sc (.int .u8 x2.toNat)) := by unfold bytesD; rw [List.getElem?_map]; show Option.map _ (toL ord)[i2]? = _; rw [hx2]; rfl
        have hks2 : (ksL ord)[i2]? = some (kOf x2) := by unfold ksL; rw [List.getElem?_map, hx2]; rfl
        have han : ((ksL ord).take (i2 + 1)).any (· == 5) = (((ksL ord).take i2).any (· == 5) || kOf x2 == 5) := by rw [take_snoc hks2, List.any_append]; simp
        have hkx2 : (x2.toNat : Int).tmod 10 = kOf x2 := by rw [Int.tmod_eq_emod_of_nonneg (by omega)]; rfl
        cases hfl : ((ksL ord).take i2).any (· == 5) with
        | true =>
          rw [hfl] at han
          rw [Bool.true_or] at han
          simp +contextual (maxSteps := 10000000) only [go_sem, hlt2, hix2, hkx2, wrap_i64 (n := (i2 : Int) + 1) (by omega) (by omega)]
          exact ih2 m2 _ _ (by omega) ⟨i2 + 1, (i2 : Int) + 1, by omega, by omega, by rw [han], rfl⟩
        | false =>
          rw [hfl] at han
          rw [Bool.false_or] at han
          simp +contextual (maxSteps := 10000000) only [go_sem, hlt2, hix2, hkx2, wrap_i64 (n := (i2 : Int) + 1) (by omega) (by omega)]
          exact ih2 m2 _ _ (by omega) ⟨i2 + 1, (i2 : Int) + 1, by omega, by omega, by rw [han], rfl⟩
      | zero =>
        have hi2 : i2 = ord.size := by omega
        rw [hi2, hall]
        have gb := getL_r (ordB body (ksL ord)) (by omega)
        rw [getM_ordB body (by omega) (ksL ord) hko (by omega)] at gb
        have hs := sameEL (plainM (wholeS body (ksL ord))) (plainM (wholeS body (ksL ord)))
        rw [sameM_self] at hs
        have hwe : wholeS body (ksL ord) = ⟨#[]⟩ := ByteArray.ext (Array.eq_empty_of_size_eq_zero hz)
        rw [hwe] at gb hs
        cases hfo : ordS (ksL ord) (-1) with
        | false =>
          rw [if_neg (fun h => by rw [hfo] at h; exact absurd h.1 (by decide))] at gb
          simp only [plainM, Msg.d, ee, bytesD_nil] at gb hs
          simp +contextual (maxSteps := 10000000) only [go_sem, hlt, gb, hW]
        | true =>
          cases hfa : (ksL ord).any (· == 5) with
          | false =>
            rw [if_neg (fun h => by rw [hfa] at h; exact absurd h.2 (by decide))] at gb
            simp only [plainM, Msg.d, ee, bytesD_nil] at gb hs
            simp +contextual (maxSteps := 10000000) only [go_sem, hlt, gb, hW]
          | true =>
            rw [if_pos ⟨hfo, hfa⟩] at gb
            simp only [plainM, Msg.d, ee, bytesD_nil] at gb hs
            simp +contextual (maxSteps := 10000000) only [go_sem, hlt, gb, hs, hW]
    | @c _ j l _ _ hi hj hli hz hf he =>
      rw [hin] at hj hli
      rw [hall] at hli
      subst hf he hj hli
      rw [hall] at r1 r2
      unfold ordF someL
      simp +contextual (maxSteps := 10000000) only [go_sem, hlt]
      refine lpK_inv (fun m f es => ∃ (i : Nat) (j : Int), j = i ∧ m + i = ord.size ∧ f = [(1, .rp (someL ord body mp)), (3, .ref 0 0 1 0 (ordB body (ksL ord)).size), (4, .ref 1 0 1 0 (wholeS body (ksL ord)).size), (5, B (ordS (ksL ord) (-1))), (12, B (((ksL ord).take i).any (· == 5))), (13, I j)] ∧ es = [some ⟨0, bytesD (ordB body (ksL ord))⟩, some ⟨0, bytesD (wholeS body (ksL ord))⟩]) ord.size ⟨0, 0, rfl, by omega, rfl, rfl⟩ ?_
      rintro m2 _ _ ⟨i2, _, rfl, hmi2, rfl, rfl⟩ ih2
      unfold someL
      cases m2 with
      | succ m2 =>
        obtain ⟨x2, hx2⟩ := get_lt (l := toL ord) (i := i2) (by have := toL_len ord; omega)
        have hlt2 : decide ((i2 : Int) < ord.size) = true := by simp; omega
        have hix2 : (bytesD ord)[i2]? = some (.sc (.int .u8 x2.toNat)) := by unfold bytesD; rw [List.getElem?_map]; show Option.map _ (toL ord)[i2]? = _; rw [hx2]; rfl
        have hks2 : (ksL ord)[i2]? = some (kOf x2) := by unfold ksL; rw [List.getElem?_map, hx2]; rfl
        have han : ((ksL ord).take (i2 + 1)).any (· == 5) = (((ksL ord).take i2).any (· == 5) || kOf x2 == 5) := by rw [take_snoc hks2, List.any_append]; simp
        have hkx2 : (x2.toNat : Int).tmod 10 = kOf x2 := by rw [Int.tmod_eq_emod_of_nonneg (by omega)]; rfl
        cases hfl : ((ksL ord).take i2).any (· == 5) with
        | true =>
          rw [hfl] at han
          rw [Bool.true_or] at han
          simp +contextual (maxSteps := 10000000) only [go_sem, hlt2, hix2, hkx2, wrap_i64 (n := (i2 : Int) + 1) (by omega) (by omega)]
          exact ih2 m2 _ _ (by omega) ⟨i2 + 1, (i2 : Int) + 1, by omega, by omega, by rw [han], rfl⟩
        | false =>
          rw [hfl] at han
          rw [Bool.false_or] at han
          simp +contextual (maxSteps := 10000000) only [go_sem, hlt2, hix2, hkx2, wrap_i64 (n := (i2 : Int) + 1) (by omega) (by omega)]
          exact ih2 m2 _ _ (by omega) ⟨i2 + 1, (i2 : Int) + 1, by omega, by omega, by rw [han], rfl⟩
      | zero =>
        have hi2 : i2 = ord.size := by omega
        rw [hi2, hall]
        have gb := getL_r (ordB body (ksL ord)) (by omega)
        rw [getM_ordB body (by omega) (ksL ord) hko (by omega)] at gb
        have hs := sameEL (plainM (wholeS body (ksL ord))) (plainM (wholeS body (ksL ord)))
        rw [sameM_self] at hs
        cases hfo : ordS (ksL ord) (-1) with
        | false =>
          rw [if_neg (fun h => by rw [hfo] at h; exact absurd h.1 (by decide))] at gb
          simp only [plainM, Msg.d, ee, bytesD_nil] at gb hs
          simp +contextual (maxSteps := 10000000) only [go_sem, hlt, gb, hW]
        | true =>
          cases hfa : (ksL ord).any (· == 5) with
          | false =>
            rw [if_neg (fun h => by rw [hfa] at h; exact absurd h.2 (by decide))] at gb
            simp only [plainM, Msg.d, ee, bytesD_nil] at gb hs
            simp +contextual (maxSteps := 10000000) only [go_sem, hlt, gb, hW]
          | true =>
            rw [if_pos ⟨hfo, hfa⟩] at gb
            simp only [plainM, Msg.d, ee, bytesD_nil] at gb hs
            simp +contextual (maxSteps := 10000000) only [go_sem, hlt, gb, hs, hW]
    | @d _ j k l B0 _ _ hi hj hli hk h5 hB hz hf he =>
      rw [hin] at hj
      subst hf he hj
      have r3 := ordB_size body l
      have r4 : l.length ≤ 12 := by rw [hli, List.length_take]; omega
      have r5 : (10 * body.size + 40) * l.length ≤ 1040 * 12 := Nat.mul_le_mul (by omega) r4
      have r6 : (encN k).size ≤ 30 := by have h := wr_sz (secV k numV); rw [sec_sz] at h; exact h
      unfold ordF someL
      simp +contextual (maxSteps := 10000000) only [go_sem, hlt]
      refine lpK_inv (fun m f es => ∃ (i : Nat) (j : Int), j = i ∧ m + i = ord.size ∧ f = [(1, .rp (someL ord body mp)), (3, .ref 0 0 1 0 B0.size), (4, .nils), (5, B (false)), (12, B (((ksL ord).take i).any (· == 5))), (13, I j)] ∧ es = [some ⟨0, bytesD B0⟩]) ord.size ⟨0, 0, rfl, by omega, rfl, rfl⟩ ?_
      rintro m2 _ _ ⟨i2, _, rfl, hmi2, rfl, rfl⟩ ih2
      unfold someL
      cases m2 with
      | succ m2 =>
        obtain ⟨x2, hx2⟩ := get_lt (l := toL ord) (i := i2) (by have := toL_len ord; omega)
        have hlt2 : decide ((i2 : Int) < ord.size) = true := by simp; omega
        have hix2 : (bytesD ord)[i2]? = some (.sc (.int .u8 x2.toNat)) := by unfold bytesD; rw [List.getElem?_map]; show Option.map _ (toL ord)[i2]? = _; rw [hx2]; rfl
        have hks2 : (ksL ord)[i2]? = some (kOf x2) := by unfold ksL; rw [List.getElem?_map, hx2]; rfl
        have han : ((ksL ord).take (i2 + 1)).any (· == 5) = (((ksL ord).take i2).any (· == 5) || kOf x2 == 5) := by rw [take_snoc hks2, List.any_append]; simp
        have hkx2 : (x2.toNat : Int).tmod 10 = kOf x2 := by rw [Int.tmod_eq_emod_of_nonneg (by omega)]; rfl
        cases hfl : ((ksL ord).take i2).any (· == 5) with
        | true =>
          rw [hfl] at han
          rw [Bool.true_or] at han
          simp +contextual (maxSteps := 10000000) only [go_sem, hlt2, hix2, hkx2, wrap_i64 (n := (i2 : Int) + 1) (by omega) (by omega)]
          exact ih2 m2 _ _ (by omega) ⟨i2 + 1, (i2 : Int) + 1, by omega, by omega, by rw [han], rfl⟩
        | false =>
          rw [hfl] at han
          rw [Bool.false_or] at han
          simp +contextual (maxSteps := 10000000) only [go_sem, hlt2, hix2, hkx2, wrap_i64 (n := (i2 : Int) + 1) (by omega) (by omega)]
          exact ih2 m2 _ _ (by omega) ⟨i2 + 1, (i2 : Int) + 1, by omega, by omega, by rw [han], rfl⟩
      | zero =>
        have hi2 : i2 = ord.size := by omega
        rw [hi2, hall]
        have gb := getL_r B0 (by rw [hB, ByteArray.size_append]; omega)
        rw [hB, getM_ordN body (by omega) l (fun q hq => hko q (by rw [hli] at hq; exact List.mem_of_mem_take hq)) (by rw [hli, List.length_take]; omega) k h5 hk, ← hB] at gb
        simp only [Msg.d, bytesD_nil] at gb
        simp +contextual (maxSteps := 10000000) only [go_sem, hlt, gb, hW]
    | @e _ j k l B0 _ _ hi hj hli hk h5 hB hz hf he =>
      rw [hin] at hj
      subst hf he hj
      have r3 := ordB_size body l
      have r4 : l.length ≤ 12 := by rw [hli, List.length_take]; omega
      have r5 : (10 * body.size + 40) * l.length ≤ 1040 * 12 := Nat.mul_le_mul (by omega) r4
      have r6 : (encN k).size ≤ 30 := by have h := wr_sz (secV k numV); rw [sec_sz] at h; exact h
      unfold ordF someL
      simp +contextual (maxSteps := 10000000) only [go_sem, hlt]
      refine lpK_inv (fun m f es => ∃ (i : Nat) (j : Int), j = i ∧ m + i = ord.size ∧ f = [(1, .rp (someL ord body mp)), (3, .ref 0 0 1 0 B0.size), (4, .ref 1 0 1 0 (wholeS body l).size), (5, B (false)), (12, B (((ksL ord).take i).any (· == 5))), (13, I j)] ∧ es = [some ⟨0, bytesD B0⟩, some ⟨0, bytesD (wholeS body l)⟩]) ord.size ⟨0, 0, rfl, by omega, rfl, rfl⟩ ?_
      rintro m2 _ _ ⟨i2, _, rfl, hmi2, rfl, rfl⟩ ih2
      unfold someL
      cases m2 with
      | succ m2 =>
        obtain ⟨x2, hx2⟩ := get_lt (l := toL ord) (i := i2) (by have := toL_len ord; omega)
        have hlt2 : decide ((i2 : Int) < ord.size) = true := by simp; omega
        have hix2 : (bytesD ord)[i2]? = some (.sc (.int .u8 x2.toNat)) := by unfold bytesD; rw [List.getElem?_map]; show Option.map _ (toL ord)[i2]? = _; rw [hx2]; rfl
        have hks2 : (ksL ord)[i2]? = some (kOf x2) := by unfold ksL; rw [List.getElem?_map, hx2]; rfl
        have han : ((ksL ord).take (i2 + 1)).any (· == 5) = (((ksL ord).take i2).any (· == 5) || kOf x2 == 5) := by rw [take_snoc hks2, List.any_append]; simp
        have hkx2 : (x2.toNat : Int).tmod 10 = kOf x2 := by rw [Int.tmod_eq_emod_of_nonneg (by omega)]; rfl
        cases hfl : ((ksL ord).take i2).any (· == 5) with
        | true =>
          rw [hfl] at han
          rw [Bool.true_or] at han
          simp +contextual (maxSteps := 10000000) only [go_sem, hlt2, hix2, hkx2, wrap_i64 (n := (i2 : Int) + 1) (by omega) (by omega)]
          exact ih2 m2 _ _ (by omega) ⟨i2 + 1, (i2 : Int) + 1, by omega, by omega, by rw [han], rfl⟩
        | false =>
          rw [hfl] at han
          rw [Bool.false_or] at han
          simp +contextual (maxSteps := 10000000) only [go_sem, hlt2, hix2, hkx2, wrap_i64 (n := (i2 : Int) + 1) (by omega) (by omega)]
          exact ih2 m2 _ _ (by omega) ⟨i2 + 1, (i2 : Int) + 1, by omega, by omega, by rw [han], rfl⟩
      | zero =>
        have hi2 : i2 = ord.size := by omega
        rw [hi2, hall]
        have gb := getL_r B0 (by rw [hB, ByteArray.size_append]; omega)
        rw [hB, getM_ordN body (by omega) l (fun q hq => hko q (by rw [hli] at hq; exact List.mem_of_mem_take hq)) (by rw [hli, List.length_take]; omega) k h5 hk, ← hB] at gb
        simp only [Msg.d, bytesD_nil] at gb
        simp +contextual (maxSteps := 10000000) only [go_sem, hlt, gb, hW]
end Go.Bw.R1

/- MessageOrder -/
namespace Go.Proofs.YtffifncopceefaaGreatDoor.messageOrder
set_option maxRecDepth 5000
open Go.ChangeShapes Go.WideShapes Go.ChangeAt Go.RowKit Go.Bw Go.Bw.R1
theorem run (dl : List D) (h : Args Tryz.prog Tryz.f7.params.toList dl) : CallT Tryz.prog gl0 7 dl St.empty (fun r _ => r = .ret (.sc (.bool true))) := by
  obtain ⟨a, r, rfl, h1, h2⟩ := Args.cons h
  obtain rfl := Args.end_ h2
  obtain ⟨x, y, z, hw1⟩ := some_arg h1
  exact law_runL (.cons hw1 .nil) (MessageOrder_c x y z)
theorem met (os : Os) : laidMet Tryz.prog Rows.messageOrderRow.laid ((laidWorld os).forCall (fun _ _ => 0) ⟨#[], #[.agg #[.slice none 0 0, .slice none 0 0, .bool false]], []⟩).memory :=
  laidMet_of_run' 8 (by kernel_rfl) (by kernel_rfl)
theorem reads (os : Os) {H : Type} (enc : TypeId × Value → H) : ∃ places, DataW.whole enc Tryz.prog ((laidWorld os).forCall (fun _ _ => 0) ⟨#[], #[.agg #[.slice none 0 0, .slice none 0 0, .bool false]], []⟩).memory Tryz.f7.params.toList Rows.messageOrderSpec.vars false (#[.agg #[.slice none 0 0, .slice none 0 0, .bool false]] : Array Value).toList 8 = some ([.agg [.nil, .nil, .lit (.bool false)]], [], places) :=
  ⟨[], by kernel_rfl⟩
set_option maxRecDepth 100000 in
theorem lifted (os : Os) (started : os.Started) (H : Type) (enc : TypeId × Value → H) (F : Stop.Interp) :
    ReturnsInHanded {} Tryz.checked os 7 .any ((OpenSpec.ofChange Rows.messageOrderSpec).preRow enc Tryz.prog Tryz.f7 Rows.messageOrderRow.domain false Rows.messageOrderRow.laid) (((OpenSpec.ofChange Rows.messageOrderSpec).at F).post enc Tryz.prog Tryz.f7 false true false false) := by
  obtain ⟨places, hx⟩ := reads os enc
  refine returnsInHanded_of_row (C := Tryz.checked) (s := (OpenSpec.ofChange Rows.messageOrderSpec)) own started (by kernel_rfl) Tryz.func7
    (witness_row_at (enc := enc) (C := Tryz.checked) false (laidWorld os) #[.agg #[.slice none 0 0, .slice none 0 0, .bool false]] rfl (by kernel_rfl) (by kernel_rfl) (by kernel_rfl)
      (OpenSpec.preRow_of_cond 8 hx (by kernel_rfl) (fun k hk => by cases hk) (by kernel_rfl) (met os))) ?_
  intro W base args ds gs before hval0 hW _ hk _ hL _ _
  exact law_contractG (glob_laid hL) tyok kids laid (by decide +kernel) rfl rfl Tryz.underlying4 (by
    intro ds hds
    match ds, hds with
    | [d0], _ => rfl) (fun dl hb ha => run dl ha) hval0 hW
theorem over : Rows.messageOrderRow.holds Tryz.pinned (OpenSpec.ofChange Rows.messageOrderSpec) :=
  OpenClaim.holds_of_cond 7 Tryz.f7 rfl rfl rfl rfl rfl rfl rfl ⟨rfl, rfl, rfl, rfl, rfl⟩ rfl rfl rfl rfl rfl (by kernel_rfl) Tryz.func7 (by kernel_rfl)
    (of_decide_eq_true (by kernel_rfl)) (by unfold Func.isWrapper; first | (rw [if_pos (by decide +kernel)]; kernel_rfl) | (rw [if_neg (by decide +kernel)]; exact ⟨rfl, rfl⟩))
    (fun os started H enc _ F => by rw [OpenClaim.pre_eq_preRow]; exact lifted os started H enc F)
theorem plain (f : FuncId) (fn : Func) (hf : Tryz.pinned.checked.prog.funcNamed "bellwether/bellwetherlaw10.MessageOrder" = some f) (hfn : Tryz.pinned.checked.prog.funcs[f]? = some fn) :
    true = Tryz.pinned.checked.prog.looks [] ∧ ∀ (j : Nat) t, fn.params[j]? = some t → Tryz.pinned.checked.prog.wantsStandIn t = false := by
  obtain rfl : f = 7 := Option.some.inj ((show Tryz.prog.funcNamed "bellwether/bellwetherlaw10.MessageOrder" = some 7 by kernel_rfl).symm.trans hf) |>.symm
  obtain rfl : fn = Tryz.f7 := (Option.some.inj (Tryz.func7.symm.trans hfn)).symm
  refine ⟨by kernel_rfl, fun j t ht => ?_⟩
  have hm : t ∈ Tryz.f7.params.toList := by simpa using Array.mem_of_getElem? ht
  have hall : (Tryz.f7.params.toList.all fun u => !Tryz.prog.wantsStandIn u) = true := by kernel_rfl
  exact (show Tryz.prog.wantsStandIn t = false by simpa using List.all_eq_true.1 hall t hm)
/-- the card -/
theorem proved : Rows.MessageOrderCardSaid :=
  Claim7.holds_tied_plain_at .later [] _ _ _ _ over (fun _ h => by cases h) (by kernel_rfl) (fun _ h => by cases h) messageOrder_row_tie rfl ⟨rfl, rfl⟩ (by kernel_rfl) rfl plain (by kernel_rfl)
#print axioms proved
end Go.Proofs.YtffifncopceefaaGreatDoor.messageOrder
