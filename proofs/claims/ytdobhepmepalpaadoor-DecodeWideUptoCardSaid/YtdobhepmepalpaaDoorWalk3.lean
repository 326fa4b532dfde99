/- What the functions answer. -/
import Derived.Test.YtdobhepmepalpaaDoorWalk2
set_option linter.unusedSimpArgs false
set_option linter.unusedVariables false
namespace Go.Bw.R1
set_option maxRecDepth 5000
open Go Go.Bw Go.Proofs
def PutOk (n : Nat) : Prop := ∀ v : Val, v.sz ≤ n → mayS v = true →
  (EV 42 [.nils, v.d] [] = some (.ret (.ref 0 0 1 0 (wrV v).size), [some ⟨0, bytesD (wrV v)⟩])) ∧
  ∀ b : ByteArray, b.size ≠ 0 → b.size + 10 * v.sz ≤ 450000000 → EV 42 [.ref 0 0 1 0 b.size, v.d] [some ⟨0, bytesD b⟩] = some (.ret (.ref 0 1 1 0 (b.size + (wrV v).size)), [some ⟨1, bytesD (b ++ wrV v)⟩])
def InsOk (n : Nat) : Prop := ∀ v : Val, v.sz ≤ n → mayS v = true → v.kind ≠ 25 → InsC v (insS v)
theorem code_range {k c : Int} (hk : k ∈ kindL) (hc : c ∈ codesOf k) : 0 ≤ c ∧ c ≤ 255 := by
  have := codes_q k hk c hc
  unfold qOk at this
  simp only [Bool.and_eq_true, decide_eq_true_eq] at this
  exact this.1
theorem desc_sz {v a x : Val} (h : v.kids = [a, x]) : a.sz + x.sz + 1 ≤ v.sz := by
  rw [Val.sz_eq v, h]; simp only [Val.szL]; omega
set_option maxHeartbeats 40000000 in
theorem cons_ref {n : Nat} (hp : PutOk n) (l : List Val) (v : Val) (hv : l[0]? = some v) (hA : Al l) (hl : l.length ≤ 40000000) (hn : v.sz ≤ n + 1) (C : Int) (hC0 : 0 ≤ C) (hC1 : C ≤ 255)
    (hcode : EV 59 [.ro false ((l.map bareV).map Val.d)] [] = some (.ret (.sc (.int .u8 C)), [])) (b : ByteArray) (h0 : b.size ≠ 0) (hb : b.size + 10 * v.sz ≤ 450000000) :
    EV 58 [.ref 0 0 1 0 b.size, .ro false (l.map Val.d)] [some ⟨0, bytesD b⟩] = some (.ret (.ref 0 1 1 0 (b.size + (hdV v).size + 1)), [some ⟨1, bytesD (b ++ hdV v ++ b1 C)⟩]) := by
  have hstrip := strip_c l hl hA
  have hmv : mayS v = true := by
    obtain ⟨w, hw, h⟩ := hA
    exact (h v (List.mem_of_getElem? hv)).1
  have hlv : (l.map Val.d)[0]? = some v.d := by rw [List.getElem?_map, hv]; rfl
  refine (ev_body ⟨[], [(0, [0, 1, 5]), (4000000, [])], [(4, [(0, 0, false), (1, 0, false), (2, 0, true), (3, 0, false), (4, 0, false), (5, 0, false), (6, 0, false), (7, 0, true), (8, 2, false)])], false, [], noIt⟩ [.tmp 4] rfl Tryd.func58 rfl rfl rfl (by kernel_rfl) (by show 2 ≤ 31; decide) (by kernel_rfl)).trans ?_
  simp +contextual (maxSteps := 10000000) only [↓reduceIte, go_sem, Nat.reduceEqDiff, Nat.reduceAdd, Nat.reduceSub, Nat.reduceMul, Nat.reduceLeDiff, Nat.reduceLT, Nat.reduceBEq, Nat.reduceDiv, Nat.reduceMod, Int.reduceLE, Int.reduceLT, Int.reduceEq, Int.reduceBEq, Int.reduceBNe, Int.reduceAdd, Int.reduceSub, Int.reduceNeg, Int.reduceToNat, Int.reduceMul, Int.reducePow, Nat.reducePow, reduceCtorEq, hlv]
  refine lpK_inv (fun m f es => ∃ (x : Val) (acc : ByteArray) (u : Nat), m = x.sz ∧ x.sz ≤ n + 1 ∧ mayS x = true ∧ acc.size ≠ 0 ∧ acc ++ hdV x = b ++ hdV v ∧ acc.size + 10 * x.sz ≤ 450000000 ∧ f = [(0, .ref 0 u 1 0 acc.size), (1, .ro false (l.map Val.d)), (5, .ptr 1 0 0)] ∧ es = [some ⟨u, bytesD acc⟩, some ⟨0, x.cs⟩]) v.sz ⟨v, b, 0, rfl, hn, hmv, h0, rfl, hb, rfl, rfl⟩ ?_
  rintro _ _ _ ⟨x, acc, u, rfl, hxn, hmx, ha0, hac, hab, rfl, rfl⟩ ih
  by_cases hk : x.kind = 25
  · obtain ⟨a, y, h1, h2, h3⟩ := may_desc hmx hk
    have hds := desc_sz h1
    have hws := wr_sz a
    have hput := (hp a (by omega) h2).2 (acc ++ b1 0) (by rw [ByteArray.size_append, b1_size]; omega) (by rw [ByteArray.size_append, b1_size]; omega)
    simp only [ByteArray.size_append, b1_size] at hput
    have hle : acc.size + 1 ≤ 1000000000 := by omega
    have hle2 : acc.size ≤ 1000000000 := by omega
    simp +contextual (maxSteps := 10000000) only [↓reduceIte, go_sem, Nat.reduceEqDiff, Nat.reduceAdd, Nat.reduceSub, Nat.reduceMul, Nat.reduceLeDiff, Nat.reduceLT, Nat.reduceBEq, Nat.reduceDiv, Nat.reduceMod, Int.reduceLE, Int.reduceLT, Int.reduceEq, Int.reduceBEq, Int.reduceBNe, Int.reduceAdd, Int.reduceSub, Int.reduceNeg, Int.reduceToNat, Int.reduceMul, Int.reducePow, Nat.reducePow, reduceCtorEq, hk, h1, List.map_cons, List.map_nil, one_b1, sz_le hle, sz_le hle2, hput]
    refine ih y.sz _ _ (by omega) ?_
    refine ⟨y, acc ++ b1 0 ++ wrV a, u + 1 + 1, rfl, by omega, h3, ?_, ?_, ?_, ?_, rfl⟩
    · simp only [ByteArray.size_append, b1_size]; omega
    · rw [← hac, (enc_desc hk h1).2]; simp only [ByteArray.append_assoc]
    · simp only [ByteArray.size_append, b1_size]; omega
    · simp only [ByteArray.size_append, b1_size]
  · have hkf : (x.kind == 25) = false := by simpa using hk
    have hd := hd_ne hk
    rw [hd, app_e0] at hac
    subst hac
    have hsz : (b ++ hdV v).size + 1 ≤ 1000000000 := by omega
    have hsz2 : (b ++ hdV v).size ≤ 1000000000 := by omega
    rw [ByteArray.size_append] at hsz hsz2
    simp +contextual (maxSteps := 10000000) only [↓reduceIte, go_sem, Nat.reduceEqDiff, Nat.reduceAdd, Nat.reduceSub, Nat.reduceMul, Nat.reduceLeDiff, Nat.reduceLT, Nat.reduceBEq, Nat.reduceDiv, Nat.reduceMod, Int.reduceLE, Int.reduceLT, Int.reduceEq, Int.reduceBEq, Int.reduceBNe, Int.reduceAdd, Int.reduceSub, Int.reduceNeg, Int.reduceToNat, Int.reduceMul, Int.reducePow, Nat.reducePow, reduceCtorEq, hkf, hstrip, hcode, one_b1 hC0 hC1, sz_le hsz, sz_le hsz2]
set_option maxHeartbeats 40000000 in
theorem cons_nils {n : Nat} (hp : PutOk n) (l : List Val) (v : Val) (hv : l[0]? = some v) (hA : Al l) (hl : l.length ≤ 40000000) (hn : v.sz ≤ n + 1) (C : Int) (hC0 : 0 ≤ C) (hC1 : C ≤ 255)
    (hcode : EV 59 [.ro false ((l.map bareV).map Val.d)] [] = some (.ret (.sc (.int .u8 C)), [])) (hb : 10 * v.sz ≤ 450000000) :
    EV 58 [.nils, .ro false (l.map Val.d)] [] = some (.ret (.ref 0 0 1 0 ((hdV v).size + 1)), [some ⟨0, bytesD (hdV v ++ b1 C)⟩]) := by
  have hstrip := strip_c l hl hA
  have hmv : mayS v = true := by
    obtain ⟨w, hw, h⟩ := hA
    exact (h v (List.mem_of_getElem? hv)).1
  have hlv : (l.map Val.d)[0]? = some v.d := by rw [List.getElem?_map, hv]; rfl
  refine (ev_body ⟨[], [(0, [0, 1, 5]), (4000000, [])], [(4, [(0, 0, false), (1, 0, false), (2, 0, true), (3, 0, false), (4, 0, false), (5, 0, false), (6, 0, false), (7, 0, true), (8, 2, false)])], false, [], noIt⟩ [.tmp 4] rfl Tryd.func58 rfl rfl rfl (by kernel_rfl) (by show 2 ≤ 31; decide) (by kernel_rfl)).trans ?_
  simp +contextual (maxSteps := 10000000) only [↓reduceIte, go_sem, Nat.reduceEqDiff, Nat.reduceAdd, Nat.reduceSub, Nat.reduceMul, Nat.reduceLeDiff, Nat.reduceLT, Nat.reduceBEq, Nat.reduceDiv, Nat.reduceMod, Int.reduceLE, Int.reduceLT, Int.reduceEq, Int.reduceBEq, Int.reduceBNe, Int.reduceAdd, Int.reduceSub, Int.reduceNeg, Int.reduceToNat, Int.reduceMul, Int.reducePow, Nat.reducePow, reduceCtorEq, hlv]
  rw [lpK_go]
  by_cases hkv : v.kind = 25
  case neg =>
    have hkf : (v.kind == 25) = false := by simpa using hkv
    have hd := hd_ne hkv
    rw [hd, e0_app, e0_size, Nat.zero_add]
    simp +contextual (maxSteps := 10000000) only [↓reduceIte, go_sem, Nat.reduceEqDiff, Nat.reduceAdd, Nat.reduceSub, Nat.reduceMul, Nat.reduceLeDiff, Nat.reduceLT, Nat.reduceBEq, Nat.reduceDiv, Nat.reduceMod, Int.reduceLE, Int.reduceLT, Int.reduceEq, Int.reduceBEq, Int.reduceBNe, Int.reduceAdd, Int.reduceSub, Int.reduceNeg, Int.reduceToNat, Int.reduceMul, Int.reducePow, Nat.reducePow, reduceCtorEq, hkf, hstrip, hcode, one_b1 hC0 hC1]
  obtain ⟨a, y, h1, h2, h3⟩ := may_desc hmv hkv
  have hds := desc_sz h1
  have hws := wr_sz a
  have hput := (hp a (by omega) h2).2 (b1 0) (by rw [b1_size]; omega) (by rw [b1_size]; omega)
  rw [b1_size] at hput
  simp +contextual (maxSteps := 10000000) only [↓reduceIte, go_sem, Nat.reduceEqDiff, Nat.reduceAdd, Nat.reduceSub, Nat.reduceMul, Nat.reduceLeDiff, Nat.reduceLT, Nat.reduceBEq, Nat.reduceDiv, Nat.reduceMod, Int.reduceLE, Int.reduceLT, Int.reduceEq, Int.reduceBEq, Int.reduceBNe, Int.reduceAdd, Int.reduceSub, Int.reduceNeg, Int.reduceToNat, Int.reduceMul, Int.reducePow, Nat.reducePow, reduceCtorEq, hkv, h1, List.map_cons, List.map_nil, one_b1, hput]
  refine lpK_inv (fun m f es => ∃ (x : Val) (acc : ByteArray), m = x.sz ∧ x.sz ≤ n + 1 ∧ mayS x = true ∧ acc.size ≠ 0 ∧ acc ++ hdV x = hdV v ∧ acc.size + 10 * x.sz ≤ 450000000 ∧ f = [(0, .ref 0 0 1 0 acc.size), (1, .ro false (l.map Val.d)), (5, .ptr 1 0 0)] ∧ es = [some ⟨0, bytesD acc⟩, some ⟨0, x.cs⟩]) y.sz ?_ ?_
  · refine ⟨y, b1 0 ++ wrV a, rfl, by omega, h3, ?_, ?_, ?_, ?_, rfl⟩
    · rw [ByteArray.size_append, b1_size]; omega
    · rw [(enc_desc hkv h1).2]
    · rw [ByteArray.size_append, b1_size]; omega
    · rw [ByteArray.size_append, b1_size]
  clear hput hws hds h1 h2 h3 y a
  rintro _ _ _ ⟨x, acc, rfl, hxn, hmx, ha0, hac, hab, rfl, rfl⟩ ih
  by_cases hk : x.kind = 25
  · obtain ⟨a, y, h1, h2, h3⟩ := may_desc hmx hk
    have hds := desc_sz h1
    have hws := wr_sz a
    have hput := (hp a (by omega) h2).2 (acc ++ b1 0) (by rw [ByteArray.size_append, b1_size]; omega) (by rw [ByteArray.size_append, b1_size]; omega)
    simp only [ByteArray.size_append, b1_size] at hput
    have hle : acc.size + 1 ≤ 1000000000 := by omega
    have hle2 : acc.size ≤ 1000000000 := by omega
    simp +contextual (maxSteps := 10000000) only [↓reduceIte, go_sem, Nat.reduceEqDiff, Nat.reduceAdd, Nat.reduceSub, Nat.reduceMul, Nat.reduceLeDiff, Nat.reduceLT, Nat.reduceBEq, Nat.reduceDiv, Nat.reduceMod, Int.reduceLE, Int.reduceLT, Int.reduceEq, Int.reduceBEq, Int.reduceBNe, Int.reduceAdd, Int.reduceSub, Int.reduceNeg, Int.reduceToNat, Int.reduceMul, Int.reducePow, Nat.reducePow, reduceCtorEq, hk, h1, List.map_cons, List.map_nil, one_b1, sz_le hle, sz_le hle2, hput]
    refine ih y.sz _ _ (by omega) ?_
    refine ⟨y, acc ++ b1 0 ++ wrV a, rfl, by omega, h3, ?_, ?_, ?_, ?_, rfl⟩
    · simp only [ByteArray.size_append, b1_size]; omega
    · rw [← hac, (enc_desc hk h1).2]; simp only [ByteArray.append_assoc]
    · simp only [ByteArray.size_append, b1_size]; omega
    · simp only [ByteArray.size_append, b1_size]
  · have hkf : (x.kind == 25) = false := by simpa using hk
    have hd := hd_ne hk
    rw [hd, app_e0] at hac
    subst hac
    have hsz : (hdV v).size + 1 ≤ 1000000000 := by omega
    have hsz2 : (hdV v).size ≤ 1000000000 := by omega
    simp +contextual (maxSteps := 10000000) only [↓reduceIte, go_sem, Nat.reduceEqDiff, Nat.reduceAdd, Nat.reduceSub, Nat.reduceMul, Nat.reduceLeDiff, Nat.reduceLT, Nat.reduceBEq, Nat.reduceDiv, Nat.reduceMod, Int.reduceLE, Int.reduceLT, Int.reduceEq, Int.reduceBEq, Int.reduceBNe, Int.reduceAdd, Int.reduceSub, Int.reduceNeg, Int.reduceToNat, Int.reduceMul, Int.reducePow, Nat.reducePow, reduceCtorEq, hkf, hstrip, hcode, one_b1 hC0 hC1, sz_le hsz, sz_le hsz2]
/-- what code answers, of values that are called alike -/
theorem code_al {n : Nat} (hi : InsOk n) (l : List Val) (v : Val) (hv : l[0]? = some v) (hA : Al l) (hl : l.length ≤ 40000000) (hs : ∀ x ∈ l, x.sz ≤ n ∧ x.sz ≤ 40000000) :
    EV 59 [.ro false ((l.map bareV).map Val.d)] [] = some (.ret (.sc (.int .u8 (codeOf (l.map shV)))), []) := by
  have hm : ∀ x ∈ l, mayS x = true := by obtain ⟨w, hw, h⟩ := hA; exact fun x hx => (h x hx).1
  have hsh : (l.map bareV).map shV = l.map shV := by
    rw [List.map_map]
    exact List.map_congr_left fun x hx => (sh_bare _ x (Nat.le_refl _) (hm x hx)).1
  have hvm := List.mem_of_getElem? hv
  obtain ⟨q1, q2, q3, q4⟩ := sh_bare _ v (Nat.le_refl _) (hm v hvm)
  rw [← hsh]
  refine code_c (l.map bareV) (bareV v) (by rw [List.getElem?_map, hv]; rfl) (by simpa using hl) (fun x hx c hc => ?_) q2
  obtain ⟨y, hy, rfl⟩ := List.mem_map.1 hx
  obtain ⟨p1, p2, p3, p4⟩ := sh_bare _ y (Nat.le_refl _) (hm y hy)
  have := hs y hy
  exact fit_c (bareV y) (by omega) p2 c fun _ => hi (bareV y) (by omega) p3 p2
theorem codeOf_of {l : List Val} {v : Val} (hv : l[0]? = some v) (hm : mayS v = true) : codeOf (l.map shV) ∈ codesOf (bareV v).kind ∧ (∀ x ∈ l, fitS (codeOf (l.map shV)) (shV x) = true) ∧ (bareV v).kind ∈ kindL := by
  obtain ⟨q1, q2, q3, q4⟩ := sh_bare _ v (Nat.le_refl _) hm
  have hk := kind_in q3 q2
  have hh : (List.headD (l.map shV) default).kind = (bareV v).kind := by
    cases l with
    | nil => simp at hv
    | cons a r => simp at hv; subst hv; show (shV a).kind = _; rw [← q1, sh_ne q2]
  obtain ⟨c1, c2⟩ := codeOf_ok hh hk
  refine ⟨c1, fun x hx => ?_, hk⟩
  rw [List.all_eq_true] at c2
  exact c2 _ (List.mem_map.2 ⟨x, hx, rfl⟩)
theorem alike_bare : ∀ (n : Nat) (a b : Val), alikeF n a b = true → mayS a = true → mayS b = true → (bareV b).kind = (bareV a).kind
  | 0, a, b, h, _, _ => by simp [alikeF] at h
  | n + 1, a, b, h, ha, hb => by
    unfold alikeF at h
    by_cases hk : a.kind = 25
    · by_cases hk2 : b.kind = 25
      · obtain ⟨a1, a2, a3, a4, a5⟩ := may_desc ha hk
        obtain ⟨b1, b2, b3, b4, b5⟩ := may_desc hb hk2
        rw [hk, hk2, a3, b3] at h
        simp only [bne_self_eq_false, Bool.or_self, Bool.false_eq_true, if_false, Bool.and_eq_true] at h
        rw [bare_desc hk a3, bare_desc hk2 b3]
        exact alike_bare n a2 b2 h.2 a5 b5
      · have : (b.kind != 25) = true := by simpa using hk2
        simp only [this, Bool.or_true, if_true, beq_iff_eq] at h
        exact absurd (h.symm.trans hk) hk2
    · have : (a.kind != 25) = true := by simpa using hk
      simp only [this, Bool.true_or, if_true, beq_iff_eq] at h
      rw [bare_ne hk, bare_ne (by rw [← h]; exact hk), h]
theorem al_kind {l : List Val} (hA : Al l) {v : Val} (hv : l[0]? = some v) : ∀ y ∈ l, (bareV y).kind = (bareV v).kind := by
  obtain ⟨w, hw, h⟩ := hA
  have : w = v := by
    rw [Option.mem_def, List.head?_eq_getElem?, hv] at hw
    exact (Option.some.inj hw).symm
  subst this
  intro y hy
  obtain ⟨h1, n, h2⟩ := h y hy
  exact alike_bare n w y h2 (h w (List.mem_of_getElem? hv)).1 h1
theorem al_one {v : Val} (hm : mayS v = true) : Al [v] := ⟨v, rfl, fun x hx => by
  obtain rfl : x = v := by simpa using hx
  exact ⟨hm, _, alikeF_refl _ x (Nat.le_refl _) hm⟩⟩
set_option maxHeartbeats 40000000 in
theorem put_step {n : Nat} (hi : InsOk (n + 1)) (hp : PutOk n) (hn : n + 1 ≤ 40000000) : PutOk (n + 1) := by
  intro v hv hm
  have hA := al_one hm
  have hstrip := strip_c [v] (by simp) hA
  have hcode := code_al hi [v] v rfl hA (by simp) (fun x hx => by obtain rfl : x = v := by simpa using hx
                                                                  omega)
  obtain ⟨c1, c2, c3⟩ := codeOf_of (l := [v]) (v := v) rfl hm
  have c4 := c2 v (List.mem_singleton.2 rfl)
  obtain ⟨q1, q2, q3, q4⟩ := sh_bare _ v (Nat.le_refl _) hm
  have hr := code_range c3 c1
  have hws := wr_sz v
  have hins := hi (bareV v) (by omega) q3 q2
  have hmx : (hdV v).size + 1 ≤ 10 * v.sz := by have := ins_sz v; omega
  have hW : ∀ b : ByteArray, b ++ hdV v ++ b1 (codeOf [shV v]) ++ dataS (codeOf [shV v]) (shV v) = b ++ wrV v := fun b => by unfold wrV Wd; simp only [ByteArray.append_assoc]
  have hWs : ∀ k, k + (hdV v).size + 1 + (dataS (codeOf [shV v]) (shV v)).size = k + (wrV v).size := fun k => by unfold wrV Wd; simp only [ByteArray.size_append, b1_size]; omega
  simp only [List.map_cons, List.map_nil] at hstrip hcode c1 c2 c4 hr
  refine ⟨?_, fun b h0 hb => ?_⟩
  · have hcons := cons_nils hp [v] v rfl hA (by simp) hv (codeOf [shV v]) hr.1 hr.2 (by simpa using hcode) (by omega)
    have hdata := data_c (hdV v ++ b1 (codeOf [shV v])) (bareV v) (codeOf [shV v]) (by rw [ByteArray.size_append, b1_size]; omega) (by rw [ByteArray.size_append, b1_size]; omega) (by omega) q3 q2 c1 (by rw [q1]; exact c4) hins
    rw [q1] at hdata
    simp only [ByteArray.size_append, b1_size] at hdata
    simp only [List.map_cons, List.map_nil] at hcons
    have e1 := hW e0
    have e2 := hWs 0
    rw [e0_app, e0_app] at e1
    rw [Nat.zero_add, Nat.zero_add] at e2
    rw [e1, e2] at hdata
    refine (ev_body ⟨[3], [(4000000, [])], [(3, [(0, 0, false), (1, 0, false), (2, 0, true), (3, 0, false), (4, 1, false), (5, 0, false), (6, 0, false), (7, 0, false), (8, 0, true), (9, 2, false)])], false, [], noIt⟩ [.tmp 4] rfl Tryd.func42 rfl rfl rfl (by kernel_rfl) (by show 2 ≤ 20; decide) (by kernel_rfl)).trans ?_
    simp +contextual (maxSteps := 10000000) only [↓reduceIte, go_sem, Nat.reduceEqDiff, Nat.reduceAdd, Nat.reduceSub, Nat.reduceMul, Nat.reduceLeDiff, Nat.reduceLT, Nat.reduceBEq, Nat.reduceDiv, Nat.reduceMod, Int.reduceLE, Int.reduceLT, Int.reduceEq, Int.reduceBEq, Int.reduceBNe, Int.reduceAdd, Int.reduceSub, Int.reduceNeg, Int.reduceToNat, Int.reduceMul, Int.reducePow, Nat.reducePow, reduceCtorEq, hstrip, hcons, hcode, hdata]
  · have hcons := cons_ref hp [v] v rfl hA (by simp) hv (codeOf [shV v]) hr.1 hr.2 (by simpa using hcode) b h0 hb
    have hdata := data_c (b ++ hdV v ++ b1 (codeOf [shV v])) (bareV v) (codeOf [shV v]) (by simp only [ByteArray.size_append, b1_size]; omega) (by simp only [ByteArray.size_append, b1_size]; omega) (by omega) q3 q2 c1 (by rw [q1]; exact c4) hins
    rw [q1] at hdata
    simp only [ByteArray.size_append, b1_size] at hdata
    simp only [List.map_cons, List.map_nil] at hcons
    rw [hW b, hWs] at hdata
    refine (ev_body ⟨[3], [(4000000, [])], [(3, [(0, 0, false), (1, 0, false), (2, 0, true), (3, 0, false), (4, 1, false), (5, 0, false), (6, 0, false), (7, 0, false), (8, 0, true), (9, 2, false)])], false, [], noIt⟩ [.tmp 4] rfl Tryd.func42 rfl rfl rfl (by kernel_rfl) (by show 2 ≤ 20; decide) (by kernel_rfl)).trans ?_
    simp +contextual (maxSteps := 10000000) only [↓reduceIte, go_sem, Nat.reduceEqDiff, Nat.reduceAdd, Nat.reduceSub, Nat.reduceMul, Nat.reduceLeDiff, Nat.reduceLT, Nat.reduceBEq, Nat.reduceDiv, Nat.reduceMod, Int.reduceLE, Int.reduceLT, Int.reduceEq, Int.reduceBEq, Int.reduceBNe, Int.reduceAdd, Int.reduceSub, Int.reduceNeg, Int.reduceToNat, Int.reduceMul, Int.reducePow, Nat.reducePow, reduceCtorEq, hstrip, hcons, hcode, hdata]
end Go.Bw.R1

namespace Go.Bw.R1
set_option maxRecDepth 5000
open Go Go.Bw Go.Proofs
theorem catW_one (x : Val) : catW [encV x] = wrV x := by simp only [catW]; rw [app_e0]; rfl
theorem catD_one (c : Int) (s : Sh) : catD c [s] = dataS c s := by simp only [catD]; rw [app_e0]
theorem al_fam {v : Val} (hm : mayS v = true) (hk : v.kind = 24) {x : Val} (hx : v.kids[0]? = some x) : Al v.kids := by
  rw [mayS_eq] at hm
  simp only [Bool.and_eq_true] at hm
  obtain ⟨⟨_, h1⟩, _, h2⟩ := hm
  rw [mayL_all, List.all_eq_true] at h1
  rw [hk] at h2
  have h2 : (v.kids.all fun x => match v.kids with | [] => true | y :: _ => alike y x) = true := h2
  rw [List.all_eq_true] at h2
  cases hl : v.kids with
  | nil => rw [hl] at hx; simp at hx
  | cons y r =>
    refine ⟨y, rfl, fun z hz => ⟨h1 z (by rw [hl]; exact hz), y.sz, ?_⟩⟩
    have := h2 z (by rw [hl]; exact hz)
    rw [hl] at this
    exact this
set_option maxHeartbeats 40000000 in
theorem ins_step {n : Nat} (hi : InsOk n) (hp : PutOk n) (hn : n + 1 ≤ 40000000) : InsOk (n + 1) := by
  intro v hv hm hk25
  have hl := szL_len v.kids
  have hz := Val.sz_eq v
  have hms : ∀ x ∈ v.kids, mayS x = true := by
    rw [mayS_eq] at hm
    simp only [Bool.and_eq_true] at hm
    have := hm.1.2
    rw [mayL_all, List.all_eq_true] at this
    exact this
  have hbnd : ∀ i, (catW ((v.kids.take i).map encV)).size ≤ 10 * Val.szL (v.kids.take i) := fun i => by
    have h1 := catW_size ((v.kids.take i).map encV)
    have h2 := mx_szL (v.kids.take i)
    rw [encL_map] at h2; omega
  by_cases hk : v.kind = 24
  case neg =>
    have hkt : (v.kind != 24) = true := by simpa using hk
    refine .inl ?_
    refine (ev_body ⟨[1], [(1, [2, 14, 15, 16]), (3, [2, 6, 40, 41, 42])], [], false, [], noIt⟩ [.tmp 2] rfl Tryd.func80 rfl rfl rfl (by kernel_rfl) (by show 1 ≤ 52; decide) (by kernel_rfl)).trans ?_
    unfold insS
    rw [if_neg hk]
    simp +contextual (maxSteps := 10000000) only [↓reduceIte, go_sem, Nat.reduceEqDiff, Nat.reduceAdd, Nat.reduceSub, Nat.reduceMul, Nat.reduceLeDiff, Nat.reduceLT, Nat.reduceBEq, Nat.reduceDiv, Nat.reduceMod, Int.reduceLE, Int.reduceLT, Int.reduceEq, Int.reduceBEq, Int.reduceBNe, Int.reduceAdd, Int.reduceSub, Int.reduceNeg, Int.reduceToNat, Int.reduceMul, Int.reducePow, Nat.reducePow, reduceCtorEq, hkt]
    refine lpK_inv (fun m f es => ∃ (i : Nat) (j : Int), j = i ∧ m + i = v.kids.length ∧ ((i = 0 ∧ f = [(2, .nils), (14, .ro false (v.kids.map Val.d)), (15, I v.kids.length), (16, I j)] ∧ es = []) ∨
      (0 < i ∧ f = [(2, .ref 0 0 1 0 (catW ((v.kids.take i).map encV)).size), (14, .ro false (v.kids.map Val.d)), (15, I v.kids.length), (16, I j)] ∧ es = [some ⟨0, bytesD (catW ((v.kids.take i).map encV))⟩]))) v.kids.length ⟨0, _, rfl, by omega, .inl ⟨rfl, rfl, rfl⟩⟩ ?_
    rintro m _ _ ⟨i, _, rfl, hmi, hst⟩ ih
    cases m with
    | succ m =>
      obtain ⟨x, hx⟩ := get_lt (l := v.kids) (i := i) (by omega)
      have hxm := List.mem_of_getElem? hx
      have hxs := szL_mem hx
      have hlt : decide ((i : Int) < v.kids.length) = true := by simp; omega
      have hix : (v.kids.map Val.d)[i]? = some x.d := by rw [List.getElem?_map, hx]; rfl
      have hsn : (v.kids.take (i + 1)).map encV = (v.kids.take i).map encV ++ [encV x] := by rw [take_snoc hx, List.map_append]; rfl
      have hcw : catW ((v.kids.take (i + 1)).map encV) = catW ((v.kids.take i).map encV) ++ wrV x := by rw [hsn, catW_app, catW_one]
      obtain ⟨hp1, hp2⟩ := hp x (by omega) (hms x hxm)
      rcases hst with ⟨rfl, rfl, rfl⟩ | ⟨hpos, rfl, rfl⟩
      · have hcw0 : catW ((v.kids.take 1).map encV) = wrV x := by rw [hcw]; exact e0_app _
        have hlt0 : decide ((0 : Int) < v.kids.length) = true := by simpa using hlt
        simp +contextual (maxSteps := 10000000) only [↓reduceIte, go_sem, Nat.reduceEqDiff, Nat.reduceAdd, Nat.reduceSub, Nat.reduceMul, Nat.reduceLeDiff, Nat.reduceLT, Nat.reduceBEq, Nat.reduceDiv, Nat.reduceMod, Int.reduceLE, Int.reduceLT, Int.reduceEq, Int.reduceBEq, Int.reduceBNe, Int.reduceAdd, Int.reduceSub, Int.reduceNeg, Int.reduceToNat, Int.reduceMul, Int.reducePow, Nat.reducePow, reduceCtorEq, hix, hlt0, hp1, wrap_i64 (n := 1) (by omega) (by omega)]
        refine ih m _ _ (by omega) ?_
        exact ⟨1, 1, rfl, by omega, .inr ⟨by omega, by rw [hcw0], by rw [hcw0]⟩⟩
      · have hb1 := hbnd i
        have hb2 := hbnd (i + 1)
        have hs1 := szL_app (v.kids.take i) [x]
        rw [← take_snoc hx] at hs1
        have hs2 := szL_take v.kids (i + 1)
        simp only [Val.szL] at hs1
        have hne : (catW ((v.kids.take i).map encV)).size ≠ 0 := by
          obtain ⟨y, hy⟩ := get_lt (l := v.kids) (i := 0) (by omega)
          have : v.kids.take i = y :: (v.kids.take i).drop 1 := by
            cases hkk : v.kids with
            | nil => rw [hkk] at hy; simp at hy
            | cons a r => rw [hkk] at hy; simp at hy; subst hy; cases i with
              | zero => omega
              | succ i => simp
          rw [this]
          simp only [List.map_cons, catW, ByteArray.size_append]
          have := wr_pos y
          unfold wrV shV hdV at this; omega
        have hput := hp2 (catW ((v.kids.take i).map encV)) hne (by omega)
        simp +contextual (maxSteps := 10000000) only [↓reduceIte, go_sem, Nat.reduceEqDiff, Nat.reduceAdd, Nat.reduceSub, Nat.reduceMul, Nat.reduceLeDiff, Nat.reduceLT, Nat.reduceBEq, Nat.reduceDiv, Nat.reduceMod, Int.reduceLE, Int.reduceLT, Int.reduceEq, Int.reduceBEq, Int.reduceBNe, Int.reduceAdd, Int.reduceSub, Int.reduceNeg, Int.reduceToNat, Int.reduceMul, Int.reducePow, Nat.reducePow, reduceCtorEq, hix, hlt, hput, wrap_i64 (n := (i : Int) + 1) (by omega) (by omega)]
        refine ih m _ _ (by omega) ?_
        exact ⟨i + 1, (i : Int) + 1, by omega, by omega, .inr ⟨by omega, by rw [hcw, ByteArray.size_append], by rw [hcw]⟩⟩
    | zero =>
      have hlt : decide ((i : Int) < v.kids.length) = false := by simp; omega
      obtain rfl : i = v.kids.length := by omega
      rcases hst with ⟨h0, rfl, rfl⟩ | ⟨hpos, rfl, rfl⟩
      · have hk0 : v.kids = [] := List.length_eq_zero_iff.1 h0
        rw [hk0] at hlt ⊢
        simp only [List.length_nil, List.map_nil, Int.natCast_zero, Int.cast_ofNat_Int] at hlt ⊢
        simp +contextual (maxSteps := 10000000) only [↓reduceIte, go_sem, Nat.reduceEqDiff, Nat.reduceAdd, Nat.reduceSub, Nat.reduceMul, Nat.reduceLeDiff, Nat.reduceLT, Nat.reduceBEq, Nat.reduceDiv, Nat.reduceMod, Int.reduceLE, Int.reduceLT, Int.reduceEq, Int.reduceBEq, Int.reduceBNe, Int.reduceAdd, Int.reduceSub, Int.reduceNeg, Int.reduceToNat, Int.reduceMul, Int.reducePow, Nat.reducePow, reduceCtorEq, hlt]
        rfl
      · rw [List.take_length]
        have hw : insR (catW (v.kids.map encV)) = (.ret (.ref 0 0 1 0 (catW (v.kids.map encV)).size), [some ⟨0, bytesD (catW (v.kids.map encV))⟩]) := by
          unfold insR
          rw [if_neg]
          obtain ⟨y, hy⟩ := get_lt (l := v.kids) (i := 0) (by omega)
          cases hkk : v.kids with
          | nil => rw [hkk] at hy; simp at hy
          | cons a r =>
            simp only [List.map_cons, catW, ByteArray.size_append]
            have := wr_pos a
            unfold wrV shV hdV at this; omega
        rw [hw]
        simp +contextual (maxSteps := 10000000) only [↓reduceIte, go_sem, Nat.reduceEqDiff, Nat.reduceAdd, Nat.reduceSub, Nat.reduceMul, Nat.reduceLeDiff, Nat.reduceLT, Nat.reduceBEq, Nat.reduceDiv, Nat.reduceMod, Int.reduceLE, Int.reduceLT, Int.reduceEq, Int.reduceBEq, Int.reduceBNe, Int.reduceAdd, Int.reduceSub, Int.reduceNeg, Int.reduceToNat, Int.reduceMul, Int.reducePow, Nat.reducePow, reduceCtorEq, hlt]
  case pos =>
  have hkf : (v.kind != 24) = false := by simpa using hk
  cases hkk : v.kids with
  | nil =>
    refine .inr ?_
    unfold insS
    rw [if_pos hk, hkk]
    refine (ev_body ⟨[1], [(1, [2, 14, 15, 16]), (3, [2, 6, 40, 41, 42])], [], false, [], noIt⟩ [.tmp 2] rfl Tryd.func80 rfl rfl rfl (by kernel_rfl) (by show 1 ≤ 52; decide) (by kernel_rfl)).trans ?_
    simp +contextual (maxSteps := 10000000) only [↓reduceIte, go_sem, Nat.reduceEqDiff, Nat.reduceAdd, Nat.reduceSub, Nat.reduceMul, Nat.reduceLeDiff, Nat.reduceLT, Nat.reduceBEq, Nat.reduceDiv, Nat.reduceMod, Int.reduceLE, Int.reduceLT, Int.reduceEq, Int.reduceBEq, Int.reduceBNe, Int.reduceAdd, Int.reduceSub, Int.reduceNeg, Int.reduceToNat, Int.reduceMul, Int.reducePow, Nat.reducePow, reduceCtorEq, hkf, hkk, List.map_nil, List.length_nil, one_b1]
    rfl
  | cons k0 r =>
    have h0 : v.kids[0]? = some k0 := by rw [hkk]; rfl
    have hA := al_fam hm hk h0
    have hks : ∀ x ∈ v.kids, x.sz ≤ n ∧ x.sz ≤ 40000000 := fun x hx => by have := szL_in hx; omega
    have hstrip := strip_c v.kids (by omega) hA
    have hcode := code_al hi v.kids k0 h0 hA (by omega) hks
    obtain ⟨c1, c2, c3⟩ := codeOf_of h0 (hms k0 (List.mem_of_getElem? h0))
    have hr := code_range c3 c1
    have hk0 := hks k0 (List.mem_of_getElem? h0)
    have hcons := cons_nils hp v.kids k0 h0 hA (by omega) (by omega) (codeOf (v.kids.map shV)) hr.1 hr.2 hcode (by omega)
    have hne : ((v.kids.length : Int) == 0) = false := by rw [hkk]; simp; omega
    have hins : insS v = hdV k0 ++ b1 (codeOf (v.kids.map shV)) ++ catD (codeOf (v.kids.map shV)) (v.kids.map shV) := by
      have e1 : (v.kids.map encV).map Prod.fst = v.kids.map shV := by rw [List.map_map]; rfl
      unfold insS
      rw [if_pos hk]
      rw [hkk] at e1 ⊢
      simp only [List.map_cons] at e1 ⊢
      simp only [arrS, List.map_cons]
      rw [e1]; rfl
    generalize hC : codeOf (v.kids.map shV) = C at hcode c1 c2 hr hcons hins
    have hpsz : insR (insS v) = (.ret (.ref 0 0 1 0 (insS v).size), [some ⟨0, bytesD (insS v)⟩]) := by
      unfold insR
      rw [if_neg]
      rw [hins]; simp only [ByteArray.size_append, b1_size]; omega
    refine .inl ?_
    rw [hpsz]
    have hmx := ins_sz k0
    refine (ev_body ⟨[1], [(1, [2, 14, 15, 16]), (3, [2, 6, 40, 41, 42])], [], false, [], noIt⟩ [.tmp 2] rfl Tryd.func80 rfl rfl rfl (by kernel_rfl) (by show 1 ≤ 52; decide) (by kernel_rfl)).trans ?_
    simp +contextual (maxSteps := 10000000) only [↓reduceIte, go_sem, Nat.reduceEqDiff, Nat.reduceAdd, Nat.reduceSub, Nat.reduceMul, Nat.reduceLeDiff, Nat.reduceLT, Nat.reduceBEq, Nat.reduceDiv, Nat.reduceMod, Int.reduceLE, Int.reduceLT, Int.reduceEq, Int.reduceBEq, Int.reduceBNe, Int.reduceAdd, Int.reduceSub, Int.reduceNeg, Int.reduceToNat, Int.reduceMul, Int.reducePow, Nat.reducePow, reduceCtorEq, hkf, hcons, hstrip, hcode, hne]
    refine lpK_inv (fun m f es => ∃ (i : Nat) (j : Int) (acc : ByteArray), j = i ∧ m + i = v.kids.length ∧ acc = hdV k0 ++ b1 C ++ catD C ((v.kids.take i).map shV) ∧ f = [(2, .ref 0 0 1 0 acc.size), (6, .sc (.int .u8 C)), (40, .ro false ((v.kids.map bareV).map Val.d)), (41, I v.kids.length), (42, I j)] ∧ es = [some ⟨0, bytesD acc⟩]) v.kids.length ⟨0, _, hdV k0 ++ b1 C, rfl, by omega, (app_e0 _).symm, by rw [ByteArray.size_append, b1_size]; rfl, rfl⟩ ?_
    rintro m _ _ ⟨i, _, acc, rfl, hmi, hacc, rfl, rfl⟩ ih
    cases m with
    | succ m =>
      obtain ⟨x, hx⟩ := get_lt (l := v.kids) (i := i) (by omega)
      have hxm := List.mem_of_getElem? hx
      have hxs := szL_mem hx
      have hlt : decide ((i : Int) < v.kids.length) = true := by simp; omega
      obtain ⟨q1, q2, q3, q4⟩ := sh_bare _ x (Nat.le_refl _) (hms x hxm)
      have hix : ((v.kids.map bareV).map Val.d)[i]? = some (bareV x).d := by rw [List.getElem?_map, List.getElem?_map, hx]; rfl
      have hsn : (v.kids.take (i + 1)).map shV = (v.kids.take i).map shV ++ [shV x] := by rw [take_snoc hx, List.map_append]; rfl
      have hnx : acc ++ dataS C (shV x) = hdV k0 ++ b1 C ++ catD C ((v.kids.take (i + 1)).map shV) := by rw [hsn, catD_app, catD_one, hacc, ByteArray.append_assoc]
      have hal : ∀ y ∈ v.kids, (bareV y).kind = (bareV k0).kind := al_kind hA h0
      have hasz : acc.size ≤ 450000000 := by
        have h3 := szL_take v.kids i
        rw [hacc]; simp only [ByteArray.size_append, b1_size]
        cases i with
        | zero =>
          have := szL_in (List.mem_of_getElem? h0)
          simp only [List.take_zero, List.map_nil, catD, e0_size]; omega
        | succ i =>
          have h1 := catD_size2 C (encV k0) ((r.take i).map encV)
          have h2 := mx_szL (v.kids.take (i + 1))
          rw [encL_map, hkk, List.take_succ_cons, List.map_cons] at h2
          have e1 : (encV k0 :: (r.take i).map encV).map Prod.fst = (v.kids.take (i + 1)).map shV := by rw [hkk, List.take_succ_cons, List.map_cons, List.map_cons, List.map_map]; rfl
          rw [e1] at h1
          have e2 : (encV k0).2 = hdV k0 := rfl
          rw [e2] at h1
          rw [hkk, List.take_succ_cons] at h3
          rw [hkk] at hz
          omega
      have hdata := data_c acc (bareV x) C (by rw [hacc]; simp only [ByteArray.size_append, b1_size]; omega) hasz (by omega) q3 q2 (by rw [hal x hxm]; exact c1) (by rw [q1]; exact c2 x hxm) (hi (bareV x) (by omega) q3 q2)
      rw [q1] at hdata
      simp +contextual (maxSteps := 10000000) only [↓reduceIte, go_sem, Nat.reduceEqDiff, Nat.reduceAdd, Nat.reduceSub, Nat.reduceMul, Nat.reduceLeDiff, Nat.reduceLT, Nat.reduceBEq, Nat.reduceDiv, Nat.reduceMod, Int.reduceLE, Int.reduceLT, Int.reduceEq, Int.reduceBEq, Int.reduceBNe, Int.reduceAdd, Int.reduceSub, Int.reduceNeg, Int.reduceToNat, Int.reduceMul, Int.reducePow, Nat.reducePow, reduceCtorEq, hix, hlt, hdata, wrap_i64 (n := (i : Int) + 1) (by omega) (by omega)]
      refine ih m _ _ (by omega) ?_
      exact ⟨i + 1, (i : Int) + 1, acc ++ dataS C (shV x), by omega, by omega, hnx, by rw [ByteArray.size_append], rfl⟩
    | zero =>
      have hlt : decide ((i : Int) < v.kids.length) = false := by simp; omega
      obtain rfl : i = v.kids.length := by omega
      rw [List.take_length, ← hins] at hacc
      subst hacc
      simp +contextual (maxSteps := 10000000) only [↓reduceIte, go_sem, Nat.reduceEqDiff, Nat.reduceAdd, Nat.reduceSub, Nat.reduceMul, Nat.reduceLeDiff, Nat.reduceLT, Nat.reduceBEq, Nat.reduceDiv, Nat.reduceMod, Int.reduceLE, Int.reduceLT, Int.reduceEq, Int.reduceBEq, Int.reduceBNe, Int.reduceAdd, Int.reduceSub, Int.reduceNeg, Int.reduceToNat, Int.reduceMul, Int.reducePow, Nat.reducePow, reduceCtorEq, hlt]
theorem enc_ok : ∀ n, n ≤ 40000000 → InsOk n ∧ PutOk n
  | 0, _ => ⟨fun v hv => by rw [Val.sz_eq] at hv; omega, fun v hv => by rw [Val.sz_eq] at hv; omega⟩
  | n + 1, hn => by
    obtain ⟨h1, h2⟩ := enc_ok n (by omega)
    have h3 := ins_step h1 h2 hn
    exact ⟨h3, put_step h3 h2 hn⟩
/-- WHAT encode.Value ANSWERS -/
theorem encode_c (v : Val) (h : v.sz ≤ 40000000) (hw : v.wf) : EV 20 [v.d] [] = some (if rightS v = true then (.ret (.tup [.ref 0 0 1 0 (wrV v).size, I 0]), [some ⟨0, bytesD (wrV v)⟩]) else (.ret (.tup [.nils, I 1]), [])) := by
  have hr := right_c v (by omega) hw
  refine (ev_body ⟨[1], [], [], false, [], noIt⟩ [.tmp 2, .tmp 3] rfl Tryd.func20 rfl rfl rfl (by kernel_rfl) (by show 1 ≤ 9; decide) (by kernel_rfl)).trans ?_
  cases hb : rightS v with
  | true =>
    have hm : mayS v = true := by unfold rightS at hb; simp only [Bool.and_eq_true] at hb; exact hb.2
    have hp := ((enc_ok v.sz h).2 v (Nat.le_refl _) hm).1
    rw [hb] at hr
    simp +contextual (maxSteps := 10000000) only [↓reduceIte, go_sem, Nat.reduceEqDiff, Nat.reduceAdd, Nat.reduceSub, Nat.reduceMul, Nat.reduceLeDiff, Nat.reduceLT, Nat.reduceBEq, Nat.reduceDiv, Nat.reduceMod, Int.reduceLE, Int.reduceLT, Int.reduceEq, Int.reduceBEq, Int.reduceBNe, Int.reduceAdd, Int.reduceSub, Int.reduceNeg, Int.reduceToNat, Int.reduceMul, Int.reducePow, Nat.reducePow, reduceCtorEq, hr, hp]
  | false =>
    rw [hb] at hr
    simp +contextual (maxSteps := 10000000) only [↓reduceIte, go_sem, Nat.reduceEqDiff, Nat.reduceAdd, Nat.reduceSub, Nat.reduceMul, Nat.reduceLeDiff, Nat.reduceLT, Nat.reduceBEq, Nat.reduceDiv, Nat.reduceMod, Int.reduceLE, Int.reduceLT, Int.reduceEq, Int.reduceBEq, Int.reduceBNe, Int.reduceAdd, Int.reduceSub, Int.reduceNeg, Int.reduceToNat, Int.reduceMul, Int.reducePow, Nat.reducePow, reduceCtorEq, hr]
end Go.Bw.R1

/- law06: what was encoded is decoded. -/
namespace Go.Bw.R1
set_option maxRecDepth 5000
open Go Go.Bw Go.Proofs
end Go.Bw.R1

/- Plain: first bytes. -/
namespace Go.Bw.R1
set_option maxRecDepth 5000
open Go Go.Bw
theorem head_one {x : UInt8} {B : List UInt8} (h0 : ¬ u8I x = 0) (hk : ¬ kindC (u8I x) = 0) : headL (x :: B) = match dataL (u8I x) B with
    | .error e => .error e
    | .ok (_, r) => .ok r := by
  unfold headL
  rw [consL_succ]
  unfold consS
  dsimp only
  rw [if_neg h0, if_neg hk]
  all_goals (dsimp only; cases dataL (u8I x) B <;> rfl)
theorem right_leaf {k n : Int} {t : ByteArray} (h1 : 1 ≤ k) (h2 : k ≤ 21) (hn : numS k n = true) (ht : textS k t = true) : rightS (.mk k n t []) = true := by
  have hd : (Val.mk k n t []).depth = 1 := rfl
  have hi : (Val.mk k n t []).items = 1 := rfl
  have hf : famS k [] = true := by
    unfold famS
    have a : (k == 22) = false := by simp; omega
    have b : (k == 23) = false := by simp; omega
    have c : (k == 24) = false := by simp; omega
    have d : (k == 25) = false := by simp; omega
    rw [a, b, c, d]
    rfl
  unfold rightS
  rw [mayS_eq, hd, hi]
  simp only [Val.kind_mk, Val.num_mk, Val.text_mk, Val.kids_mk, hn, ht, hf]
  simp only [h1, show k ≤ 25 by omega, decide_true]
  rfl
end Go.Bw.R1

/- Plain: encode tells no more bytes than were decoded. -/
namespace Go.Bw.R1
set_option maxRecDepth 5000
open Go Go.Bw
theorem dataS_sz (c : Int) (s : Sh) : (dataS c s).size = if c / 16 = 4 then 0 else if c / 16 = 5 ∨ c / 16 = 6 ∨ c / 16 = 7 ∨ c / 16 = 8 then (if s.text = e0 then widQ (c / 16) else s.text.size)
    else if c / 16 = 9 then s.text.size else if c / 16 = 10 then 1 + s.text.size else if c / 16 = 11 then 4 + s.text.size else if c / 16 = 12 ∨ c / 16 = 14 then 1 + (1 + s.ins.size) else 4 + (4 + s.ins.size) := by
  unfold dataS
  rw [Int.fdiv_eq_ediv_of_nonneg _ (by decide)]
  repeat' split
  all_goals try simp only [ByteArray.size_append, e0_size, be_size (wOk_wid _), be_size (w := 1) (by simp [wOk]), be_size (w := 4) (by simp [wOk])]
theorem find_min {R : Int → Int → Prop} (hr : ∀ a, R a a) {p : Int → Bool} : ∀ {l : List Int}, l.Pairwise R → ∀ {c : Int}, c ∈ l → p c = true → ∃ c0, l.find? p = some c0 ∧ R c0 c
  | a :: l, hp, c, hc, h => by
    rw [List.pairwise_cons] at hp
    cases ha : p a with
    | true =>
      refine ⟨a, by simp [List.find?, ha], ?_⟩
      rcases List.mem_cons.1 hc with rfl | hc
      · exact hr _
      · exact hp.1 _ hc
    | false =>
      rcases List.mem_cons.1 hc with rfl | hc
      · rw [ha] at h; cases h
      · obtain ⟨c0, h1, h2⟩ := find_min hr hp.2 hc h
        exact ⟨c0, by simp [List.find?, ha, h1], h2⟩
def NoMore (a b : Int) : Prop := ∀ s, (dataS a s).size ≤ (dataS b s).size
theorem noMore_of {a b : Int} (h : (a / 16 = 4) ∨ (a / 16 = b / 16) ∨ (a / 16 = 5 ∧ (b / 16 = 7 ∨ b / 16 = 8)) ∨ (a / 16 = 10 ∧ b / 16 = 11) ∨ (a / 16 = 12 ∧ b / 16 = 13) ∨ (a / 16 = 14 ∧ b / 16 = 15)) : NoMore a b := by
  intro s
  rw [dataS_sz, dataS_sz]
  rcases h with h | h | ⟨h, g | g⟩ | ⟨h, g⟩ | ⟨h, g⟩ | ⟨h, g⟩
  · rw [h]; simp
  · rw [h]; exact Nat.le_refl _
  all_goals
    rw [h, g]
    simp [widQ]
  all_goals try (split <;> omega)
  all_goals omega
theorem codes_pw (k : Int) : (codesOf k).Pairwise NoMore := by
  unfold codesOf
  repeat' split
  all_goals
    simp only [List.pairwise_cons, List.mem_cons, List.not_mem_nil, or_false, forall_eq_or_imp, forall_eq, List.Pairwise.nil, and_true, false_implies, implies_true]
  all_goals
    repeat' apply And.intro
  all_goals
    exact noMore_of (by decide)
/-- the first code that tells all tells it in the fewest bytes -/
theorem codeOf_min {ls : List Sh} {k c : Int} (hk : (ls.headD default).kind = k) (hc : c ∈ codesOf k) (h : ls.all (fitS c) = true) : NoMore (codeOf ls) c := by
  obtain ⟨c0, h1, h2⟩ := find_min (R := NoMore) (fun a s => Nat.le_refl _) (p := fun c => ls.all (fitS c)) (codes_pw k) hc h
  unfold codeOf
  rw [hk, h1]
  exact h2
theorem code_has {c : Int} (h : kindC c ≠ 0) : c ∈ codesOf (kindC c) ∧ kindC c ≠ 25 := by
  have : ∀ c ∈ ([64, 65, 66, 67, 68, 69, 80, 81, 82, 83, 84, 85, 86, 96, 97, 112, 113, 114, 115, 116, 128, 129, 130, 131, 132, 148, 152, 160, 161, 163, 176, 177, 179, 192, 193, 208, 209, 224, 240] : List Int), c ∈ codesOf (kindC c) ∧ kindC c ≠ 25 := by decide
  exact this c (code_in h)
/-- what names ahead of a value tell -/
def hsz (ns : List Val) : Nat := (ns.map fun n => 1 + (wrV n).size).sum
theorem call_enc (w : Val) (hw : w.kind ≠ 25) : ∀ ns, shV (callV ns w) = shV w ∧ (hdV (callV ns w)).size = hsz ns
  | [] => ⟨rfl, by show (hdV w).size = 0; rw [hd_ne hw]; rfl⟩
  | n :: ns => by
    obtain ⟨h1, h2⟩ := call_enc w hw ns
    have e : callV (n :: ns) w = .mk 25 0 e0 [n, callV ns w] := rfl
    obtain ⟨q1, q2⟩ := enc_desc (v := callV (n :: ns) w) (a := n) (x := callV ns w) rfl rfl
    refine ⟨q1.trans h1, ?_⟩
    rw [q2, ByteArray.size_append, ByteArray.size_append, h2, b1_size]
    simp only [hsz, List.map_cons, List.sum_cons]
theorem wr_size (v : Val) : (wrV v).size = (hdV v).size + 1 + (dataS (codeOf [shV v]) (shV v)).size := by
  unfold wrV Wd
  rw [ByteArray.size_append, ByteArray.size_append, b1_size]
theorem wr_call {w : Val} {C : Int} {m : Nat} (hC : kindC C ≠ 0) (hk : w.kind = kindC C) (hf : fitS C (shV w) = true) (hd : (dataS C (shV w)).size ≤ m) (ns : List Val) : (wrV (callV ns w)).size ≤ hsz ns + 1 + m := by
  obtain ⟨c1, c2⟩ := code_has hC
  have hw : w.kind ≠ 25 := by rw [hk]; exact c2
  obtain ⟨h1, h2⟩ := call_enc w hw ns
  rw [wr_size, h1, h2]
  have := codeOf_min (ls := [shV w]) (k := kindC C) (c := C) (by rw [← hk]; show (shV w).kind = _; rw [sh_ne hw]) c1 (by simp [hf]) (shV w)
  omega
/-- the data of a code, as it was cut -/
def OkD (C : Int) (d : List UInt8) : Prop := (C < 160 → d.length = fixC C) ∧ (160 ≤ C → wideC C ≤ d.length) ∧ (160 ≤ C → wideC C = 1 → d.length ≤ 256)
theorem dataL_ok {C : Int} {l d r : List UInt8} (h : dataL C l = .ok (d, r)) : OkD C d ∧ d.length + r.length = l.length := by
  obtain ⟨h1, h2, h3, _⟩ := dataL_len h
  refine ⟨⟨h1, h2, fun hc hw => ?_⟩, h3⟩
  unfold dataL at h
  rw [if_neg (by omega), hw] at h
  unfold takeL at h
  by_cases ha : l.length < 1
  · rw [if_pos ha] at h; cases h
  · rw [if_neg ha] at h
    dsimp only at h
    split at h
    · cases h
    · rename_i d' r' hd
      split at hd
      · cases hd
      · injection hd with hd
        injection hd with hd1 hd2
        injection h with h
        injection h with h4 h5
        rw [← h4, ← hd1, List.length_append]
        have hb := beN_lt _ (l.take 1) rfl
        have hl : (l.take 1).length = 1 := by rw [List.length_take]; omega
        rw [hl] at hb ⊢
        rw [List.length_take]
        omega
def RdM (w : Val) (C : Int) (d : List UInt8) : Prop := w.kind = kindC C ∧ fitS C (shV w) = true ∧ (dataS C (shV w)).size ≤ d.length
theorem sh_leaf (k n : Int) (t : ByteArray) (h : k ≠ 25) (h2 : k ≠ 24) : shV (.mk k n t []) = ⟨k, n, t, 0, e0⟩ := by
  rw [sh_ne (v := .mk k n t []) h]
  unfold insS
  rw [if_neg (by exact h2)]
  rfl
theorem sgn8_all : ∀ x : Fin 256, sgn8 (sgnX x.val 1) = true := by decide +kernel
theorem leaf_min {C : Int} {d : List UInt8} (hk : kindC C ≠ 0) (hx : C < 192) (hd : OkD C d) : RdM (leafV C d) C d := by
  obtain ⟨d1, d2, d3⟩ := hd
  have hb := beN_lt _ d rfl
  have hc := code_in hk
  simp only [List.mem_cons, List.not_mem_nil, or_false] at hc
  rcases hc with rfl | rfl | rfl | rfl | rfl | rfl | rfl | rfl | rfl | rfl | rfl | rfl | rfl | rfl | rfl | rfl | rfl | rfl | rfl | rfl | rfl | rfl | rfl | rfl | rfl | rfl | rfl | rfl | rfl | rfl | rfl | rfl | rfl | rfl | rfl | rfl | rfl | rfl | rfl
  · have hl : d.length = 0 := d1 (by decide)
    rw [show leafV 64 d = .mk 1 0 e0 [] from rfl]
    refine ⟨rfl, rfl, ?_⟩
    rw [sh_leaf _ _ _ (by decide) (by decide), dataS_sz, hl]
    first | decide | (simp [widQ]; done) | simp [widQ, e0_size]
  · have hl : d.length = 0 := d1 (by decide)
    rw [show leafV 65 d = .mk 2 1 e0 [] from rfl]
    refine ⟨rfl, rfl, ?_⟩
    rw [sh_leaf _ _ _ (by decide) (by decide), dataS_sz, hl]
    first | decide | (simp [widQ]; done) | simp [widQ, e0_size]
  · have hl : d.length = 0 := d1 (by decide)
    rw [show leafV 66 d = .mk 2 0 e0 [] from rfl]
    refine ⟨rfl, rfl, ?_⟩
    rw [sh_leaf _ _ _ (by decide) (by decide), dataS_sz, hl]
    first | decide | (simp [widQ]; done) | simp [widQ, e0_size]
  · have hl : d.length = 0 := d1 (by decide)
    rw [show leafV 67 d = .mk 5 0 e0 [] from rfl]
    refine ⟨rfl, rfl, ?_⟩
    rw [sh_leaf _ _ _ (by decide) (by decide), dataS_sz, hl]
    first | decide | (simp [widQ]; done) | simp [widQ, e0_size]
  · have hl : d.length = 0 := d1 (by decide)
    rw [show leafV 68 d = .mk 6 0 e0 [] from rfl]
    refine ⟨rfl, rfl, ?_⟩
    rw [sh_leaf _ _ _ (by decide) (by decide), dataS_sz, hl]
    first | decide | (simp [widQ]; done) | simp [widQ, e0_size]
  · have hl : d.length = 0 := d1 (by decide)
    rw [show leafV 69 d = .mk 22 0 e0 [] from rfl]
    refine ⟨rfl, rfl, ?_⟩
    rw [sh_leaf _ _ _ (by decide) (by decide), dataS_sz, hl]
    first | decide | (simp [widQ]; done) | simp [widQ, e0_size]
  · have hl : d.length = 1 := d1 (by decide)
    rw [show leafV 80 d = .mk 3 (beN d) e0 [] from rfl]
    refine ⟨rfl, rfl, ?_⟩
    rw [sh_leaf _ _ _ (by decide) (by decide), dataS_sz, hl]
    first | decide | (simp [widQ]; done) | simp [widQ, e0_size]
  · have hl : d.length = 1 := d1 (by decide)
    rw [show leafV 81 d = .mk 7 (sgnX (beN d) d.length) e0 [] from rfl]
    refine ⟨rfl, rfl, ?_⟩
    rw [sh_leaf _ _ _ (by decide) (by decide), dataS_sz, hl]
    first | decide | (simp [widQ]; done) | simp [widQ, e0_size]
  · have hl : d.length = 1 := d1 (by decide)
    rw [show leafV 82 d = .mk 5 (beN d) e0 [] from rfl]
    refine ⟨rfl, by
      rw [sh_leaf _ _ _ (by decide) (by decide)]
      show decide ((beN d : Int) ≤ 255) = true
      rw [hl] at hb
      rw [decide_eq_true_eq]; omega, ?_⟩
    rw [sh_leaf _ _ _ (by decide) (by decide), dataS_sz, hl]
    first | decide | (simp [widQ]; done) | simp [widQ, e0_size]
  · have hl : d.length = 1 := d1 (by decide)
    rw [show leafV 83 d = .mk 6 (beN d) e0 [] from rfl]
    refine ⟨rfl, by
      rw [sh_leaf _ _ _ (by decide) (by decide)]
      show decide ((beN d : Int) ≤ 255) = true
      rw [hl] at hb
      rw [decide_eq_true_eq]; omega, ?_⟩
    rw [sh_leaf _ _ _ (by decide) (by decide), dataS_sz, hl]
    first | decide | (simp [widQ]; done) | simp [widQ, e0_size]
  · have hl : d.length = 1 := d1 (by decide)
    rw [show leafV 84 d = .mk 9 (sgnX (beN d) d.length) e0 [] from rfl]
    refine ⟨rfl, by
      rw [sh_leaf _ _ _ (by decide) (by decide)]
      show sgn8 (sgnX (beN d) d.length) = true
      rw [hl] at hb ⊢
      exact sgn8_all ⟨beN d, by omega⟩, ?_⟩
    rw [sh_leaf _ _ _ (by decide) (by decide), dataS_sz, hl]
    first | decide | (simp [widQ]; done) | simp [widQ, e0_size]
  · have hl : d.length = 1 := d1 (by decide)
    rw [show leafV 85 d = .mk 10 (sgnX (beN d) d.length) e0 [] from rfl]
    refine ⟨rfl, by
      rw [sh_leaf _ _ _ (by decide) (by decide)]
      show sgn8 (sgnX (beN d) d.length) = true
      rw [hl] at hb ⊢
      exact sgn8_all ⟨beN d, by omega⟩, ?_⟩
    rw [sh_leaf _ _ _ (by decide) (by decide), dataS_sz, hl]
    first | decide | (simp [widQ]; done) | simp [widQ, e0_size]
  · have hl : d.length = 1 := d1 (by decide)
    rw [show leafV 86 d = .mk 2 (beN d) e0 [] from rfl]
    refine ⟨rfl, rfl, ?_⟩
    rw [sh_leaf _ _ _ (by decide) (by decide), dataS_sz, hl]
    first | decide | (simp [widQ]; done) | simp [widQ, e0_size]
  · have hl : d.length = 2 := d1 (by decide)
    rw [show leafV 96 d = .mk 4 (beN d) e0 [] from rfl]
    refine ⟨rfl, rfl, ?_⟩
    rw [sh_leaf _ _ _ (by decide) (by decide), dataS_sz, hl]
    first | decide | (simp [widQ]; done) | simp [widQ, e0_size]
  · have hl : d.length = 2 := d1 (by decide)
    rw [show leafV 97 d = .mk 8 (sgnX (beN d) d.length) e0 [] from rfl]
    refine ⟨rfl, rfl, ?_⟩
    rw [sh_leaf _ _ _ (by decide) (by decide), dataS_sz, hl]
    first | decide | (simp [widQ]; done) | simp [widQ, e0_size]
  · have hl : d.length = 4 := d1 (by decide)
    rw [show leafV 112 d = .mk 5 (beN d) e0 [] from rfl]
    refine ⟨rfl, rfl, ?_⟩
    rw [sh_leaf _ _ _ (by decide) (by decide), dataS_sz, hl]
    first | decide | (simp [widQ]; done) | simp [widQ, e0_size]
  · have hl : d.length = 4 := d1 (by decide)
    rw [show leafV 113 d = .mk 9 (sgnX (beN d) d.length) e0 [] from rfl]
    refine ⟨rfl, rfl, ?_⟩
    rw [sh_leaf _ _ _ (by decide) (by decide), dataS_sz, hl]
    first | decide | (simp [widQ]; done) | simp [widQ, e0_size]
  · have hl : d.length = 4 := d1 (by decide)
    rw [show leafV 114 d = .mk 11 (beN d) e0 [] from rfl]
    refine ⟨rfl, rfl, ?_⟩
    rw [sh_leaf _ _ _ (by decide) (by decide), dataS_sz, hl]
    first | decide | (simp [widQ]; done) | simp [widQ, e0_size]
  · have hl : d.length = 4 := d1 (by decide)
    rw [show leafV 115 d = .mk 13 (beN d) e0 [] from rfl]
    refine ⟨rfl, rfl, ?_⟩
    rw [sh_leaf _ _ _ (by decide) (by decide), dataS_sz, hl]
    first | decide | (simp [widQ]; done) | simp [widQ, e0_size]
  · have hl : d.length = 4 := d1 (by decide)
    rw [show leafV 116 d = .mk 16 0 (mkT d) [] from rfl]
    refine ⟨rfl, rfl, ?_⟩
    rw [sh_leaf _ _ _ (by decide) (by decide), dataS_sz, hl]
    have hz : (mkT d).size = 4 := by rw [show (mkT d).size = d.length from rfl, hl]
    rw [if_neg (by decide), if_pos (by decide)]
    split
    · decide
    · show (mkT d).size ≤ _; omega
  · have hl : d.length = 8 := d1 (by decide)
    rw [show leafV 128 d = .mk 6 (beN d) e0 [] from rfl]
    refine ⟨rfl, rfl, ?_⟩
    rw [sh_leaf _ _ _ (by decide) (by decide), dataS_sz, hl]
    first | decide | (simp [widQ]; done) | simp [widQ, e0_size]
  · have hl : d.length = 8 := d1 (by decide)
    rw [show leafV 129 d = .mk 10 (sgnX (beN d) d.length) e0 [] from rfl]
    refine ⟨rfl, rfl, ?_⟩
    rw [sh_leaf _ _ _ (by decide) (by decide), dataS_sz, hl]
    first | decide | (simp [widQ]; done) | simp [widQ, e0_size]
  · have hl : d.length = 8 := d1 (by decide)
    rw [show leafV 130 d = .mk 12 (beN d) e0 [] from rfl]
    refine ⟨rfl, rfl, ?_⟩
    rw [sh_leaf _ _ _ (by decide) (by decide), dataS_sz, hl]
    first | decide | (simp [widQ]; done) | simp [widQ, e0_size]
  · have hl : d.length = 8 := d1 (by decide)
    rw [show leafV 131 d = .mk 14 (sgnX (beN d) d.length) e0 [] from rfl]
    refine ⟨rfl, rfl, ?_⟩
    rw [sh_leaf _ _ _ (by decide) (by decide), dataS_sz, hl]
    first | decide | (simp [widQ]; done) | simp [widQ, e0_size]
  · have hl : d.length = 8 := d1 (by decide)
    rw [show leafV 132 d = .mk 17 0 (mkT d) [] from rfl]
    refine ⟨rfl, rfl, ?_⟩
    rw [sh_leaf _ _ _ (by decide) (by decide), dataS_sz, hl]
    have hz : (mkT d).size = 8 := by rw [show (mkT d).size = d.length from rfl, hl]
    rw [if_neg (by decide), if_pos (by decide)]
    split
    · decide
    · show (mkT d).size ≤ _; omega
  · have hl : d.length = 16 := d1 (by decide)
    rw [show leafV 148 d = .mk 18 0 (mkT d) [] from rfl]
    refine ⟨rfl, rfl, ?_⟩
    rw [sh_leaf _ _ _ (by decide) (by decide), dataS_sz, hl]
    have hz : (mkT d).size = 16 := by rw [show (mkT d).size = d.length from rfl, hl]
    rw [if_neg (by decide), if_neg (by decide), if_pos (by decide)]
    show (mkT d).size ≤ _; omega
  · have hl : d.length = 16 := d1 (by decide)
    rw [show leafV 152 d = .mk 15 0 (mkT d) [] from rfl]
    refine ⟨rfl, rfl, ?_⟩
    rw [sh_leaf _ _ _ (by decide) (by decide), dataS_sz, hl]
    have hz : (mkT d).size = 16 := by rw [show (mkT d).size = d.length from rfl, hl]
    rw [if_neg (by decide), if_neg (by decide), if_pos (by decide)]
    show (mkT d).size ≤ _; omega
  · have hw : wideC 160 = 1 := rfl
    have h2 := d2 (by decide)
    have h3 := d3 (by decide)
    rw [hw] at h2 h3
    have hz : (mkT (d.drop 1)).size = d.length - 1 := by rw [show (mkT (d.drop 1)).size = (d.drop 1).length from rfl, List.length_drop]
    rw [show leafV 160 d = .mk 19 0 (mkT (d.drop 1)) [] from rfl]
    refine ⟨rfl, by
      rw [sh_leaf _ _ _ (by decide) (by decide)]
      show decide ((mkT (d.drop 1)).size ≤ 255) = true
      rw [hz, decide_eq_true_eq]
      have := h3 rfl
      omega, ?_⟩
    rw [sh_leaf _ _ _ (by decide) (by decide), dataS_sz]
    rw [if_neg (by decide), if_neg (by decide), if_neg (by decide)]
    rw [if_pos (by decide)]
    show 1 + (mkT (d.drop 1)).size ≤ d.length
    rw [hz]; omega
  · have hw : wideC 161 = 1 := rfl
    have h2 := d2 (by decide)
    have h3 := d3 (by decide)
    rw [hw] at h2 h3
    have hz : (mkT (d.drop 1)).size = d.length - 1 := by rw [show (mkT (d.drop 1)).size = (d.drop 1).length from rfl, List.length_drop]
    rw [show leafV 161 d = .mk 20 0 (mkT (d.drop 1)) [] from rfl]
    refine ⟨rfl, by
      rw [sh_leaf _ _ _ (by decide) (by decide)]
      show decide ((mkT (d.drop 1)).size ≤ 255) = true
      rw [hz, decide_eq_true_eq]
      have := h3 rfl
      omega, ?_⟩
    rw [sh_leaf _ _ _ (by decide) (by decide), dataS_sz]
    rw [if_neg (by decide), if_neg (by decide), if_neg (by decide)]
    rw [if_pos (by decide)]
    show 1 + (mkT (d.drop 1)).size ≤ d.length
    rw [hz]; omega
  · have hw : wideC 163 = 1 := rfl
    have h2 := d2 (by decide)
    have h3 := d3 (by decide)
    rw [hw] at h2 h3
    have hz : (mkT (d.drop 1)).size = d.length - 1 := by rw [show (mkT (d.drop 1)).size = (d.drop 1).length from rfl, List.length_drop]
    rw [show leafV 163 d = .mk 21 0 (mkT (d.drop 1)) [] from rfl]
    refine ⟨rfl, by
      rw [sh_leaf _ _ _ (by decide) (by decide)]
      show decide ((mkT (d.drop 1)).size ≤ 255) = true
      rw [hz, decide_eq_true_eq]
      have := h3 rfl
      omega, ?_⟩
    rw [sh_leaf _ _ _ (by decide) (by decide), dataS_sz]
    rw [if_neg (by decide), if_neg (by decide), if_neg (by decide)]
    rw [if_pos (by decide)]
    show 1 + (mkT (d.drop 1)).size ≤ d.length
    rw [hz]; omega
  · have hw : wideC 176 = 4 := rfl
    have h2 := d2 (by decide)
    have h3 := d3 (by decide)
    rw [hw] at h2 h3
    have hz : (mkT (d.drop 4)).size = d.length - 4 := by rw [show (mkT (d.drop 4)).size = (d.drop 4).length from rfl, List.length_drop]
    rw [show leafV 176 d = .mk 19 0 (mkT (d.drop 4)) [] from rfl]
    refine ⟨rfl, rfl, ?_⟩
    rw [sh_leaf _ _ _ (by decide) (by decide), dataS_sz]
    rw [if_neg (by decide), if_neg (by decide), if_neg (by decide)]
    rw [if_neg (by decide), if_pos (by decide)]
    show 4 + (mkT (d.drop 4)).size ≤ d.length
    rw [hz]; omega
  · have hw : wideC 177 = 4 := rfl
    have h2 := d2 (by decide)
    have h3 := d3 (by decide)
    rw [hw] at h2 h3
    have hz : (mkT (d.drop 4)).size = d.length - 4 := by rw [show (mkT (d.drop 4)).size = (d.drop 4).length from rfl, List.length_drop]
    rw [show leafV 177 d = .mk 20 0 (mkT (d.drop 4)) [] from rfl]
    refine ⟨rfl, rfl, ?_⟩
    rw [sh_leaf _ _ _ (by decide) (by decide), dataS_sz]
    rw [if_neg (by decide), if_neg (by decide), if_neg (by decide)]
    rw [if_neg (by decide), if_pos (by decide)]
    show 4 + (mkT (d.drop 4)).size ≤ d.length
    rw [hz]; omega
  · have hw : wideC 179 = 4 := rfl
    have h2 := d2 (by decide)
    have h3 := d3 (by decide)
    rw [hw] at h2 h3
    have hz : (mkT (d.drop 4)).size = d.length - 4 := by rw [show (mkT (d.drop 4)).size = (d.drop 4).length from rfl, List.length_drop]
    rw [show leafV 179 d = .mk 21 0 (mkT (d.drop 4)) [] from rfl]
    refine ⟨rfl, rfl, ?_⟩
    rw [sh_leaf _ _ _ (by decide) (by decide), dataS_sz]
    rw [if_neg (by decide), if_neg (by decide), if_neg (by decide)]
    rw [if_neg (by decide), if_pos (by decide)]
    show 4 + (mkT (d.drop 4)).size ≤ d.length
    rw [hz]; omega
  · exfalso; omega
  · exfalso; omega
  · exfalso; omega
  · exfalso; omega
  · exfalso; omega
  · exfalso; omega
theorem cons_min : ∀ (n : Nat) (l : List UInt8) (ns : List Val) (C : Int) (r : List UInt8), consL n l = .ok ((ns, C), r) → hsz ns + 1 + r.length ≤ l.length ∧ kindC C ≠ 0
  | 0, _, _, _, _, h => by cases h
  | n + 1, l, ns, C, r, h => by
    have hk := (consL_len _ _ _ _ _ h).2
    refine ⟨?_, hk⟩
    rw [consL_succ] at h
    unfold consS at h
    match l, h with
    | [], h => cases h
    | c :: [], h =>
      dsimp only at h
      split at h
      · cases h
      · split at h
        · cases h
        · injection h with h
          injection h with h1 h2
          injection h1 with h1 h3
          subst h1 h2
          exact Nat.le_refl _
    | c :: k :: r2, h =>
      dsimp only at h
      split at h
      · unfold nameS at h
        split at h
        · cases h
        · rename_i hn
          cases hd : dataL (u8I k) r2 with
          | error e => rw [hd] at h; cases h
          | ok y =>
            obtain ⟨d, r3⟩ := y
            rw [hd] at h
            dsimp only at h
            cases hc : consL n r3 with
            | error e => rw [hc] at h; cases h
            | ok z =>
              obtain ⟨⟨ms, D⟩, r4⟩ := z
              rw [hc] at h
              dsimp only at h
              injection h with h
              injection h with h1 h2
              injection h1 with h1 h3
              subst h1 h2
              have ih := (cons_min n r3 ms D r4 hc).1
              obtain ⟨o1, o2⟩ := dataL_ok hd
              have hkk : kindC (u8I k) ≠ 0 := by omega
              have hlt : u8I k < 192 := by
                have : ∀ c ∈ ([64, 65, 66, 67, 68, 69, 80, 81, 82, 83, 84, 85, 86, 96, 97, 112, 113, 114, 115, 116, 128, 129, 130, 131, 132, 148, 152, 160, 161, 163, 176, 177, 179, 192, 193, 208, 209, 224, 240] : List Int), (kindC c = 6 ∨ kindC c = 21) → c < 192 := by decide
                exact this _ (code_in hkk) (by omega)
              obtain ⟨m1, m2, m3⟩ := leaf_min hkk hlt o1
              have hw := wr_call hkk m1 m2 m3 []
              have e : callV [] (leafV (u8I k) d) = leafV (u8I k) d := rfl
              rw [e] at hw
              simp only [hsz, List.map_cons, List.sum_cons, List.map_nil, List.sum_nil, List.length_cons] at hw ih ⊢
              omega
      · split at h
        · cases h
        · injection h with h
          injection h with h1 h2
          injection h1 with h1 h3
          subst h1 h2
          show 0 + 1 + (k :: r2).length ≤ (k :: r2).length + 1
          omega
theorem item_min {rd : Int → List UInt8 → Except Int Val} (hrd : ∀ C d w, kindC C ≠ 0 → OkD C d → rd C d = .ok w → RdM w C d) {ns : List Val} {C : Int} (hC : kindC C ≠ 0) {l r : List UInt8} {v : Val} (h : itemF rd ns C l = .ok (v, r)) :
    ∃ w, v = callV ns w ∧ w.kind = kindC C ∧ fitS C (shV w) = true ∧ (dataS C (shV w)).size + r.length ≤ l.length := by
  obtain ⟨d, w, h1, h2, rfl⟩ := itemF_len h
  obtain ⟨o1, o2⟩ := dataL_ok h1
  obtain ⟨m1, m2, m3⟩ := hrd C d w hC o1 h2
  exact ⟨w, rfl, m1, m2, by omega⟩
theorem val_min {rd : Int → List UInt8 → Except Int Val} (hrd : ∀ C d w, kindC C ≠ 0 → OkD C d → rd C d = .ok w → RdM w C d) {l r : List UInt8} {v : Val} (h : valF rd l = .ok (v, r)) : (wrV v).size + r.length ≤ l.length := by
  unfold valF at h
  cases hc : consL (l.length + 1) l with
  | error e => rw [hc] at h; cases h
  | ok y =>
    obtain ⟨⟨ns, C⟩, r2⟩ := y
    rw [hc] at h
    obtain ⟨c1, c2⟩ := cons_min _ _ _ _ _ hc
    obtain ⟨w, rfl, w1, w2, w3⟩ := item_min hrd c2 h
    have := wr_call c2 w1 w2 (Nat.le_refl _) ns
    omega
theorem many_min {rd : Int → List UInt8 → Except Int Val} (hrd : ∀ C d w, kindC C ≠ 0 → OkD C d → rd C d = .ok w → RdM w C d) : ∀ (n : Nat) {l r : List UInt8} {vs : List Val}, manyF (valF rd) n l = .ok (vs, r) → (catW (vs.map encV)).size + r.length ≤ l.length ∧ vs.length = n
  | 0, l, r, vs, h => by
    injection h with h
    injection h with h1 h2
    subst h1 h2
    exact ⟨by simp [catW, e0_size], rfl⟩
  | n + 1, l, r, vs, h => by
    simp only [manyF] at h
    cases hs : valF rd l with
    | error e => rw [hs] at h; cases h
    | ok y =>
      obtain ⟨v, l1⟩ := y
      rw [hs] at h
      dsimp only at h
      cases hm : manyF (valF rd) n l1 with
      | error e => rw [hm] at h; cases h
      | ok z =>
        obtain ⟨ws, l2⟩ := z
        rw [hm] at h
        dsimp only at h
        injection h with h
        injection h with h1 h2
        subst h1 h2
        obtain ⟨i1, i2⟩ := many_min hrd n hm
        have h3 := val_min hrd hs
        refine ⟨?_, by rw [List.length_cons, i2]⟩
        simp only [List.map_cons, catW, ByteArray.size_append]
        have : Wd (encV v).1 (encV v).2 = wrV v := rfl
        rw [this]; omega
theorem items_min {rd : Int → List UInt8 → Except Int Val} (hrd : ∀ C d w, kindC C ≠ 0 → OkD C d → rd C d = .ok w → RdM w C d) {ns : List Val} {C : Int} (hC : kindC C ≠ 0) : ∀ (n : Nat) {l r : List UInt8} {vs : List Val}, manyF (itemF rd ns C) n l = .ok (vs, r) →
    (catD C (vs.map shV)).size + r.length ≤ l.length ∧ vs.length = n ∧ ∀ v ∈ vs, (shV v).kind = kindC C ∧ fitS C (shV v) = true ∧ (hdV v).size = hsz ns
  | 0, l, r, vs, h => by
    injection h with h
    injection h with h1 h2
    subst h1 h2
    exact ⟨by simp [catD, e0_size], rfl, fun v hv => by cases hv⟩
  | n + 1, l, r, vs, h => by
    simp only [manyF] at h
    cases hs : itemF rd ns C l with
    | error e => rw [hs] at h; cases h
    | ok y =>
      obtain ⟨v, l1⟩ := y
      rw [hs] at h
      dsimp only at h
      cases hm : manyF (itemF rd ns C) n l1 with
      | error e => rw [hm] at h; cases h
      | ok z =>
        obtain ⟨ws, l2⟩ := z
        rw [hm] at h
        dsimp only at h
        injection h with h
        injection h with h1 h2
        subst h1 h2
        obtain ⟨i1, i2, i3⟩ := items_min hrd hC n hm
        obtain ⟨w, rfl, w1, w2, w3⟩ := item_min hrd hC hs
        have hw : w.kind ≠ 25 := by rw [w1]; exact (code_has hC).2
        obtain ⟨q1, q2⟩ := call_enc w hw ns
        refine ⟨?_, by rw [List.length_cons, i2], fun v hv => ?_⟩
        · simp only [List.map_cons, catD, ByteArray.size_append, q1]; omega
        · rcases List.mem_cons.1 hv with rfl | hv
          · rw [q1, q2]
            exact ⟨by rw [sh_ne hw]; exact w1, w2, rfl⟩
          · exact i3 v hv
theorem catD_mono {a b : Int} (h : NoMore a b) : ∀ l : List Sh, (catD a l).size ≤ (catD b l).size
  | [] => Nat.le_refl _
  | s :: l => by have := catD_mono h l; have := h s; simp only [catD, ByteArray.size_append]; omega
theorem arr_min {rd : Int → List UInt8 → Except Int Val} (hrd : ∀ C d w, kindC C ≠ 0 → OkD C d → rd C d = .ok w → RdM w C d) {l r2 r : List UInt8} {ns vs : List Val} {C : Int} {m n : Nat} (hc : consL n l = .ok ((ns, C), r2)) (hm : manyF (itemF rd ns C) m r2 = .ok (vs, r)) : (arrS (vs.map encV)).size + r.length ≤ l.length ∧ vs.length = m := by
  obtain ⟨c1, c2⟩ := cons_min _ _ _ _ _ hc
  obtain ⟨i1, i2, i3⟩ := items_min hrd c2 m hm
  refine ⟨?_, i2⟩
  cases vs with
  | nil =>
    simp only [List.map_nil, catD, e0_size] at i1
    show (b1 64).size + _ ≤ _
    rw [b1_size]; omega
  | cons v vs =>
    have hmap : (encV v :: vs.map encV).map Prod.fst = (v :: vs).map shV := by simp only [List.map_cons, List.map_map]; rfl
    show ((encV v).2 ++ b1 (codeOf ((encV v :: vs.map encV).map Prod.fst)) ++ catD (codeOf ((encV v :: vs.map encV).map Prod.fst)) ((encV v :: vs.map encV).map Prod.fst)).size + r.length ≤ l.length
    rw [hmap, ByteArray.size_append, ByteArray.size_append, b1_size]
    have hle := catD_mono (codeOf_min (ls := (v :: vs).map shV) (k := kindC C) (c := C) (i3 v (by simp)).1 (code_has c2).1 (by
      rw [List.all_eq_true]
      intro s hs
      obtain ⟨x, hx, rfl⟩ := List.mem_map.1 hs
      exact (i3 x hx).2.1)) ((v :: vs).map shV)
    have h1 := (i3 v (by simp)).2.2
    have e : (encV v).2 = hdV v := rfl
    rw [e, h1]
    omega
theorem read_min : ∀ (n : Nat) (C : Int) (d : List UInt8) (w : Val), kindC C ≠ 0 → OkD C d → readF n C d = .ok w → RdM w C d
  | 0, _, _, _, _, _, h => by cases h
  | n + 1, C, d, w, hk, hd, h => by
    have ih := read_min n
    rw [readF_succ] at h
    unfold readS at h
    split at h
    · rename_i hlt
      injection h with h
      subst h
      exact leaf_min hk hlt hd
    · rename_i hge
      obtain ⟨_, d2, d3⟩ := hd
      have d2 := d2 (by omega)
      have d3 := d3 (by omega)
      unfold takeL at h
      by_cases ha : d.length < wideC C
      · rw [if_pos ha] at h; cases h
      · rw [if_neg ha] at h
        dsimp only at h
        by_cases hb : (d.drop (wideC C)).length < wideC C
        · rw [if_pos hb] at h; cases h
        · rw [if_neg hb] at h
          dsimp only at h
          have hm1 : wideC C = 1 → beN ((d.drop (wideC C)).take (wideC C)) ≤ 255 := fun hw => by
            have hbb := beN_lt _ ((d.drop (wideC C)).take (wideC C)) rfl
            have hl : ((d.drop (wideC C)).take (wideC C)).length = 1 := by
              rw [hw] at hb ⊢
              rw [List.length_take]; omega
            rw [hl] at hbb; omega
          have hr : ((d.drop (wideC C)).drop (wideC C)).length + 2 * wideC C = d.length := by
            simp only [List.length_drop] at hb ⊢; omega
          generalize beN ((d.drop (wideC C)).take (wideC C)) = m at h hm1
          generalize (d.drop (wideC C)).drop (wideC C) = r1 at h hr
          have hks : kindC C = 22 ∨ kindC C = 23 ∨ kindC C = 24 := by
            have : ∀ c ∈ ([64, 65, 66, 67, 68, 69, 80, 81, 82, 83, 84, 85, 86, 96, 97, 112, 113, 114, 115, 116, 128, 129, 130, 131, 132, 148, 152, 160, 161, 163, 176, 177, 179, 192, 193, 208, 209, 224, 240] : List Int), ¬ c < 192 → kindC c = 22 ∨ kindC c = 23 ∨ kindC c = 24 := by decide
            exact this C (code_in hk) hge
          have hcs : (wideC C = 1 ∧ (C = 192 ∨ C = 193 ∨ C = 224)) ∨ (wideC C = 4 ∧ (C = 208 ∨ C = 209 ∨ C = 240)) := by
            have : ∀ c ∈ ([64, 65, 66, 67, 68, 69, 80, 81, 82, 83, 84, 85, 86, 96, 97, 112, 113, 114, 115, 116, 128, 129, 130, 131, 132, 148, 152, 160, 161, 163, 176, 177, 179, 192, 193, 208, 209, 224, 240] : List Int), ¬ c < 192 → (wideC c = 1 ∧ (c = 192 ∨ c = 193 ∨ c = 224)) ∨ (wideC c = 4 ∧ (c = 208 ∨ c = 209 ∨ c = 240)) := by decide
            exact this C (code_in hk) hge
          have fin : ∀ {x : Except Int (List Val × List UInt8)}, endF (kindC C) x = .ok w → (∀ vs r', x = .ok (vs, r') → (if kindC C = 24 then arrS (vs.map encV) else catW (vs.map encV)).size + r'.length ≤ r1.length ∧ vs.length = m) → RdM w C d := fun {x} he hx => by
            cases x with
            | error e => cases he
            | ok y =>
              obtain ⟨vs, r'⟩ := y
              obtain rfl := endF_ok he
              obtain ⟨x1, x2⟩ := hx vs r' rfl
              have hs : shV (.mk (kindC C) 0 e0 vs) = ⟨kindC C, 0, e0, vs.length, if kindC C = 24 then arrS (vs.map encV) else catW (vs.map encV)⟩ := by
                rw [sh_ne (by show kindC C ≠ 25; omega)]; rfl
              generalize (if kindC C = 24 then arrS (vs.map encV) else catW (vs.map encV)) = ins at hs x1
              unfold RdM
              rw [hs, dataS_sz]
              refine ⟨rfl, ?_, ?_⟩
              · rcases hcs with ⟨hw, rfl | rfl | rfl⟩ | ⟨hw, rfl | rfl | rfl⟩
                all_goals first
                  | rfl
                  | (show (decide (vs.length ≤ 255) && decide (ins.size < 255)) = true
                     rw [Bool.and_eq_true, decide_eq_true_eq, decide_eq_true_eq]
                     have := hm1 hw
                     have := d3 hw
                     omega)
              · rcases hcs with ⟨hw, rfl | rfl | rfl⟩ | ⟨hw, rfl | rfl | rfl⟩
                all_goals (rw [if_neg (by decide), if_neg (by decide), if_neg (by decide), if_neg (by decide), if_neg (by decide)])
                all_goals first
                  | (rw [if_pos (by decide)]; show 1 + (1 + ins.size) ≤ _; omega)
                  | (rw [if_neg (by decide)]; show 4 + (4 + ins.size) ≤ _; omega)
          unfold bodyF at h
          split at h
          · cases h
          · split at h
            · rename_i h24
              cases hc : consL (r1.length + 1) r1 with
              | error e => rw [hc] at h; cases h
              | ok y =>
                obtain ⟨⟨ns, C'⟩, r2⟩ := y
                rw [hc] at h
                dsimp only at h
                exact fin h fun vs r' hx => by rw [if_pos h24]; exact arr_min ih hc hx
            · rename_i h24
              exact fin h fun vs r' hx => by rw [if_neg h24]; exact many_min ih m hx
end Go.Bw.R1

/- law06: of what is decoded encode tells no more. -/
namespace Go.Bw.R1
set_option maxRecDepth 5000
open Go Go.Bw Go.Proofs
end Go.Bw.R1

/- Plain: lists and maps told by more bytes. -/
namespace Go.Bw.R1
set_option maxRecDepth 5000
open Go Go.Bw
def wrL (l : List Val) : List UInt8 := l.flatMap fun x => toL (wrV x)
def wHead (c : Int) (z m : Nat) (K : List UInt8) : List UInt8 := UInt8.ofNat c.toNat :: (toL (be 4 (z : Nat)) ++ (toL (be 4 (m : Nat)) ++ K))
def isLM (c : Int) : Prop := c = 208 ∨ c = 209
theorem lm_facts {c : Int} (h : isLM c) : wideC c = 4 ∧ 192 ≤ c ∧ c ≤ 255 ∧ kindC c ≠ 0 ∧ kindC c ≠ 24 := by
  rcases h with rfl | rfl <;> decide
theorem lm_byte {c : Int} (h : isLM c) : u8I (UInt8.ofNat c.toNat) = c := u8I_of (by have := lm_facts h; omega) (by have := lm_facts h; omega)
theorem w_data {c : Int} (hc : isLM c) {z m : Nat} (hz : z < 4294967296) (K : List UInt8) : dataL c (toL (be 4 (z : Nat)) ++ (toL (be 4 (m : Nat)) ++ K)) = if 4 + K.length < z then .error 7 else .ok (toL (be 4 (z : Nat)) ++ (toL (be 4 (m : Nat)) ++ K).take z, (toL (be 4 (m : Nat)) ++ K).drop z) := by
  obtain ⟨h1, h2, _⟩ := lm_facts hc
  unfold dataL
  rw [if_neg (by omega), h1, take_app (be4L _)]
  dsimp only
  rw [be4N z hz]
  unfold takeL
  have hl : (toL (be 4 (m : Nat)) ++ K).length = 4 + K.length := by rw [List.length_append, be4L]
  rw [hl]
  by_cases hh : 4 + K.length < z
  · rw [if_pos hh, if_pos hh]
  · rw [if_neg hh, if_neg hh]
theorem many_app {step : List UInt8 → Except Int (Val × List UInt8)} (f : Val → List UInt8) : ∀ (l : List Val) (k : Nat) (rest : List UInt8), (∀ x ∈ l, ∀ r, step (f x ++ r) = .ok (x, r)) → manyF step (l.length + k) (l.flatMap f ++ rest) = (match manyF step k rest with
    | .error e => .error e
    | .ok (vs, r) => .ok (l ++ vs, r))
  | [], k, rest, _ => by
    rw [List.length_nil, Nat.zero_add, List.flatMap_nil, List.nil_append]
    cases manyF step k rest with
    | error e => rfl
    | ok y => rfl
  | x :: l, k, rest, h => by
    have h1 := h x (by simp) (l.flatMap f ++ rest)
    have h2 := many_app f l k rest fun y hy => h y (by simp [hy])
    rw [List.flatMap_cons, List.append_assoc, List.length_cons, show l.length + 1 + k = (l.length + k) + 1 by omega]
    simp only [manyF, h1, h2]
    cases manyF step k rest with
    | error e => rfl
    | ok y => rfl
def KidsOk (l : List Val) : Prop := ∀ x ∈ l, x.sz ≤ 40000000 ∧ rightS x = true ∧ x.wf
theorem many_fuel (a b m : Nat) (K : List UInt8) (ha : K.length ≤ a) (hb : K.length ≤ b) : manyF (valF (readF a)) m K = manyF (valF (readF b)) m K :=
  manyF_congr (N := K.length) (fun l hl => valF_fuel a b l (by omega) (by omega)) (fun l v r h => by
    have := val_min (read_min _) h
    omega) m K (Nat.le_refl _)
theorem many_kids {l : List Val} (hl : KidsOk l) (a k : Nat) (rest : List UInt8) (ha : (wrL l ++ rest).length ≤ a) : manyF (valF (readF a)) (l.length + k) (wrL l ++ rest) = (match manyF (valF (readF (a + Val.szL l))) k rest with
    | .error e => .error e
    | .ok (vs, r) => .ok (l ++ vs, r)) := by
  rw [many_fuel a (a + Val.szL l) _ _ ha (by omega)]
  exact many_app (fun x => toL (wrV x)) l k rest fun x hx r => by
    obtain ⟨h1, h2, h3⟩ := hl x hx
    exact wr_rt x h1 h2 h3 _ (by have := szL_in hx; omega) r
theorem val_cut {x : Val} (h1 : x.sz ≤ 40000000) (h2 : rightS x = true) (h3 : x.wf) (rd : Int → List UInt8 → Except Int Val) {k : Nat} (hk : k < (wrV x).size) : ∃ e, valF rd ((toL (wrV x)).take k) = .error e := by
  have q1 := head_of_val (wr_rt x h1 h2 h3 x.sz (Nat.le_refl _) [])
  rw [List.append_nil] at q1
  obtain ⟨p, p1, p2, p3, p4⟩ := headL_pre q1
  rw [List.append_nil] at p1
  have hh := p4 k (by rw [← p1, toL_len]; exact hk)
  rw [← p1] at hh
  generalize (toL (wrV x)).take k = q at hh
  unfold headL at hh
  unfold valF
  cases hc : consL (q.length + 1) q with
  | error e => exact ⟨e, rfl⟩
  | ok y =>
    obtain ⟨⟨ns, C⟩, r⟩ := y
    rw [hc] at hh
    dsimp only at hh ⊢
    unfold itemF
    cases hd : dataL C r with
    | error e => exact ⟨e, rfl⟩
    | ok z => rw [hd] at hh; cases hh
/-- what is decoded of a wide head whose size is no more than there is -/
theorem w_dec {c : Int} (hc : isLM c) {z m : Nat} (hz : z < 4294967296) (hm : m < 4294967296) (h4 : 4 ≤ z) {K : List UInt8} (hK : z ≤ 4 + K.length) : decS (wHead c z m K) = match bodyF (readF (4 + z)) c m (K.take (z - 4)) with
    | .error _ => .error 6
    | .ok v => if rightS v = true then .ok (v, 5 + z) else .error 6 := by
  obtain ⟨h1, h2, _, h3, _⟩ := lm_facts hc
  have hb := lm_byte hc
  have h0 : ¬ u8I (UInt8.ofNat c.toNat) = 0 := by rw [hb]; omega
  have hk : ¬ kindC (u8I (UInt8.ofNat c.toNat)) = 0 := by rw [hb]; exact h3
  have hd := w_data hc (m := m) hz K
  rw [if_neg (by omega)] at hd
  have hlm : (toL (be 4 (m : Nat))).length = 4 := be4L _
  have htk : (toL (be 4 (m : Nat)) ++ K).take z = toL (be 4 (m : Nat)) ++ K.take (z - 4) := by rw [List.take_append, hlm, List.take_of_length_le (by omega)]
  have hl : headL (wHead c z m K) = .ok ((toL (be 4 (m : Nat)) ++ K).drop z) := by
    unfold wHead
    rw [head_one h0 hk, hb, hd]
  have hp : wHead c z m K = wHead c z m (K.take (z - 4)) ++ (toL (be 4 (m : Nat)) ++ K).drop z := by
    unfold wHead
    rw [List.cons_append, List.append_assoc, ← htk, List.take_append_drop]
  rw [decS_ok hl hp]
  have hlen : (wHead c z m (K.take (z - 4))).length = 5 + z := by
    unfold wHead
    simp only [List.length_cons, List.length_append, be4L, List.length_take]; omega
  unfold tailS
  rw [hlen]
  have hv : valF (readF (5 + z)) (wHead c z m (K.take (z - 4))) = match bodyF (readF (4 + z)) c m (K.take (z - 4)) with
      | .error e => .error e
      | .ok v => .ok (v, []) := by
    unfold valF wHead
    rw [List.length_cons, consL_succ]
    unfold consS
    dsimp only
    rw [if_neg h0, if_neg hk]
    dsimp only
    rw [hb]
    have hd2 := w_data hc (m := m) hz (K.take (z - 4))
    rw [if_neg (by rw [List.length_take]; omega)] at hd2
    have e1 : (toL (be 4 (m : Nat)) ++ K.take (z - 4)).length = z := by simp only [List.length_append, be4L, List.length_take]; omega
    rw [List.take_of_length_le (Nat.le_of_eq e1), List.drop_of_length_le (Nat.le_of_eq e1)] at hd2
    unfold itemF
    rw [hd2]
    dsimp only
    rw [show 5 + z = (4 + z) + 1 by omega, readF_succ]
    have hrs := readS_many (rd := readF (4 + z)) (c := c) (w := 4) (cnt := m) (x := e0) (ins := mkT (K.take (z - 4))) (z := (z : Nat)) h2 h1 (be4L _) (be4L _) (be4N m hm)
    have e2 : toL (mkT (K.take (z - 4))) = K.take (z - 4) := by unfold toL mkT; simp
    rw [toL_app, toL_app, e2] at hrs
    rw [hrs]
    cases bodyF (readF (4 + z)) c m (K.take (z - 4)) with
    | error e => rfl
    | ok v => rfl
  rw [hv]
  cases bodyF (readF (4 + z)) c m (K.take (z - 4)) with
  | error e => rfl
  | ok v => rfl
theorem w_short {c : Int} (hc : isLM c) {z m : Nat} (hz : z < 4294967296) {K : List UInt8} (hK : 4 + K.length < z) : decS (wHead c z m K) = .error 7 := by
  obtain ⟨h1, h2, _, h3, _⟩ := lm_facts hc
  have hb := lm_byte hc
  refine decS_err ?_
  unfold wHead
  rw [head_one (by rw [hb]; omega) (by rw [hb]; exact h3), hb, w_data hc hz, if_pos hK]
theorem itemsL_len : ∀ l : List Val, l.length ≤ Val.itemsL l
  | [] => Nat.le_refl _
  | v :: l => by have := itemsL_len l; have := Val.items_eq v; simp only [List.length_cons, Val.itemsL]; omega
theorem wrL_size (l : List Val) : (wrL l).length ≤ 10 * Val.szL l := by
  induction l with
  | nil => exact Nat.zero_le _
  | cons v l ih =>
    have := wr_sz v
    unfold wrL at ih ⊢
    rw [List.flatMap_cons, List.length_append, toL_len]
    simp only [Val.szL]; omega
def wantV (c : Int) (l : List Val) : Val := .mk (kindC c) 0 e0 l
theorem body_lm {c : Int} (hc : isLM c) (rd : Int → List UInt8 → Except Int Val) (m : Nat) (K : List UInt8) : bodyF rd c m K = if 1024 < m then .error 6 else endF (kindC c) (manyF (valF rd) m K) := by
  unfold bodyF
  rw [if_neg (lm_facts hc).2.2.2.2]
theorem endF_rest {k : Int} {vs : List Val} {r : List UInt8} (h : r.isEmpty = false) : endF k (.ok (vs, r)) = .error 6 := by unfold endF; simp only [h]; rfl
theorem wa {c : Int} (hc : isLM c) {l : List Val} (hl : KidsOk l) (hs : (wrL l).length < 4294967000) (hn : l.length < 4294967296) : decS (wHead c ((wrL l).length + 4) l.length (wrL l)) = if rightS (wantV c l) = true then .ok (wantV c l, (wrL l).length + 9) else .error 6 := by
  rw [w_dec hc (by omega) hn (by omega) (by omega), List.take_of_length_le (by omega), body_lm hc]
  by_cases h : 1024 < l.length
  · rw [if_pos h]
    have : ¬ rightS (wantV c l) = true := by
      intro hr
      unfold rightS at hr
      simp only [Bool.and_eq_true, decide_eq_true_eq] at hr
      have h1 := hr.1.2
      have h2 := itemsL_len l
      have h3 : (wantV c l).items = Val.itemsL l + 1 := Val.items_eq _
      omega
    rw [if_neg this]
  · rw [if_neg h]
    have hm := many_kids hl (4 + ((wrL l).length + 4)) 0 [] (by rw [List.append_nil]; omega)
    simp only [Nat.add_zero, List.append_nil] at hm
    rw [hm]
    simp only [manyF, List.append_nil, endF_nil]
    rw [show 5 + ((wrL l).length + 4) = (wrL l).length + 9 by omega]
    rfl
theorem wb {c : Int} (hc : isLM c) {l : List Val} (hs : (wrL l).length < 4294967000) (n : Nat) : decS (wHead c ((wrL l).length + 5) n (wrL l)) = .error 7 := w_short hc (by omega) (by omega)
theorem wc {c : Int} (hc : isLM c) {l : List Val} (hl : KidsOk l) (hs : (wrL l).length < 4294967000) {m : Nat} (hm : l.length < m) (hm2 : m < 4294967296) : decS (wHead c ((wrL l).length + 4) m (wrL l)) = .error 6 := by
  rw [w_dec hc (by omega) hm2 (by omega) (by omega), List.take_of_length_le (by omega), body_lm hc]
  by_cases h : 1024 < m
  · rw [if_pos h]
  · rw [if_neg h]
    have hk := many_kids hl (4 + ((wrL l).length + 4)) (m - l.length) [] (by rw [List.append_nil]; omega)
    rw [List.append_nil, show l.length + (m - l.length) = m by omega] at hk
    obtain ⟨j, hj⟩ : ∃ j, m - l.length = j + 1 := ⟨m - l.length - 1, by omega⟩
    rw [hk, hj]
    rfl
theorem split_last {l : List Val} (h : 0 < l.length) : ∃ a x, l = a ++ [x] := by
  refine ⟨l.dropLast, l.getLast (by intro e; rw [e] at h; cases h), (List.dropLast_concat_getLast _).symm⟩
theorem wrL_app (a b : List Val) : wrL (a ++ b) = wrL a ++ wrL b := by unfold wrL; rw [List.flatMap_append]
theorem wrL_one (x : Val) : wrL [x] = toL (wrV x) := by unfold wrL; simp
theorem wd {c : Int} (hc : isLM c) {l : List Val} (hl : KidsOk l) (hs : (wrL l).length < 4294967000) (h0 : 0 < l.length) (hn : l.length < 4294967296) : decS (wHead c ((wrL l).length + 3) l.length (wrL l)) = .error 6 := by
  obtain ⟨a, x, rfl⟩ := split_last h0
  have hx := hl x (by simp)
  have ha : KidsOk a := fun y hy => hl y (by simp [hy])
  have p1 := wr_pos x
  have hlen : (wrL (a ++ [x])).length = (wrL a).length + (wrV x).size := by rw [wrL_app, wrL_one, List.length_append, toL_len]
  rw [w_dec hc (by omega) hn (by omega) (by omega), body_lm hc]
  by_cases h : 1024 < (a ++ [x]).length
  · rw [if_pos h]
  · rw [if_neg h]
    have e : (wrL (a ++ [x])).take ((wrL (a ++ [x])).length + 3 - 4) = wrL a ++ (toL (wrV x)).take ((wrV x).size - 1) := by
      rw [hlen, wrL_app, wrL_one, List.take_append, List.take_of_length_le (by omega), show (wrL a).length + (wrV x).size + 3 - 4 - (wrL a).length = (wrV x).size - 1 by omega]
    rw [e, List.length_append, List.length_singleton]
    have hk := many_kids ha (4 + ((wrL (a ++ [x])).length + 3)) 1 ((toL (wrV x)).take ((wrV x).size - 1)) (by rw [List.length_append, List.length_take, toL_len]; omega)
    rw [hk]
    obtain ⟨e1, he⟩ := val_cut hx.1 hx.2.1 hx.2.2 (readF (4 + ((wrL (a ++ [x])).length + 3) + Val.szL a)) (k := (wrV x).size - 1) (by omega)
    simp only [manyF, he]
    rfl
theorem we {c : Int} (hc : isLM c) {l : List Val} (hl : KidsOk l) (hs : (wrL l).length < 4294967000) (h0 : 0 < l.length) (hn : l.length < 4294967296) : decS (wHead c ((wrL l).length + 4) (l.length - 1) (wrL l)) = .error 6 := by
  obtain ⟨a, x, rfl⟩ := split_last h0
  have ha : KidsOk a := fun y hy => hl y (by simp [hy])
  have p1 := wr_pos x
  rw [w_dec hc (by omega) (by omega) (by omega) (by omega), List.take_of_length_le (by omega), body_lm hc]
  by_cases h : 1024 < (a ++ [x]).length - 1
  · rw [if_pos h]
  · rw [if_neg h]
    have hk := many_kids ha (4 + ((wrL (a ++ [x])).length + 4)) 0 (toL (wrV x)) (by rw [wrL_app, wrL_one]; omega)
    rw [wrL_app, wrL_one] at *
    rw [show (a ++ [x]).length - 1 = a.length + 0 by simp, hk]
    have hne : (toL (wrV x)).isEmpty = false := by
      cases ht : toL (wrV x) with
      | nil => have := toL_len (wrV x); rw [ht] at this; simp at this; omega
      | cons y t => rfl
    simp only [manyF, endF_rest hne]
end Go.Bw.R1

/- law06: lists, maps and texts told by more bytes. -/
namespace Go.Bw.R1
set_option maxRecDepth 5000
open Go Go.Bw Go.Proofs
def wB (c : Int) (z m : Nat) (K : ByteArray) : ByteArray := b1 c ++ be 4 (z : Nat) ++ be 4 (m : Nat) ++ K
theorem b1_cons {a : Int} {K : ByteArray} (h0 : 0 ≤ a) (h1 : a ≤ 255) : D.sc (.int .u8 a) :: bytesD K = bytesD (b1 a ++ K) := by
  have h := one_b1 (ex := false) h0 h1
  simp only [D.ro.injEq, true_and] at h
  rw [← bytesD_append, ← h]; rfl
theorem b1_cons0 {a : Int} (h0 : 0 ≤ a) (h1 : a ≤ 255) : [D.sc (.int .u8 a)] = bytesD (b1 a) := by
  have h := one_b1 (ex := false) h0 h1
  simp only [D.ro.injEq, true_and] at h
  exact h
theorem wB_eq (c : Int) (z m : Nat) (K : ByteArray) : wB c z m K = b1 c ++ (b1 ((z : Int).fdiv 16777216 % 256) ++ (b1 ((z : Int).fdiv 65536 % 256) ++ (b1 ((z : Int).fdiv 256 % 256) ++ (b1 ((z : Int) % 256) ++ (b1 ((m : Int).fdiv 16777216 % 256) ++ (b1 ((m : Int).fdiv 65536 % 256) ++ (b1 ((m : Int).fdiv 256 % 256) ++ (b1 ((m : Int) % 256) ++ K)))))))) := by
  unfold wB
  simp only [be_4, ByteArray.append_assoc]
theorem wB_size (c : Int) (z m : Nat) (K : ByteArray) : (wB c z m K).size = 9 + K.size := by
  unfold wB
  simp only [ByteArray.size_append, b1_size, be_size (w := 4) (by simp [wOk])]
theorem toL_wB {c : Int} (z m : Nat) (K : ByteArray) : toL (wB c z m K) = wHead c z m (toL K) := by
  unfold wB wHead
  simp only [toL_app, toL_b1, List.append_assoc, List.cons_append, List.nil_append]
set_option maxHeartbeats 2000000 in
theorem head_c (c : Int) (z m : Nat) (K : ByteArray) (h0 : 0 ≤ c) (h1 : c ≤ 255) (hK : K.size ≤ 1000000000) (hk0 : ¬ K.size = 0) : EV 31 [.sc (.int .u8 c), I z, I m, .ro false (bytesD K)] [] = some (.ret (.ro false (bytesD (wB c z m K))), []) := by
  refine (ev_body ⟨[], [], [], true, [], noIt⟩ [.tmp 8] rfl Tryd.func31 rfl rfl rfl (by kernel_rfl) (by show 4 ≤ 37; decide) (by kernel_rfl)).trans ?_
  have hs := wB_size c z m K
  rw [wB_eq] at hs ⊢
  simp +contextual (maxSteps := 10000000) only [↓reduceIte, go_sem, Nat.reduceEqDiff, Nat.reduceAdd, Nat.reduceSub, Nat.reduceMul, Nat.reduceLeDiff, Nat.reduceLT, Nat.reduceBEq, Nat.reduceDiv, Nat.reduceMod, Int.reduceLE, Int.reduceLT, Int.reduceEq, Int.reduceBEq, Int.reduceBNe, Int.reduceAdd, Int.reduceSub, Int.reduceNeg, Int.reduceToNat, Int.reduceMul, Int.reducePow, Nat.reducePow, reduceCtorEq, eq_false hk0, b1_cons, h0, h1, sz_le, fsE_bytesn, hs, show (9 + K.size ≤ 140737488355328) = True from eq_true (by omega)]
set_option maxHeartbeats 2000000 in
theorem head_n (c : Int) (z m : Nat) (h0 : 0 ≤ c) (h1 : c ≤ 255) : EV 31 [.sc (.int .u8 c), I z, I m, .nils] [] = some (.ret (.ro false (bytesD (wB c z m ⟨#[]⟩))), []) := by
  refine (ev_body ⟨[], [], [], true, [], noIt⟩ [.tmp 8] rfl Tryd.func31 rfl rfl rfl (by kernel_rfl) (by show 4 ≤ 37; decide) (by kernel_rfl)).trans ?_
  have hs := wB_size c z m ⟨#[]⟩
  rw [wB_eq, ba_app_nil] at hs ⊢
  simp +contextual (maxSteps := 10000000) only [↓reduceIte, go_sem, Nat.reduceEqDiff, Nat.reduceAdd, Nat.reduceSub, Nat.reduceMul, Nat.reduceLeDiff, Nat.reduceLT, Nat.reduceBEq, Nat.reduceDiv, Nat.reduceMod, Int.reduceLE, Int.reduceLT, Int.reduceEq, Int.reduceBEq, Int.reduceBNe, Int.reduceAdd, Int.reduceSub, Int.reduceNeg, Int.reduceToNat, Int.reduceMul, Int.reducePow, Nat.reducePow, reduceCtorEq, h0, h1, sz_le]
  simp only [← b1_cons h0 h1, ← b1_cons (of_eq_true (lo8_le _)) (of_eq_true (lo8_lt _)), ← b1_cons0 (of_eq_true (lo8_le _)) (of_eq_true (lo8_lt _))]
end Go.Bw.R1

/- law06: DecodeWide. -/
namespace Go.Bw.R1
set_option maxRecDepth 5000
open Go Go.Bw Go.Proofs
def tB (s : ByteArray) : ByteArray := b1 176 ++ (b1 0 ++ (b1 0 ++ (b1 0 ++ (b1 (s.size : Nat) ++ s))))
theorem tB_size (s : ByteArray) : (tB s).size = 5 + s.size := by unfold tB; simp only [ByteArray.size_append, b1_size]; omega
theorem w_text (s : ByteArray) (h : s.size ≤ 255) : decS (toL (tB s)) = .ok (.mk 19 0 s [], 5 + s.size) := by
  have hb : u8I (UInt8.ofNat (176 : Int).toNat) = 176 := by decide
  have h0 : ¬ u8I (UInt8.ofNat (176 : Int).toNat) = 0 := by decide
  have hk : ¬ kindC (u8I (UInt8.ofNat (176 : Int).toNat)) = 0 := by decide
  have he : toL (tB s) = UInt8.ofNat (176 : Int).toNat :: (toL (be 4 (s.size : Nat)) ++ toL s) := by
    have e4 : be 4 (s.size : Nat) = b1 0 ++ b1 0 ++ b1 0 ++ b1 (s.size : Nat) := by
      rw [be_4]
      have e1 : ((s.size : Nat) : Int).fdiv 16777216 % 256 = 0 := by rw [Int.fdiv_eq_ediv_of_nonneg _ (by decide)]; omega
      have e2 : ((s.size : Nat) : Int).fdiv 65536 % 256 = 0 := by rw [Int.fdiv_eq_ediv_of_nonneg _ (by decide)]; omega
      have e3 : ((s.size : Nat) : Int).fdiv 256 % 256 = 0 := by rw [Int.fdiv_eq_ediv_of_nonneg _ (by decide)]; omega
      have e5 : ((s.size : Nat) : Int) % 256 = (s.size : Nat) := by omega
      rw [e1, e2, e3, e5]
    rw [e4]
    unfold tB
    simp only [toL_app, toL_b1, List.append_assoc, List.cons_append, List.nil_append]
  have hd : dataL 176 (toL (be 4 (s.size : Nat)) ++ toL s) = .ok (toL (be 4 (s.size : Nat)) ++ toL s, []) := by
    have := long_rt (c := 176) (w := 4) (t := s) (rest := []) (by decide) rfl (be4L _) (be4N _ (by omega))
    rw [toL_app] at this
    simpa using this
  have hl : headL (toL (tB s)) = .ok [] := by rw [he, head_one h0 hk, hb, hd]
  have hlen : (toL (tB s)).length = 5 + s.size := by rw [toL_len, tB_size]
  rw [decS_ok hl (p := toL (tB s)) (by rw [List.append_nil])]
  unfold tailS
  rw [hlen]
  have hv : valF (readF (5 + s.size)) (toL (tB s)) = .ok (.mk 19 0 s [], []) := by
    rw [he]
    unfold valF
    rw [List.length_cons, consL_succ]
    unfold consS
    dsimp only
    rw [if_neg h0, if_neg hk]
    dsimp only
    rw [hb]
    unfold itemF
    rw [hd]
    dsimp only
    rw [show 5 + s.size = (4 + s.size) + 1 by omega, readF_succ]
    unfold readS
    rw [if_pos (by decide)]
    have e : leafV 176 (toL (be 4 (s.size : Nat)) ++ toL s) = .mk 19 0 s [] := by
      show Val.mk 19 0 (mkT ((toL (be 4 (s.size : Nat)) ++ toL s).drop 4)) [] = _
      rw [List.drop_append, be4L, List.drop_of_length_le (by rw [be4L]; omega), List.nil_append, List.drop_zero, mkT_toL]
    rw [e]
    rfl
  rw [hv]
  dsimp only
  rw [if_pos (right_leaf (by decide) (by decide) rfl rfl)]
theorem wl0 : wrL [] = [] := rfl
theorem kids_nil : KidsOk [] := fun x hx => by cases hx
set_option maxHeartbeats 8000000 in
theorem wide_nil (s : ByteArray) (y : Nat) (hs : s.size ≤ 255) (hy : y < 256) : EW 13 [.ro false [], .sc (.string s), .sc (.int .u8 (y : Nat))] [] = some (.ret (B true), []) := by
  have hl := ew_of rfl (large_c [] (by decide))
  have g2 : decide ((255 : Int) < s.size) = false := decide_eq_false (by omega)
  rw [show decide (8192 < lgS []) = false from rfl] at hl
  simp only [List.map_nil] at hl
  have many : ∀ k : Int, EW 30 [.sc (.int .u8 k), .ro false []] [] = some (.ret (Val.mk k 0 ⟨#[]⟩ []).d, []) := fun k => ew_of rfl (many_c k [] (by decide))
  have hd : ∀ (c : Int) (z m : Nat), 0 ≤ c → c ≤ 255 → EW 31 [.sc (.int .u8 c), I z, I m, .nils] [] = some (.ret (.ro false (bytesD (wB c z m ⟨#[]⟩))), []) := fun c z m h0 h1 => ew_of rfl (head_n c z m h0 h1)
  have dc : ∀ (c : Int) (z m : Nat), EW 15 [.ro false (bytesD (wB c z m ⟨#[]⟩))] [] = some (decR (decS (wHead c z m []))) := fun c z m => by
    have := decode_c (wB c z m ⟨#[]⟩) (by rw [wB_size]; decide)
    rw [toL_wB] at this; exact this
  have rd : ∀ (c : Int), isLM c → decS (wHead c 4 0 []) = (if rightS (wantV c []) = true then .ok (wantV c [], 9) else .error 6) := fun c hc => by
    have h := wa hc kids_nil (by rw [wl0]; decide) (by decide)
    rw [wl0] at h
    simpa only [List.length_nil, Nat.zero_add] using h
  have rs : ∀ (c : Int), isLM c → decS (wHead c 5 0 []) = .error 7 := fun c hc => by
    have h := wb hc (l := []) (by rw [wl0]; decide) 0
    rw [wl0] at h
    simpa only [List.length_nil, Nat.zero_add] using h
  have rc : ∀ (c : Int) (m : Nat), isLM c → 0 < m → m < 1000 → decS (wHead c 4 m []) = .error 6 := fun c m hc h0 h1 => by
    have h := wc hc kids_nil (by rw [wl0]; decide) h0 (by omega)
    rw [wl0] at h
    simpa only [List.length_nil, Nat.zero_add] using h
  have ay : ((1 : Int) + (y : Nat)) = ((1 + y : Nat) : Int) := by omega
  have w1 : IntKind.i64.wrap ((1 : Int) + (y : Nat)) = 1 + (y : Nat) := wrap_i64 (by omega) (by omega)
  have a1 := hd 208 4 0 (by decide) (by decide)
  have a2 := hd 208 5 0 (by decide) (by decide)
  have a3 := hd 208 4 (1 + y) (by decide) (by decide)
  have a4 := hd 209 4 0 (by decide) (by decide)
  have a5 := hd 209 5 0 (by decide) (by decide)
  have a6 := hd 209 4 (1 + y) (by decide) (by decide)
  rw [← ay] at a3 a6
  have b1' := dc 208 4 0
  have b2 := dc 208 5 0
  have b3 := dc 208 4 (1 + y)
  have b4 := dc 209 4 0
  have b5 := dc 209 5 0
  have b6 := dc 209 4 (1 + y)
  rw [rd 208 (.inl rfl), if_pos (by rfl)] at b1'
  rw [rs 208 (.inl rfl)] at b2
  rw [rc 208 _ (.inl rfl) (by omega) (by omega)] at b3
  rw [rd 209 (.inr rfl), if_pos (by rfl)] at b4
  rw [rs 209 (.inr rfl)] at b5
  rw [rc 209 _ (.inr rfl) (by omega) (by omega)] at b6
  unfold decR at b1' b2 b3 b4 b5 b6
  dsimp only at b1' b2 b3 b4 b5 b6
  have v1 : wantV 208 [] = .mk 22 0 ⟨#[]⟩ [] := rfl
  have v2 : wantV 209 [] = .mk 23 0 ⟨#[]⟩ [] := rfl
  rw [v1] at b1'
  rw [v2] at b4
  have c1 := ew_of rfl (right_c (.mk 22 0 ⟨#[]⟩ []) (by decide) (by simp [Val.wf, Val.wfL]))
  have c2 := ew_of rfl (right_c (.mk 23 0 ⟨#[]⟩ []) (by decide) (by simp [Val.wf, Val.wfL]))
  rw [show rightS (.mk 22 0 ⟨#[]⟩ []) = true by rfl] at c1
  rw [show rightS (.mk 23 0 ⟨#[]⟩ []) = true by rfl] at c2
  have s1 := ew_of rfl (same_c _ (.mk 22 0 ⟨#[]⟩ []) (.mk 22 0 ⟨#[]⟩ []) (Nat.le_refl _) (by decide))
  have s2 := ew_of rfl (same_c _ (.mk 23 0 ⟨#[]⟩ []) (.mk 23 0 ⟨#[]⟩ []) (Nat.le_refl _) (by decide))
  rw [same_refl] at s1 s2
  have z1 := wB_size 208 4 0 ⟨#[]⟩
  have z2 := wB_size 209 4 0 ⟨#[]⟩
  simp only [Int.cast_ofNat_Int] at a1 a2 a3 a4 a5 a6 b1' b4
  have wy : IntKind.i64.wrap ((y : Nat) : Int) = (y : Nat) := wrap_i64 (by omega) (by omega)
  have tx := decode_c (tB s) (by rw [tB_size]; omega)
  rw [w_text s hs] at tx
  unfold decR at tx
  dsimp only at tx
  have ts := tB_size s
  have tt := ew_of rfl (text_c 19 s)
  have txs := ew_of rfl (same_c _ (.mk 19 0 s []) (.mk 19 0 s []) (Nat.le_refl _) (by simp only [Val.sz, Val.szL]; omega))
  rw [same_refl] at txs
  refine (ev_body ⟨[], [(0, [0, 1, 2, 7, 8]), (2, [0, 1, 2, 7, 11, 12])], [(31, [(0, 0, false), (1, 0, false), (2, 0, false), (3, 0, false), (4, 0, false), (5, 0, false), (6, 0, false), (7, 0, false), (8, 0, false), (9, 0, false), (10, 0, false), (11, 0, false), (12, 0, false), (13, 0, false), (14, 0, false), (15, 0, false), (16, 0, false), (17, 0, false)])], false, [(3000011, [7]), (3000030, [30])], noIt⟩ [.tmp 6] rfl Tryd.func13 rfl rfl rfl (by kernel_rfl) (by show 3 ≤ 219; decide) (by kernel_rfl)).trans ?_
  simp +contextual (maxSteps := 10000000) only [↓reduceIte, go_sem, Nat.reduceEqDiff, Nat.reduceAdd, Nat.reduceSub, Nat.reduceMul, Nat.reduceLeDiff, Nat.reduceLT, Nat.reduceBEq, Nat.reduceDiv, Nat.reduceMod, Int.reduceLE, Int.reduceLT, Int.reduceEq, Int.reduceBEq, Int.reduceBNe, Int.reduceAdd, Int.reduceSub, Int.reduceNeg, Int.reduceToNat, Int.reduceMul, Int.reducePow, Nat.reducePow, reduceCtorEq, hl, g2]
  rw [lpK_go]
  simp +contextual (maxSteps := 10000000) only [↓reduceIte, go_sem, Nat.reduceEqDiff, Nat.reduceAdd, Nat.reduceSub, Nat.reduceMul, Nat.reduceLeDiff, Nat.reduceLT, Nat.reduceBEq, Nat.reduceDiv, Nat.reduceMod, Int.reduceLE, Int.reduceLT, Int.reduceEq, Int.reduceBEq, Int.reduceBNe, Int.reduceAdd, Int.reduceSub, Int.reduceNeg, Int.reduceToNat, Int.reduceMul, Int.reducePow, Nat.reducePow, reduceCtorEq]
  rw [lpK_go]
  simp +contextual (maxSteps := 10000000) only [↓reduceIte, go_sem, Nat.reduceEqDiff, Nat.reduceAdd, Nat.reduceSub, Nat.reduceMul, Nat.reduceLeDiff, Nat.reduceLT, Nat.reduceBEq, Nat.reduceDiv, Nat.reduceMod, Int.reduceLE, Int.reduceLT, Int.reduceEq, Int.reduceBEq, Int.reduceBNe, Int.reduceAdd, Int.reduceSub, Int.reduceNeg, Int.reduceToNat, Int.reduceMul, Int.reducePow, Nat.reducePow, reduceCtorEq, many, a1, a2, a3, b1', b2, b3, c1, s1, wy, w1, z1]
  rw [lpK_go]
  simp +contextual (maxSteps := 10000000) only [↓reduceIte, go_sem, Nat.reduceEqDiff, Nat.reduceAdd, Nat.reduceSub, Nat.reduceMul, Nat.reduceLeDiff, Nat.reduceLT, Nat.reduceBEq, Nat.reduceDiv, Nat.reduceMod, Int.reduceLE, Int.reduceLT, Int.reduceEq, Int.reduceBEq, Int.reduceBNe, Int.reduceAdd, Int.reduceSub, Int.reduceNeg, Int.reduceToNat, Int.reduceMul, Int.reducePow, Nat.reducePow, reduceCtorEq, many, a4, a5, a6, b4, b5, b6, c2, s2, wy, w1, z2]
  rw [lpK_go]
  have hmod : ((s.size : Nat) : Int) % 256 = (s.size : Nat) := by omega
  by_cases h0 : s.size = 0
  · obtain rfl := size0 h0
    have hb : bytesD (tB ⟨#[]⟩) = [.sc (.int .u8 176), .sc (.int .u8 0), .sc (.int .u8 0), .sc (.int .u8 0), .sc (.int .u8 0)] := rfl
    rw [hb] at tx
    have e5 : I ((5 + (⟨#[]⟩ : ByteArray).size : Nat) : Int) = I 5 := rfl
    rw [e5] at tx
    have hz0 : (⟨#[]⟩ : ByteArray).size = 0 := rfl
    simp +contextual (maxSteps := 10000000) only [↓reduceIte, go_sem, Nat.reduceEqDiff, Nat.reduceAdd, Nat.reduceSub, Nat.reduceMul, Nat.reduceLeDiff, Nat.reduceLT, Nat.reduceBEq, Nat.reduceDiv, Nat.reduceMod, Int.reduceLE, Int.reduceLT, Int.reduceEq, Int.reduceBEq, Int.reduceBNe, Int.reduceAdd, Int.reduceSub, Int.reduceNeg, Int.reduceToNat, Int.reduceMul, Int.reducePow, Nat.reducePow, reduceCtorEq, tx, tt, txs, works6, hz0, Int.zero_emod]
  · have hsz : (b1 176 ++ (b1 0 ++ (b1 0 ++ (b1 0 ++ (b1 (s.size : Nat) ++ s))))).size = 5 + s.size := tB_size s
    unfold tB at tx ts
    have h255 : (((s.size : Nat) : Int) ≤ 255) = True := eq_true (by omega)
    have h0s : (0 ≤ ((s.size : Nat) : Int)) = True := eq_true (by omega)
    simp +contextual (maxSteps := 10000000) only [↓reduceIte, go_sem, Nat.reduceEqDiff, Nat.reduceAdd, Nat.reduceSub, Nat.reduceMul, Nat.reduceLeDiff, Nat.reduceLT, Nat.reduceBEq, Nat.reduceDiv, Nat.reduceMod, Int.reduceLE, Int.reduceLT, Int.reduceEq, Int.reduceBEq, Int.reduceBNe, Int.reduceAdd, Int.reduceSub, Int.reduceNeg, Int.reduceToNat, Int.reduceMul, Int.reducePow, Nat.reducePow, reduceCtorEq, tx, tt, txs, works6, hmod, eq_false h0, b1_cons, h255, h0s, fsE_bytesn, hsz, show (5 + s.size ≤ 140737488355328) = True from eq_true (by omega), beq_self_eq_true]
end Go.Bw.R1

/- law06: DecodeWide, of some kids. -/
namespace Go.Bw.R1
set_option maxRecDepth 5000
open Go Go.Bw Go.Proofs
def wK (l : List Val) : ByteArray := catW (l.map encV)
theorem toL_wK (l : List Val) : toL (wK l) = wrL l := catW_L l
theorem wK_size (l : List Val) : (wrL l).length = (wK l).size := by rw [← toL_wK, toL_len]
theorem wK_snoc (l : List Val) (x : Val) : wK (l ++ [x]) = wK l ++ wrV x := by
  unfold wK
  rw [List.map_append, catW_app]
  show _ ++ (Wd (encV x).1 (encV x).2 ++ e0) = _
  rw [app_e0]; rfl
theorem wK_pos {l : List Val} (h : 0 < l.length) : 0 < (wK l).size := by
  obtain ⟨a, x, rfl⟩ := split_last h
  rw [wK_snoc, ByteArray.size_append]
  have := wr_pos x
  omega
theorem wK_le (l : List Val) : (wK l).size ≤ 10 * Val.szL l := by rw [← wK_size]; exact wrL_size l
theorem wK_take (l : List Val) (i : Nat) : (wK (l.take i)).size ≤ 10 * Val.szL l := by
  have := wK_le (l.take i)
  have := szL_take l i
  omega
set_option maxHeartbeats 8000000 in
theorem wide_some (l : List Val) (s : ByteArray) (y : Nat) (hw : Val.wfL l) (hn : 0 < l.length) (hz : Val.szL l ≤ 1048576) (hs : s.size ≤ 255) (hy : y < 256) (hlg : decide (8192 < lgS l) = false) : EW 13 [.ro false (l.map Val.d), .sc (.string s), .sc (.int .u8 (y : Nat))] [] = some (.ret (B true), []) := by
  have hl := ew_of rfl (large_c l (by omega))
  rw [hlg] at hl
  have hlen := szL_len l
  have g2 : decide ((255 : Int) < s.size) = false := decide_eq_false (by omega)
  refine (ev_body ⟨[], [(0, [0, 1, 2, 7, 8]), (2, [0, 1, 2, 7, 11, 12])], [(31, [(0, 0, false), (1, 0, false), (2, 0, false), (3, 0, false), (4, 0, false), (5, 0, false), (6, 0, false), (7, 0, false), (8, 0, false), (9, 0, false), (10, 0, false), (11, 0, false), (12, 0, false), (13, 0, false), (14, 0, false), (15, 0, false), (16, 0, false), (17, 0, false)])], false, [(3000011, [7]), (3000030, [30])], noIt⟩ [.tmp 6] rfl Tryd.func13 rfl rfl rfl (by kernel_rfl) (by show 3 ≤ 219; decide) (by kernel_rfl)).trans ?_
  simp +contextual (maxSteps := 10000000) only [↓reduceIte, go_sem, Nat.reduceEqDiff, Nat.reduceAdd, Nat.reduceSub, Nat.reduceMul, Nat.reduceLeDiff, Nat.reduceLT, Nat.reduceBEq, Nat.reduceDiv, Nat.reduceMod, Int.reduceLE, Int.reduceLT, Int.reduceEq, Int.reduceBEq, Int.reduceBNe, Int.reduceAdd, Int.reduceSub, Int.reduceNeg, Int.reduceToNat, Int.reduceMul, Int.reducePow, Nat.reducePow, reduceCtorEq, hl, g2]
  refine lpK_inv (fun m0 f es => ∃ (i : Nat), i + m0 = l.length ∧ KidsOk (l.take i) ∧ ((i = 0 ∧ f = [(0, .ro false (l.map Val.d)), (1, .sc (.string s)), (2, .sc (.int .u8 (y : Nat))), (7, .nils), (8, I i)] ∧ es = []) ∨
    (0 < i ∧ f = [(0, .ro false (l.map Val.d)), (1, .sc (.string s)), (2, .sc (.int .u8 (y : Nat))), (7, .ref 0 0 1 0 (wK (l.take i)).size), (8, I i)] ∧ es = [some ⟨0, bytesD (wK (l.take i))⟩]))) l.length ⟨0, Nat.zero_add _, fun x hx => by simp at hx, .inl ⟨rfl, rfl, rfl⟩⟩ ?_
  rintro m0 f es ⟨i, hi, hk, hc⟩ ih
  rcases Nat.lt_or_ge i l.length with hlt | hge
  · obtain ⟨x, hx⟩ := get_lt (l := l) (i := i) hlt
    have hxm := List.mem_of_getElem? hx
    have hxs := szL_mem hx
    have hwx := wfL_mem hw x hxm
    have hlt' : decide ((i : Int) < l.length) = true := decide_eq_true (by omega)
    have hix : (l.map Val.d)[i]? = some x.d := by rw [List.getElem?_map, hx]; rfl
    have he := ew_of rfl (encode_c x (by omega) hwx)
    have hsn : l.take (i + 1) = l.take i ++ [x] := take_snoc hx
    have hp := wr_pos x
    have hp2 := wr_sz x
    have hs1 : ((wrV x).size = 0) = False := eq_false (by omega)
    have hs2 : ((wrV x).size ≤ 140737488355328) = True := eq_true (by omega)
    have hs3 : ((wK (l.take i)).size + (wrV x).size ≤ 140737488355328) = True := eq_true (by have := wK_take l i; omega)
    cases hr : rightS x with
    | false =>
      rw [hr, if_neg (by decide)] at he
      rcases hc with ⟨h0, rfl, rfl⟩ | ⟨h0, rfl, rfl⟩ <;>
      simp +contextual (maxSteps := 10000000) only [↓reduceIte, go_sem, Nat.reduceEqDiff, Nat.reduceAdd, Nat.reduceSub, Nat.reduceMul, Nat.reduceLeDiff, Nat.reduceLT, Nat.reduceBEq, Nat.reduceDiv, Nat.reduceMod, Int.reduceLE, Int.reduceLT, Int.reduceEq, Int.reduceBEq, Int.reduceBNe, Int.reduceAdd, Int.reduceSub, Int.reduceNeg, Int.reduceToNat, Int.reduceMul, Int.reducePow, Nat.reducePow, reduceCtorEq, hlt', hix, he, works6]
    | true =>
      rw [hr, if_pos rfl] at he
      have hk' : KidsOk (l.take (i + 1)) := by
        rw [hsn]
        intro z hz2
        rcases List.mem_append.1 hz2 with h | h
        · exact hk z h
        · rw [List.mem_singleton.1 h]; exact ⟨by omega, hr, hwx⟩
      rcases hc with ⟨h0, rfl, rfl⟩ | ⟨h0, rfl, rfl⟩
      · subst h0
        have hlt0 : decide ((0 : Int) < l.length) = true := decide_eq_true (by omega)
        have e1 : wK (l.take 1) = wrV x := by rw [hsn]; simp only [List.take_zero, List.nil_append]; unfold wK; simp only [List.map_cons, List.map_nil, catW]; rw [app_e0]; rfl
        simp +contextual (maxSteps := 10000000) only [↓reduceIte, go_sem, Nat.reduceEqDiff, Nat.reduceAdd, Nat.reduceSub, Nat.reduceMul, Nat.reduceLeDiff, Nat.reduceLT, Nat.reduceBEq, Nat.reduceDiv, Nat.reduceMod, Int.reduceLE, Int.reduceLT, Int.reduceEq, Int.reduceBEq, Int.reduceBNe, Int.reduceAdd, Int.reduceSub, Int.reduceNeg, Int.reduceToNat, Int.reduceMul, Int.reducePow, Nat.reducePow, reduceCtorEq, hlt0, hix, he, hs1, hs2, app_src, Nat.zero_add]
        exact ih (m0 - 1) _ _ (by omega) ⟨1, by omega, hk', .inr ⟨by omega, by rw [e1]; rfl, by rw [e1]⟩⟩
      · simp +contextual (maxSteps := 10000000) only [↓reduceIte, go_sem, Nat.reduceEqDiff, Nat.reduceAdd, Nat.reduceSub, Nat.reduceMul, Nat.reduceLeDiff, Nat.reduceLT, Nat.reduceBEq, Nat.reduceDiv, Nat.reduceMod, Int.reduceLE, Int.reduceLT, Int.reduceEq, Int.reduceBEq, Int.reduceBNe, Int.reduceAdd, Int.reduceSub, Int.reduceNeg, Int.reduceToNat, Int.reduceMul, Int.reducePow, Nat.reducePow, reduceCtorEq, hlt', hix, he, hs1, hs3, app_src, bytesD_append, wrap_i64 (n := (i : Int) + 1) (by omega) (by omega)]
        exact ih (m0 - 1) _ _ (by omega) ⟨i + 1, by omega, hk', .inr ⟨by omega, by rw [hsn, wK_snoc, ByteArray.size_append]; rfl, by rw [hsn, wK_snoc]⟩⟩
  · have hlt' : decide ((l.length : Int) < l.length) = false := decide_eq_false (by omega)
    rcases hc with ⟨h0, _, _⟩ | ⟨h0, rfl, rfl⟩
    · omega
    obtain rfl : i = l.length := by omega
    clear ih
    rw [List.take_length] at hk ⊢
    have hK0 := wK_pos hn
    have hKs := wK_le l
    have hS := wK_size l
    generalize hKd : wK l = K at *
    have hKL : toL K = wrL l := by rw [← hKd, toL_wK]
    have hKe := hKd
    have hd : ∀ (c : Int) (z m : Nat), 0 ≤ c → c ≤ 255 → EW 31 [.sc (.int .u8 c), I z, I m, .ro false (bytesD K)] [] = some (.ret (.ro false (bytesD (wB c z m K))), []) := fun c z m h0 h1 => ew_of rfl (head_c c z m K h0 h1 (by omega) (by omega))
    have dc : ∀ (c : Int) (z m : Nat), EW 15 [.ro false (bytesD (wB c z m K))] [] = some (decR (decS (wHead c z m (wrL l)))) := fun c z m => by
      have := decode_c (wB c z m K) (by rw [wB_size]; omega)
      rw [toL_wB, hKL] at this; exact this
    have rd : ∀ (c : Int), isLM c → decS (wHead c (K.size + 4) l.length (wrL l)) = (if rightS (wantV c l) = true then .ok (wantV c l, K.size + 9) else .error 6) := fun c hc => by
      have h := wa hc hk (by omega) (by omega)
      rw [hS] at h; exact h
    have rs : ∀ (c : Int), isLM c → decS (wHead c (K.size + 5) l.length (wrL l)) = .error 7 := fun c hc => by
      have h := wb hc (l := l) (by omega) l.length
      rw [hS] at h; exact h
    have rc : ∀ (c : Int) (m : Nat), isLM c → l.length < m → m < 4294967296 → decS (wHead c (K.size + 4) m (wrL l)) = .error 6 := fun c m hc h0 h1 => by
      have h := wc hc hk (by omega) h0 h1
      rw [hS] at h; exact h
    have rk : ∀ (c : Int), isLM c → decS (wHead c (K.size + 3) l.length (wrL l)) = .error 6 := fun c hc => by
      have h := wd hc hk (by omega) hn (by omega)
      rw [hS] at h; exact h
    have rm : ∀ (c : Int), isLM c → decS (wHead c (K.size + 4) (l.length - 1) (wrL l)) = .error 6 := fun c hc => by
      have h := we hc hk (by omega) hn (by omega)
      rw [hS] at h; exact h
    have i4 : ((K.size + 4 : Nat) : Int) = (K.size : Int) + 4 := by omega
    have i5 : ((K.size + 5 : Nat) : Int) = (K.size : Int) + 5 := by omega
    have i3 : ((K.size + 3 : Nat) : Int) = (K.size : Int) + 3 := by omega
    have i9 : ((K.size + 9 : Nat) : Int) = (K.size : Int) + 9 := by omega
    have iy : ((l.length + 1 + y : Nat) : Int) = (l.length : Int) + 1 + y := by omega
    have im : ((l.length - 1 : Nat) : Int) = (l.length : Int) - 1 := by omega
    have w4 : IntKind.i64.wrap ((K.size : Int) + 4) = (K.size : Int) + 4 := wrap_i64 (by omega) (by omega)
    have w5 : IntKind.i64.wrap ((K.size : Int) + 5) = (K.size : Int) + 5 := wrap_i64 (by omega) (by omega)
    have w3 : IntKind.i64.wrap ((K.size : Int) + 3) = (K.size : Int) + 3 := wrap_i64 (by omega) (by omega)
    have wn : IntKind.i64.wrap ((l.length : Int) + 1) = (l.length : Int) + 1 := wrap_i64 (by omega) (by omega)
    have wny : IntKind.i64.wrap ((l.length : Int) + 1 + (y : Nat)) = (l.length : Int) + 1 + (y : Nat) := wrap_i64 (by omega) (by omega)
    have wm : IntKind.i64.wrap ((l.length : Int) - 1) = (l.length : Int) - 1 := wrap_i64 (by omega) (by omega)
    have wy : IntKind.i64.wrap ((y : Nat) : Int) = (y : Nat) := wrap_i64 (by omega) (by omega)
    have ln : decide ((0 : Int) < l.length) = true := decide_eq_true (by omega)
    have F : ∀ c : Int, isLM c → EW 31 [.sc (.int .u8 c), I ((K.size : Int) + 4), I l.length, .ro false (bytesD K)] [] = some (.ret (.ro false (bytesD (wB c (K.size + 4) l.length K))), []) ∧
        EW 31 [.sc (.int .u8 c), I ((K.size : Int) + 5), I l.length, .ro false (bytesD K)] [] = some (.ret (.ro false (bytesD (wB c (K.size + 5) l.length K))), []) ∧
        EW 31 [.sc (.int .u8 c), I ((K.size : Int) + 4), I ((l.length : Int) + 1 + (y : Nat)), .ro false (bytesD K)] [] = some (.ret (.ro false (bytesD (wB c (K.size + 4) (l.length + 1 + y) K))), []) ∧
        EW 31 [.sc (.int .u8 c), I ((K.size : Int) + 3), I l.length, .ro false (bytesD K)] [] = some (.ret (.ro false (bytesD (wB c (K.size + 3) l.length K))), []) ∧
        EW 31 [.sc (.int .u8 c), I ((K.size : Int) + 4), I ((l.length : Int) - 1), .ro false (bytesD K)] [] = some (.ret (.ro false (bytesD (wB c (K.size + 4) (l.length - 1) K))), []) ∧
        EW 15 [.ro false (bytesD (wB c (K.size + 4) l.length K))] [] = some (if rightS (wantV c l) = true then (.ret (.tup [(wantV c l).d, I ((K.size : Int) + 9), I 0]), []) else (.ret (.tup [(Val.mk 0 0 e0 []).d, I 0, I 6]), [])) ∧
        EW 15 [.ro false (bytesD (wB c (K.size + 5) l.length K))] [] = some (.ret (.tup [(Val.mk 0 0 e0 []).d, I 0, I 7]), []) ∧
        EW 15 [.ro false (bytesD (wB c (K.size + 4) (l.length + 1 + y) K))] [] = some (.ret (.tup [(Val.mk 0 0 e0 []).d, I 0, I 6]), []) ∧
        EW 15 [.ro false (bytesD (wB c (K.size + 3) l.length K))] [] = some (.ret (.tup [(Val.mk 0 0 e0 []).d, I 0, I 6]), []) ∧
        EW 15 [.ro false (bytesD (wB c (K.size + 4) (l.length - 1) K))] [] = some (.ret (.tup [(Val.mk 0 0 e0 []).d, I 0, I 6]), []) ∧ (wB c (K.size + 4) l.length K).size = K.size + 9 := fun c hc => by
      obtain ⟨_, h192, h255, _⟩ := lm_facts hc
      refine ⟨?_, ?_, ?_, ?_, ?_, ?_, ?_, ?_, ?_, ?_, by rw [wB_size]; omega⟩
      · rw [← i4]; exact hd c _ _ (by omega) h255
      · rw [← i5]; exact hd c _ _ (by omega) h255
      · rw [← i4, ← iy]; exact hd c _ _ (by omega) h255
      · rw [← i3]; exact hd c _ _ (by omega) h255
      · rw [← i4, ← im]; exact hd c _ _ (by omega) h255
      · rw [dc, rd c hc, ← i9]
        by_cases hr : rightS (wantV c l) = true
        · rw [if_pos hr, if_pos hr]; rfl
        · rw [if_neg hr, if_neg hr]; rfl
      · rw [dc, rs c hc]; rfl
      · rw [dc, rc c _ hc (by omega) (by omega)]; rfl
      · rw [dc, rk c hc]; rfl
      · rw [dc, rm c hc]; rfl
    clear hd dc rd rs rc rk rm i4 i5 i3 i9 iy im
    obtain ⟨a1, a2, a3, a4, a5, d1, d2, d3, d4, d5, z1⟩ := F 208 (.inl rfl)
    obtain ⟨f1, f2, f3, f4, f5, e1, e2, e3, e4, e5, z2⟩ := F 209 (.inr rfl)
    clear F
    have v1 : wantV 208 l = .mk 22 0 ⟨#[]⟩ l := rfl
    have v2 : wantV 209 l = .mk 23 0 ⟨#[]⟩ l := rfl
    rw [v1] at d1
    rw [v2] at e1
    have hsz : ∀ k, (Val.mk k 0 ⟨#[]⟩ l).sz ≤ 40000000 := fun k => by simp only [Val.sz]; show 0 + Val.szL l + 1 ≤ _; omega
    have hwf : ∀ k : Int, 0 ≤ k → k < 256 → (Val.mk k 0 ⟨#[]⟩ l).wf := fun k h0 h1 => ⟨⟨h0, h1, by decide, by decide⟩, hw⟩
    have m1 := ew_of rfl (many_c 22 l (by omega))
    have m2 := ew_of rfl (many_c 23 l (by omega))
    have r1 := ew_of rfl (right_c _ (by have := hsz 22; omega) (hwf 22 (by decide) (by decide)))
    have r2 := ew_of rfl (right_c _ (by have := hsz 23; omega) (hwf 23 (by decide) (by decide)))
    have s1 := ew_of rfl (same_c _ (Val.mk 22 0 ⟨#[]⟩ l) (Val.mk 22 0 ⟨#[]⟩ l) (Nat.le_refl _) (by have := hsz 22; omega))
    have s2 := ew_of rfl (same_c _ (Val.mk 23 0 ⟨#[]⟩ l) (Val.mk 23 0 ⟨#[]⟩ l) (Nat.le_refl _) (by have := hsz 23; omega))
    rw [same_refl] at s1 s2
    have tx := decode_c (tB s) (by rw [tB_size]; omega)
    rw [w_text s hs] at tx
    unfold decR at tx
    dsimp only at tx
    have tt := ew_of rfl (text_c 19 s)
    have txs := ew_of rfl (same_c _ (.mk 19 0 s []) (.mk 19 0 s []) (Nat.le_refl _) (by simp only [Val.sz, Val.szL]; omega))
    rw [same_refl] at txs
    have hmod : ((s.size : Nat) : Int) % 256 = (s.size : Nat) := by omega
    have tsz : (b1 176 ++ (b1 0 ++ (b1 0 ++ (b1 0 ++ (b1 (s.size : Nat) ++ s))))).size = 5 + s.size := tB_size s
    have h255 : (((s.size : Nat) : Int) ≤ 255) = True := eq_true (by omega)
    have h0s : (0 ≤ ((s.size : Nat) : Int)) = True := eq_true (by omega)
    have h5s : (5 + s.size ≤ 140737488355328) = True := eq_true (by omega)
    simp +contextual (maxSteps := 10000000) only [↓reduceIte, go_sem, Nat.reduceEqDiff, Nat.reduceAdd, Nat.reduceSub, Nat.reduceMul, Nat.reduceLeDiff, Nat.reduceLT, Nat.reduceBEq, Nat.reduceDiv, Nat.reduceMod, Int.reduceLE, Int.reduceLT, Int.reduceEq, Int.reduceBEq, Int.reduceBNe, Int.reduceAdd, Int.reduceSub, Int.reduceNeg, Int.reduceToNat, Int.reduceMul, Int.reducePow, Nat.reducePow, reduceCtorEq, hlt', fsE_bytes]
    cases hr1 : rightS (Val.mk 22 0 ⟨#[]⟩ l) <;> cases hr2 : rightS (Val.mk 23 0 ⟨#[]⟩ l)
    all_goals
      rw [hr1] at d1 r1
      rw [hr2] at e1 r2
      first | rw [if_neg (by decide)] at d1 | rw [if_pos rfl] at d1
      first | rw [if_neg (by decide)] at e1 | rw [if_pos rfl] at e1
      rw [lpK_go]
    all_goals
      simp +contextual (maxSteps := 10000000) only [↓reduceIte, go_sem, Nat.reduceEqDiff, Nat.reduceAdd, Nat.reduceSub, Nat.reduceMul, Nat.reduceLeDiff, Nat.reduceLT, Nat.reduceBEq, Nat.reduceDiv, Nat.reduceMod, Int.reduceLE, Int.reduceLT, Int.reduceEq, Int.reduceBEq, Int.reduceBNe, Int.reduceAdd, Int.reduceSub, Int.reduceNeg, Int.reduceToNat, Int.reduceMul, Int.reducePow, Nat.reducePow, reduceCtorEq, m1, a1, a2, a3, a4, a5, d1, d2, d3, d4, d5, z1, r1, s1, w4, w5, w3, wn, wny, wm, wy, ln, bne_self_eq_false]
      rw [lpK_go]
    all_goals
      simp +contextual (maxSteps := 10000000) only [↓reduceIte, go_sem, Nat.reduceEqDiff, Nat.reduceAdd, Nat.reduceSub, Nat.reduceMul, Nat.reduceLeDiff, Nat.reduceLT, Nat.reduceBEq, Nat.reduceDiv, Nat.reduceMod, Int.reduceLE, Int.reduceLT, Int.reduceEq, Int.reduceBEq, Int.reduceBNe, Int.reduceAdd, Int.reduceSub, Int.reduceNeg, Int.reduceToNat, Int.reduceMul, Int.reducePow, Nat.reducePow, reduceCtorEq, m2, f1, f2, f3, f4, f5, e1, e2, e3, e4, e5, z2, r2, s2, w4, w5, w3, wn, wny, wm, wy, ln, bne_self_eq_false]
      rw [lpK_go]
    all_goals
      by_cases h0 : s.size = 0
      · obtain rfl := size0 h0
        have hb : bytesD (tB ⟨#[]⟩) = [.sc (.int .u8 176), .sc (.int .u8 0), .sc (.int .u8 0), .sc (.int .u8 0), .sc (.int .u8 0)] := rfl
        rw [hb] at tx
        have e5 : I ((5 + (⟨#[]⟩ : ByteArray).size : Nat) : Int) = I 5 := rfl
        rw [e5] at tx
        have hz0 : (⟨#[]⟩ : ByteArray).size = 0 := rfl
        simp +contextual (maxSteps := 10000000) only [↓reduceIte, go_sem, Nat.reduceEqDiff, Nat.reduceAdd, Nat.reduceSub, Nat.reduceMul, Nat.reduceLeDiff, Nat.reduceLT, Nat.reduceBEq, Nat.reduceDiv, Nat.reduceMod, Int.reduceLE, Int.reduceLT, Int.reduceEq, Int.reduceBEq, Int.reduceBNe, Int.reduceAdd, Int.reduceSub, Int.reduceNeg, Int.reduceToNat, Int.reduceMul, Int.reducePow, Nat.reducePow, reduceCtorEq, tx, tt, txs, works6, hz0, Int.zero_emod]
      · unfold tB at tx
        simp +contextual (maxSteps := 10000000) only [↓reduceIte, go_sem, Nat.reduceEqDiff, Nat.reduceAdd, Nat.reduceSub, Nat.reduceMul, Nat.reduceLeDiff, Nat.reduceLT, Nat.reduceBEq, Nat.reduceDiv, Nat.reduceMod, Int.reduceLE, Int.reduceLT, Int.reduceEq, Int.reduceBEq, Int.reduceBNe, Int.reduceAdd, Int.reduceSub, Int.reduceNeg, Int.reduceToNat, Int.reduceMul, Int.reducePow, Nat.reducePow, reduceCtorEq, tx, tt, txs, works6, hmod, eq_false h0, b1_cons, h255, h0s, fsE_bytesn, tsz, h5s, beq_self_eq_true]
set_option maxHeartbeats 1000000 in
theorem DecodeWide_c (l : List Val) (s : ByteArray) (y : Nat) (hw : Val.wfL l) (hz : Val.szL l ≤ 1048576) (hy : y < 256) : EW 13 [.ro false (l.map Val.d), .sc (.string s), .sc (.int .u8 (y : Nat))] [] = some (.ret (B true), []) := by
  cases hlg : decide (8192 < lgS l) with
  | true =>
    have hl := ew_of rfl (large_c l (by omega))
    rw [hlg] at hl
    refine (ev_body ⟨[], [(0, [0, 1, 2, 7, 8]), (2, [0, 1, 2, 7, 11, 12])], [(31, [(0, 0, false), (1, 0, false), (2, 0, false), (3, 0, false), (4, 0, false), (5, 0, false), (6, 0, false), (7, 0, false), (8, 0, false), (9, 0, false), (10, 0, false), (11, 0, false), (12, 0, false), (13, 0, false), (14, 0, false), (15, 0, false), (16, 0, false), (17, 0, false)])], false, [(3000011, [7]), (3000030, [30])], noIt⟩ [.tmp 6] rfl Tryd.func13 rfl rfl rfl (by kernel_rfl) (by show 3 ≤ 219; decide) (by kernel_rfl)).trans ?_
    simp +contextual (maxSteps := 10000000) only [↓reduceIte, go_sem, Nat.reduceEqDiff, Nat.reduceAdd, Nat.reduceSub, Nat.reduceMul, Nat.reduceLeDiff, Nat.reduceLT, Nat.reduceBEq, Nat.reduceDiv, Nat.reduceMod, Int.reduceLE, Int.reduceLT, Int.reduceEq, Int.reduceBEq, Int.reduceBNe, Int.reduceAdd, Int.reduceSub, Int.reduceNeg, Int.reduceToNat, Int.reduceMul, Int.reducePow, Nat.reducePow, reduceCtorEq, hl, works6]
  | false =>
    by_cases hs : 255 < s.size
    · have hl := ew_of rfl (large_c l (by omega))
      rw [hlg] at hl
      have g2 : decide ((255 : Int) < s.size) = true := decide_eq_true (by omega)
      refine (ev_body ⟨[], [(0, [0, 1, 2, 7, 8]), (2, [0, 1, 2, 7, 11, 12])], [(31, [(0, 0, false), (1, 0, false), (2, 0, false), (3, 0, false), (4, 0, false), (5, 0, false), (6, 0, false), (7, 0, false), (8, 0, false), (9, 0, false), (10, 0, false), (11, 0, false), (12, 0, false), (13, 0, false), (14, 0, false), (15, 0, false), (16, 0, false), (17, 0, false)])], false, [(3000011, [7]), (3000030, [30])], noIt⟩ [.tmp 6] rfl Tryd.func13 rfl rfl rfl (by kernel_rfl) (by show 3 ≤ 219; decide) (by kernel_rfl)).trans ?_
      simp +contextual (maxSteps := 10000000) only [↓reduceIte, go_sem, Nat.reduceEqDiff, Nat.reduceAdd, Nat.reduceSub, Nat.reduceMul, Nat.reduceLeDiff, Nat.reduceLT, Nat.reduceBEq, Nat.reduceDiv, Nat.reduceMod, Int.reduceLE, Int.reduceLT, Int.reduceEq, Int.reduceBEq, Int.reduceBNe, Int.reduceAdd, Int.reduceSub, Int.reduceNeg, Int.reduceToNat, Int.reduceMul, Int.reducePow, Nat.reducePow, reduceCtorEq, hl, g2, works6]
    · cases l with
      | nil => exact wide_nil s y (by omega) hy
      | cons x r => exact wide_some (x :: r) s y hw (by simp) hz (by omega) hy hlg
end Go.Bw.R1
