/- What the functions answer. -/
import Derived.Test.YtdobhepmepalpaaDoorWalk2
set_option linter.unusedSimpArgs false
set_option linter.unusedVariables false
/- Plain: decode.Value, and what it makes of what was encoded. -/
namespace Go.Bw.R1
set_option maxRecDepth 5000
open Go Go.Bw
/-- THE THEOREM OF STAGE 6, plain: what encode tells of a value is decoded as it, with anything behind it -/
theorem dec_rt (v : Val) (hz : v.sz ≤ 40000000) (hr : rightS v = true) (hw : v.wf) (rest : List UInt8) : decS (toL (wrV v) ++ rest) = .ok (v, (wrV v).size) := by
  have h1 := head_of_val (wr_rt v hz hr hw v.sz (Nat.le_refl _) rest)
  have h2 := wr_rt v hz hr hw (v.sz + (wrV v).size) (by omega) []
  rw [List.append_nil, valF_fuel (v.sz + (wrV v).size) (wrV v).size (toL (wrV v)) (by rw [toL_len]; omega) (by rw [toL_len]; omega)] at h2
  have hn : (toL (wrV v) ++ rest).length - rest.length = (wrV v).size := by rw [List.length_append, toL_len]; omega
  unfold decS
  rw [h1]
  dsimp only
  rw [hn, List.take_left' (toL_len (wrV v)), h2]
  dsimp only
  rw [if_pos hr]
end Go.Bw.R1

/- Plain: a head hangs on its own bytes alone; cut, it is short. -/
namespace Go.Bw.R1
set_option maxRecDepth 5000
open Go Go.Bw
/-- cut anywhere, what was encoded is short -/
theorem dec_cut (v : Val) (hz : v.sz ≤ 40000000) (hr : rightS v = true) (hw : v.wf) (k : Nat) (hk : k < (wrV v).size) : decS ((toL (wrV v)).take k) = .error 7 := by
  have h1 := head_of_val (wr_rt v hz hr hw v.sz (Nat.le_refl _) [])
  rw [List.append_nil] at h1
  obtain ⟨p, p1, p2, p3, p4⟩ := headL_pre h1
  rw [List.append_nil] at p1
  unfold decS
  rw [p1, p4 k (by rw [← p1, toL_len]; exact hk)]
end Go.Bw.R1

namespace Go.Bw.R1
set_option maxRecDepth 5000
open Go Go.Bw Go.Proofs
def PutOk (n : Nat) : Prop := ∀ v : Val, v.sz ≤ n → mayS v = true →
  (EV 42 [.nils, v.d] [] = some (.ret (.ref 0 0 1 0 (wrV v).size), [some ⟨0, bytesD (wrV v)⟩])) ∧
  ∀ b : ByteArray, b.size ≠ 0 → b.size + 10 * v.sz ≤ 450000000 → EV 42 [.ref 0 0 1 0 b.size, v.d] [some ⟨0, bytesD b⟩] = some (.ret (.ref 0 1 1 0 (b.size + (wrV v).size)), [some ⟨1, bytesD (b ++ wrV v)⟩])
def InsOk (n : Nat) : Prop := ∀ v : Val, v.sz ≤ n → mayS v = true → v.kind ≠ 25 → InsC v (insS v)
theorem code_range {k c : Int} (hk : k ∈ kindL) (hc : c ∈ codesOf k) : 0 ≤ c ∧ c ≤ 255 := by
  have := codes_q k hk c hc
  unfold qOk at this
  simp only [Bool.and_eq_true, decide_eq_true_eq] at this
  exact this.1
theorem desc_sz {v a x : Val} (h : v.kids = [a, x]) : a.sz + x.sz + 1 ≤ v.sz := by
  rw [Val.sz_eq v, h]; simp only [Val.szL]; omega
set_option maxHeartbeats 40000000 in
theorem cons_ref {n : Nat} (hp : PutOk n) (l : List Val) (v : Val) (hv : l[0]? = some v) (hA : Al l) (hl : l.length ≤ 40000000) (hn : v.sz ≤ n + 1) (C : Int) (hC0 : 0 ≤ C) (hC1 : C ≤ 255)
    (hcode : EV 59 [.ro false ((l.map bareV).map Val.d)] [] = some (.ret (.sc (.int .u8 C)), [])) (b : ByteArray) (h0 : b.size ≠ 0) (hb : b.size + 10 * v.sz ≤ 450000000) :
    EV 58 [.ref 0 0 1 0 b.size, .ro false (l.map Val.d)] [some ⟨0, bytesD b⟩] = some (.ret (.ref 0 1 1 0 (b.size + (hdV v).size + 1)), [some ⟨1, bytesD (b ++ hdV v ++ b1 C)⟩]) := by
  have hstrip := strip_c l hl hA
  have hmv : mayS v = true := by
    obtain ⟨w, hw, h⟩ := hA
    exact (h v (List.mem_of_getElem? hv)).1
  have hlv : (l.map Val.d)[0]? = some v.d := by rw [List.getElem?_map, hv]; rfl
  refine (ev_body ⟨[], [(0, [0, 1, 5]), (4000000, [])], [(4, [(0, 0, false), (1, 0, false), (2, 0, true), (3, 0, false), (4, 0, false), (5, 0, false), (6, 0, false), (7, 0, true), (8, 2, false)])], false, [], noIt⟩ [.tmp 4] rfl Tryd.func58 rfl rfl rfl (by kernel_rfl) (by show 2 ≤ 31; decide) (by kernel_rfl)).trans ?_
  simp +contextual (maxSteps := 10000000) only [↓reduceIte, go_sem, Nat.reduceEqDiff, Nat.reduceAdd, Nat.reduceSub, Nat.reduceMul, Nat.reduceLeDiff, Nat.reduceLT, Nat.reduceBEq, Nat.reduceDiv, Nat.reduceMod, Int.reduceLE, Int.reduceLT, Int.reduceEq, Int.reduceBEq, Int.reduceBNe, Int.reduceAdd, Int.reduceSub, Int.reduceNeg, Int.reduceToNat, Int.reduceMul, Int.reducePow, Nat.reducePow, reduceCtorEq, hlv]
  refine lpK_inv (fun m f es => ∃ (x : Val) (acc : ByteArray) (u : Nat), m = x.sz ∧ x.sz ≤ n + 1 ∧ mayS x = true ∧ acc.size ≠ 0 ∧ acc ++ hdV x = b ++ hdV v ∧ acc.size + 10 * x.sz ≤ 450000000 ∧ f = [(0, .ref 0 u 1 0 acc.size), (1, .ro false (l.map Val.d)), (5, .ptr 1 0 0)] ∧ es = [some ⟨u, bytesD acc⟩, some ⟨0, x.cs⟩]) v.sz ⟨v, b, 0, rfl, hn, hmv, h0, rfl, hb, rfl, rfl⟩ ?_
  rintro _ _ _ ⟨x, acc, u, rfl, hxn, hmx, ha0, hac, hab, rfl, rfl⟩ ih
  by_cases hk : x.kind = 25
  · obtain ⟨a, y, h1, h2, h3⟩ := may_desc hmx hk
    have hds := desc_sz h1
    have hws := wr_sz a
    have hput := (hp a (by omega) h2).2 (acc ++ b1 0) (by rw [ByteArray.size_append, b1_size]; omega) (by rw [ByteArray.size_append, b1_size]; omega)
    simp only [ByteArray.size_append, b1_size] at hput
    have hle : acc.size + 1 ≤ 1000000000 := by omega
    have hle2 : acc.size ≤ 1000000000 := by omega
    simp +contextual (maxSteps := 10000000) only [↓reduceIte, go_sem, Nat.reduceEqDiff, Nat.reduceAdd, Nat.reduceSub, Nat.reduceMul, Nat.reduceLeDiff, Nat.reduceLT, Nat.reduceBEq, Nat.reduceDiv, Nat.reduceMod, Int.reduceLE, Int.reduceLT, Int.reduceEq, Int.reduceBEq, Int.reduceBNe, Int.reduceAdd, Int.reduceSub, Int.reduceNeg, Int.reduceToNat, Int.reduceMul, Int.reducePow, Nat.reducePow, reduceCtorEq, hk, h1, List.map_cons, List.map_nil, one_b1, sz_le hle, sz_le hle2, hput]
    refine ih y.sz _ _ (by omega) ?_
    refine ⟨y, acc ++ b1 0 ++ wrV a, u + 1 + 1, rfl, by omega, h3, ?_, ?_, ?_, ?_, rfl⟩
    · simp only [ByteArray.size_append, b1_size]; omega
    · rw [← hac, (enc_desc hk h1).2]; simp only [ByteArray.append_assoc]
    · simp only [ByteArray.size_append, b1_size]; omega
    · simp only [ByteArray.size_append, b1_size]
  · have hkf : (x.kind == 25) = false := by simpa using hk
    have hd := hd_ne hk
    rw [hd, app_e0] at hac
    subst hac
    have hsz : (b ++ hdV v).size + 1 ≤ 1000000000 := by omega
    have hsz2 : (b ++ hdV v).size ≤ 1000000000 := by omega
    rw [ByteArray.size_append] at hsz hsz2
    simp +contextual (maxSteps := 10000000) only [↓reduceIte, go_sem, Nat.reduceEqDiff, Nat.reduceAdd, Nat.reduceSub, Nat.reduceMul, Nat.reduceLeDiff, Nat.reduceLT, Nat.reduceBEq, Nat.reduceDiv, Nat.reduceMod, Int.reduceLE, Int.reduceLT, Int.reduceEq, Int.reduceBEq, Int.reduceBNe, Int.reduceAdd, Int.reduceSub, Int.reduceNeg, Int.reduceToNat, Int.reduceMul, Int.reducePow, Nat.reducePow, reduceCtorEq, hkf, hstrip, hcode, one_b1 hC0 hC1, sz_le hsz, sz_le hsz2]
set_option maxHeartbeats 40000000 in
theorem cons_nils {n : Nat} (hp : PutOk n) (l : List Val) (v : Val) (hv : l[0]? = some v) (hA : Al l) (hl : l.length ≤ 40000000) (hn : v.sz ≤ n + 1) (C : Int) (hC0 : 0 ≤ C) (hC1 : C ≤ 255)
    (hcode : EV 59 [.ro false ((l.map bareV).map Val.d)] [] = some (.ret (.sc (.int .u8 C)), [])) (hb : 10 * v.sz ≤ 450000000) :
    EV 58 [.nils, .ro false (l.map Val.d)] [] = some (.ret (.ref 0 0 1 0 ((hdV v).size + 1)), [some ⟨0, bytesD (hdV v ++ b1 C)⟩]) := by
  have hstrip := strip_c l hl hA
  have hmv : mayS v = true := by
    obtain ⟨w, hw, h⟩ := hA
    exact (h v (List.mem_of_getElem? hv)).1
  have hlv : (l.map Val.d)[0]? = some v.d := by rw [List.getElem?_map, hv]; rfl
  refine (ev_body ⟨[], [(0, [0, 1, 5]), (4000000, [])], [(4, [(0, 0, false), (1, 0, false), (2, 0, true), (3, 0, false), (4, 0, false), (5, 0, false), (6, 0, false), (7, 0, true), (8, 2, false)])], false, [], noIt⟩ [.tmp 4] rfl Tryd.func58 rfl rfl rfl (by kernel_rfl) (by show 2 ≤ 31; decide) (by kernel_rfl)).trans ?_
  simp +contextual (maxSteps := 10000000) only [↓reduceIte, go_sem, Nat.reduceEqDiff, Nat.reduceAdd, Nat.reduceSub, Nat.reduceMul, Nat.reduceLeDiff, Nat.reduceLT, Nat.reduceBEq, Nat.reduceDiv, Nat.reduceMod, Int.reduceLE, Int.reduceLT, Int.reduceEq, Int.reduceBEq, Int.reduceBNe, Int.reduceAdd, Int.reduceSub, Int.reduceNeg, Int.reduceToNat, Int.reduceMul, Int.reducePow, Nat.reducePow, reduceCtorEq, hlv]
  rw [lpK_go]
  by_cases hkv : v.kind = 25
  case neg =>
    have hkf : (v.kind == 25) = false := by simpa using hkv
    have hd := hd_ne hkv
    rw [hd, e0_app, e0_size, Nat.zero_add]
    simp +contextual (maxSteps := 10000000) only [↓reduceIte, go_sem, Nat.reduceEqDiff, Nat.reduceAdd, Nat.reduceSub, Nat.reduceMul, Nat.reduceLeDiff, Nat.reduceLT, Nat.reduceBEq, Nat.reduceDiv, Nat.reduceMod, Int.reduceLE, Int.reduceLT, Int.reduceEq, Int.reduceBEq, Int.reduceBNe, Int.reduceAdd, Int.reduceSub, Int.reduceNeg, Int.reduceToNat, Int.reduceMul, Int.reducePow, Nat.reducePow, reduceCtorEq, hkf, hstrip, hcode, one_b1 hC0 hC1]
  obtain ⟨a, y, h1, h2, h3⟩ := may_desc hmv hkv
  have hds := desc_sz h1
  have hws := wr_sz a
  have hput := (hp a (by omega) h2).2 (b1 0) (by rw [b1_size]; omega) (by rw [b1_size]; omega)
  rw [b1_size] at hput
  simp +contextual (maxSteps := 10000000) only [↓reduceIte, go_sem, Nat.reduceEqDiff, Nat.reduceAdd, Nat.reduceSub, Nat.reduceMul, Nat.reduceLeDiff, Nat.reduceLT, Nat.reduceBEq, Nat.reduceDiv, Nat.reduceMod, Int.reduceLE, Int.reduceLT, Int.reduceEq, Int.reduceBEq, Int.reduceBNe, Int.reduceAdd, Int.reduceSub, Int.reduceNeg, Int.reduceToNat, Int.reduceMul, Int.reducePow, Nat.reducePow, reduceCtorEq, hkv, h1, List.map_cons, List.map_nil, one_b1, hput]
  refine lpK_inv (fun m f es => ∃ (x : Val) (acc : ByteArray), m = x.sz ∧ x.sz ≤ n + 1 ∧ mayS x = true ∧ acc.size ≠ 0 ∧ acc ++ hdV x = hdV v ∧ acc.size + 10 * x.sz ≤ 450000000 ∧ f = [(0, .ref 0 0 1 0 acc.size), (1, .ro false (l.map Val.d)), (5, .ptr 1 0 0)] ∧ es = [some ⟨0, bytesD acc⟩, some ⟨0, x.cs⟩]) y.sz ?_ ?_
  · refine ⟨y, b1 0 ++ wrV a, rfl, by omega, h3, ?_, ?_, ?_, ?_, rfl⟩
    · rw [ByteArray.size_append, b1_size]; omega
    · rw [(enc_desc hkv h1).2]
    · rw [ByteArray.size_append, b1_size]; omega
    · rw [ByteArray.size_append, b1_size]
  clear hput hws hds h1 h2 h3 y a
  rintro _ _ _ ⟨x, acc, rfl, hxn, hmx, ha0, hac, hab, rfl, rfl⟩ ih
  by_cases hk : x.kind = 25
  · obtain ⟨a, y, h1, h2, h3⟩ := may_desc hmx hk
    have hds := desc_sz h1
    have hws := wr_sz a
    have hput := (hp a (by omega) h2).2 (acc ++ b1 0) (by rw [ByteArray.size_append, b1_size]; omega) (by rw [ByteArray.size_append, b1_size]; omega)
    simp only [ByteArray.size_append, b1_size] at hput
    have hle : acc.size + 1 ≤ 1000000000 := by omega
    have hle2 : acc.size ≤ 1000000000 := by omega
    simp +contextual (maxSteps := 10000000) only [↓reduceIte, go_sem, Nat.reduceEqDiff, Nat.reduceAdd, Nat.reduceSub, Nat.reduceMul, Nat.reduceLeDiff, Nat.reduceLT, Nat.reduceBEq, Nat.reduceDiv, Nat.reduceMod, Int.reduceLE, Int.reduceLT, Int.reduceEq, Int.reduceBEq, Int.reduceBNe, Int.reduceAdd, Int.reduceSub, Int.reduceNeg, Int.reduceToNat, Int.reduceMul, Int.reducePow, Nat.reducePow, reduceCtorEq, hk, h1, List.map_cons, List.map_nil, one_b1, sz_le hle, sz_le hle2, hput]
    refine ih y.sz _ _ (by omega) ?_
    refine ⟨y, acc ++ b1 0 ++ wrV a, rfl, by omega, h3, ?_, ?_, ?_, ?_, rfl⟩
    · simp only [ByteArray.size_append, b1_size]; omega
    · rw [← hac, (enc_desc hk h1).2]; simp only [ByteArray.append_assoc]
    · simp only [ByteArray.size_append, b1_size]; omega
    · simp only [ByteArray.size_append, b1_size]
  · have hkf : (x.kind == 25) = false := by simpa using hk
    have hd := hd_ne hk
    rw [hd, app_e0] at hac
    subst hac
    have hsz : (hdV v).size + 1 ≤ 1000000000 := by omega
    have hsz2 : (hdV v).size ≤ 1000000000 := by omega
    simp +contextual (maxSteps := 10000000) only [↓reduceIte, go_sem, Nat.reduceEqDiff, Nat.reduceAdd, Nat.reduceSub, Nat.reduceMul, Nat.reduceLeDiff, Nat.reduceLT, Nat.reduceBEq, Nat.reduceDiv, Nat.reduceMod, Int.reduceLE, Int.reduceLT, Int.reduceEq, Int.reduceBEq, Int.reduceBNe, Int.reduceAdd, Int.reduceSub, Int.reduceNeg, Int.reduceToNat, Int.reduceMul, Int.reducePow, Nat.reducePow, reduceCtorEq, hkf, hstrip, hcode, one_b1 hC0 hC1, sz_le hsz, sz_le hsz2]
/-- what code answers, of values that are called alike -/
theorem code_al {n : Nat} (hi : InsOk n) (l : List Val) (v : Val) (hv : l[0]? = some v) (hA : Al l) (hl : l.length ≤ 40000000) (hs : ∀ x ∈ l, x.sz ≤ n ∧ x.sz ≤ 40000000) :
    EV 59 [.ro false ((l.map bareV).map Val.d)] [] = some (.ret (.sc (.int .u8 (codeOf (l.map shV)))), []) := by
  have hm : ∀ x ∈ l, mayS x = true := by obtain ⟨w, hw, h⟩ := hA; exact fun x hx => (h x hx).1
  have hsh : (l.map bareV).map shV = l.map shV := by
    rw [List.map_map]
    exact List.map_congr_left fun x hx => (sh_bare _ x (Nat.le_refl _) (hm x hx)).1
  have hvm := List.mem_of_getElem? hv
  obtain ⟨q1, q2, q3, q4⟩ := sh_bare _ v (Nat.le_refl _) (hm v hvm)
  rw [← hsh]
  refine code_c (l.map bareV) (bareV v) (by rw [List.getElem?_map, hv]; rfl) (by simpa using hl) (fun x hx c hc => ?_) q2
  obtain ⟨y, hy, rfl⟩ := List.mem_map.1 hx
  obtain ⟨p1, p2, p3, p4⟩ := sh_bare _ y (Nat.le_refl _) (hm y hy)
  have := hs y hy
  exact fit_c (bareV y) (by omega) p2 c fun _ => hi (bareV y) (by omega) p3 p2
theorem codeOf_of {l : List Val} {v : Val} (hv : l[0]? = some v) (hm : mayS v = true) : codeOf (l.map shV) ∈ codesOf (bareV v).kind ∧ (∀ x ∈ l, fitS (codeOf (l.map shV)) (shV x) = true) ∧ (bareV v).kind ∈ kindL := by
  obtain ⟨q1, q2, q3, q4⟩ := sh_bare _ v (Nat.le_refl _) hm
  have hk := kind_in q3 q2
  have hh : (List.headD (l.map shV) default).kind = (bareV v).kind := by
    cases l with
    | nil => simp at hv
    | cons a r => simp at hv; subst hv; show (shV a).kind = _; rw [← q1, sh_ne q2]
  obtain ⟨c1, c2⟩ := codeOf_ok hh hk
  refine ⟨c1, fun x hx => ?_, hk⟩
  rw [List.all_eq_true] at c2
  exact c2 _ (List.mem_map.2 ⟨x, hx, rfl⟩)
theorem alike_bare : ∀ (n : Nat) (a b : Val), alikeF n a b = true → mayS a = true → mayS b = true → (bareV b).kind = (bareV a).kind
  | 0, a, b, h, _, _ => by simp [alikeF] at h
  | n + 1, a, b, h, ha, hb => by
    unfold alikeF at h
    by_cases hk : a.kind = 25
    · by_cases hk2 : b.kind = 25
      · obtain ⟨a1, a2, a3, a4, a5⟩ := may_desc ha hk
        obtain ⟨b1, b2, b3, b4, b5⟩ := may_desc hb hk2
        rw [hk, hk2, a3, b3] at h
        simp only [bne_self_eq_false, Bool.or_self, Bool.false_eq_true, if_false, Bool.and_eq_true] at h
        rw [bare_desc hk a3, bare_desc hk2 b3]
        exact alike_bare n a2 b2 h.2 a5 b5
      · have : (b.kind != 25) = true := by simpa using hk2
        simp only [this, Bool.or_true, if_true, beq_iff_eq] at h
        exact absurd (h.symm.trans hk) hk2
    · have : (a.kind != 25) = true := by simpa using hk
      simp only [this, Bool.true_or, if_true, beq_iff_eq] at h
      rw [bare_ne hk, bare_ne (by rw [← h]; exact hk), h]
theorem al_kind {l : List Val} (hA : Al l) {v : Val} (hv : l[0]? = some v) : ∀ y ∈ l, (bareV y).kind = (bareV v).kind := by
  obtain ⟨w, hw, h⟩ := hA
  have : w = v := by
    rw [Option.mem_def, List.head?_eq_getElem?, hv] at hw
    exact (Option.some.inj hw).symm
  subst this
  intro y hy
  obtain ⟨h1, n, h2⟩ := h y hy
  exact alike_bare n w y h2 (h w (List.mem_of_getElem? hv)).1 h1
theorem al_one {v : Val} (hm : mayS v = true) : Al [v] := ⟨v, rfl, fun x hx => by
  obtain rfl : x = v := by simpa using hx
  exact ⟨hm, _, alikeF_refl _ x (Nat.le_refl _) hm⟩⟩
set_option maxHeartbeats 40000000 in
theorem put_step {n : Nat} (hi : InsOk (n + 1)) (hp : PutOk n) (hn : n + 1 ≤ 40000000) : PutOk (n + 1) := by
  intro v hv hm
  have hA := al_one hm
  have hstrip := strip_c [v] (by simp) hA
  have hcode := code_al hi [v] v rfl hA (by simp) (fun x hx => by obtain rfl : x = v := by simpa using hx
                                                                  omega)
  obtain ⟨c1, c2, c3⟩ := codeOf_of (l := [v]) (v := v) rfl hm
  have c4 := c2 v (List.mem_singleton.2 rfl)
  obtain ⟨q1, q2, q3, q4⟩ := sh_bare _ v (Nat.le_refl _) hm
  have hr := code_range c3 c1
  have hws := wr_sz v
  have hins := hi (bareV v) (by omega) q3 q2
  have hmx : (hdV v).size + 1 ≤ 10 * v.sz := by have := ins_sz v; omega
  have hW : ∀ b : ByteArray, b ++ hdV v ++ b1 (codeOf [shV v]) ++ dataS (codeOf [shV v]) (shV v) = b ++ wrV v := fun b => by unfold wrV Wd; simp only [ByteArray.append_assoc]
  have hWs : ∀ k, k + (hdV v).size + 1 + (dataS (codeOf [shV v]) (shV v)).size = k + (wrV v).size := fun k => by unfold wrV Wd; simp only [ByteArray.size_append, b1_size]; omega
  simp only [List.map_cons, List.map_nil] at hstrip hcode c1 c2 c4 hr
  refine ⟨?_, fun b h0 hb => ?_⟩
  · have hcons := cons_nils hp [v] v rfl hA (by simp) hv (codeOf [shV v]) hr.1 hr.2 (by simpa using hcode) (by omega)
    have hdata := data_c (hdV v ++ b1 (codeOf [shV v])) (bareV v) (codeOf [shV v]) (by rw [ByteArray.size_append, b1_size]; omega) (by rw [ByteArray.size_append, b1_size]; omega) (by omega) q3 q2 c1 (by rw [q1]; exact c4) hins
    rw [q1] at hdata
    simp only [ByteArray.size_append, b1_size] at hdata
    simp only [List.map_cons, List.map_nil] at hcons
    have e1 := hW e0
    have e2 := hWs 0
    rw [e0_app, e0_app] at e1
    rw [Nat.zero_add, Nat.zero_add] at e2
    rw [e1, e2] at hdata
    refine (ev_body ⟨[3], [(4000000, [])], [(3, [(0, 0, false), (1, 0, false), (2, 0, true), (3, 0, false), (4, 1, false), (5, 0, false), (6, 0, false), (7, 0, false), (8, 0, true), (9, 2, false)])], false, [], noIt⟩ [.tmp 4] rfl Tryd.func42 rfl rfl rfl (by kernel_rfl) (by show 2 ≤ 20; decide) (by kernel_rfl)).trans ?_
    simp +contextual (maxSteps := 10000000) only [↓reduceIte, go_sem, Nat.reduceEqDiff, Nat.reduceAdd, Nat.reduceSub, Nat.reduceMul, Nat.reduceLeDiff, Nat.reduceLT, Nat.reduceBEq, Nat.reduceDiv, Nat.reduceMod, Int.reduceLE, Int.reduceLT, Int.reduceEq, Int.reduceBEq, Int.reduceBNe, Int.reduceAdd, Int.reduceSub, Int.reduceNeg, Int.reduceToNat, Int.reduceMul, Int.reducePow, Nat.reducePow, reduceCtorEq, hstrip, hcons, hcode, hdata]
  · have hcons := cons_ref hp [v] v rfl hA (by simp) hv (codeOf [shV v]) hr.1 hr.2 (by simpa using hcode) b h0 hb
    have hdata := data_c (b ++ hdV v ++ b1 (codeOf [shV v])) (bareV v) (codeOf [shV v]) (by simp only [ByteArray.size_append, b1_size]; omega) (by simp only [ByteArray.size_append, b1_size]; omega) (by omega) q3 q2 c1 (by rw [q1]; exact c4) hins
    rw [q1] at hdata
    simp only [ByteArray.size_append, b1_size] at hdata
    simp only [List.map_cons, List.map_nil] at hcons
    rw [hW b, hWs] at hdata
    refine (ev_body ⟨[3], [(4000000, [])], [(3, [(0, 0, false), (1, 0, false), (2, 0, true), (3, 0, false), (4, 1, false), (5, 0, false), (6, 0, false), (7, 0, false), (8, 0, true), (9, 2, false)])], false, [], noIt⟩ [.tmp 4] rfl Tryd.func42 rfl rfl rfl (by kernel_rfl) (by show 2 ≤ 20; decide) (by kernel_rfl)).trans ?_
    simp +contextual (maxSteps := 10000000) only [↓reduceIte, go_sem, Nat.reduceEqDiff, Nat.reduceAdd, Nat.reduceSub, Nat.reduceMul, Nat.reduceLeDiff, Nat.reduceLT, Nat.reduceBEq, Nat.reduceDiv, Nat.reduceMod, Int.reduceLE, Int.reduceLT, Int.reduceEq, Int.reduceBEq, Int.reduceBNe, Int.reduceAdd, Int.reduceSub, Int.reduceNeg, Int.reduceToNat, Int.reduceMul, Int.reducePow, Nat.reducePow, reduceCtorEq, hstrip, hcons, hcode, hdata]
end Go.Bw.R1

namespace Go.Bw.R1
set_option maxRecDepth 5000
open Go Go.Bw Go.Proofs
theorem catW_one (x : Val) : catW [encV x] = wrV x := by simp only [catW]; rw [app_e0]; rfl
theorem catD_one (c : Int) (s : Sh) : catD c [s] = dataS c s := by simp only [catD]; rw [app_e0]
theorem al_fam {v : Val} (hm : mayS v = true) (hk : v.kind = 24) {x : Val} (hx : v.kids[0]? = some x) : Al v.kids := by
  rw [mayS_eq] at hm
  simp only [Bool.and_eq_true] at hm
  obtain ⟨⟨_, h1⟩, _, h2⟩ := hm
  rw [mayL_all, List.all_eq_true] at h1
  rw [hk] at h2
  have h2 : (v.kids.all fun x => match v.kids with | [] => true | y :: _ => alike y x) = true := h2
  rw [List.all_eq_true] at h2
  cases hl : v.kids with
  | nil => rw [hl] at hx; simp at hx
  | cons y r =>
    refine ⟨y, rfl, fun z hz => ⟨h1 z (by rw [hl]; exact hz), y.sz, ?_⟩⟩
    have := h2 z (by rw [hl]; exact hz)
    rw [hl] at this
    exact this
set_option maxHeartbeats 40000000 in
theorem ins_step {n : Nat} (hi : InsOk n) (hp : PutOk n) (hn : n + 1 ≤ 40000000) : InsOk (n + 1) := by
  intro v hv hm hk25
  have hl := szL_len v.kids
  have hz := Val.sz_eq v
  have hms : ∀ x ∈ v.kids, mayS x = true := by
    rw [mayS_eq] at hm
    simp only [Bool.and_eq_true] at hm
    have := hm.1.2
    rw [mayL_all, List.all_eq_true] at this
    exact this
  have hbnd : ∀ i, (catW ((v.kids.take i).map encV)).size ≤ 10 * Val.szL (v.kids.take i) := fun i => by
    have h1 := catW_size ((v.kids.take i).map encV)
    have h2 := mx_szL (v.kids.take i)
    rw [encL_map] at h2; omega
  by_cases hk : v.kind = 24
  case neg =>
    have hkt : (v.kind != 24) = true := by simpa using hk
    refine .inl ?_
    refine (ev_body ⟨[1], [(1, [2, 14, 15, 16]), (3, [2, 6, 40, 41, 42])], [], false, [], noIt⟩ [.tmp 2] rfl Tryd.func80 rfl rfl rfl (by kernel_rfl) (by show 1 ≤ 52; decide) (by kernel_rfl)).trans ?_
    unfold insS
    rw [if_neg hk]
    simp +contextual (maxSteps := 10000000) only [↓reduceIte, go_sem, Nat.reduceEqDiff, Nat.reduceAdd, Nat.reduceSub, Nat.reduceMul, Nat.reduceLeDiff, Nat.reduceLT, Nat.reduceBEq, Nat.reduceDiv, Nat.reduceMod, Int.reduceLE, Int.reduceLT, Int.reduceEq, Int.reduceBEq, Int.reduceBNe, Int.reduceAdd, Int.reduceSub, Int.reduceNeg, Int.reduceToNat, Int.reduceMul, Int.reducePow, Nat.reducePow, reduceCtorEq, hkt]
    refine lpK_inv (fun m f es => ∃ (i : Nat) (j : Int), j = i ∧ m + i = v.kids.length ∧ ((i = 0 ∧ f = [(2, .nils), (14, .ro false (v.kids.map Val.d)), (15, I v.kids.length), (16, I j)] ∧ es = []) ∨
      (0 < i ∧ f = [(2, .ref 0 0 1 0 (catW ((v.kids.take i).map encV)).size), (14, .ro false (v.kids.map Val.d)), (15, I v.kids.length), (16, I j)] ∧ es = [some ⟨0, bytesD (catW ((v.kids.take i).map encV))⟩]))) v.kids.length ⟨0, _, rfl, by omega, .inl ⟨rfl, rfl, rfl⟩⟩ ?_
    rintro m _ _ ⟨i, _, rfl, hmi, hst⟩ ih
    cases m with
    | succ m =>
      obtain ⟨x, hx⟩ := get_lt (l := v.kids) (i := i) (by omega)
      have hxm := List.mem_of_getElem? hx
      have hxs := szL_mem hx
      have hlt : decide ((i : Int) < v.kids.length) = true := by simp; omega
      have hix : (v.kids.map Val.d)[i]? = some x.d := by rw [List.getElem?_map, hx]; rfl
      have hsn : (v.kids.take (i + 1)).map encV = (v.kids.take i).map encV ++ [encV x] := by rw [take_snoc hx, List.map_append]; rfl
      have hcw : catW ((v.kids.take (i + 1)).map encV) = catW ((v.kids.take i).map encV) ++ wrV x := by rw [hsn, catW_app, catW_one]
      obtain ⟨hp1, hp2⟩ := hp x (by omega) (hms x hxm)
      rcases hst with ⟨rfl, rfl, rfl⟩ | ⟨hpos, rfl, rfl⟩
      · have hcw0 : catW ((v.kids.take 1).map encV) = wrV x := by rw [hcw]; exact e0_app _
        have hlt0 : decide ((0 : Int) < v.kids.length) = true := by simpa using hlt
        simp +contextual (maxSteps := 10000000) only [↓reduceIte, go_sem, Nat.reduceEqDiff, Nat.reduceAdd, Nat.reduceSub, Nat.reduceMul, Nat.reduceLeDiff, Nat.reduceLT, Nat.reduceBEq, Nat.reduceDiv, Nat.reduceMod, Int.reduceLE, Int.reduceLT, Int.reduceEq, Int.reduceBEq, Int.reduceBNe, Int.reduceAdd, Int.reduceSub, Int.reduceNeg, Int.reduceToNat, Int.reduceMul, Int.reducePow, Nat.reducePow, reduceCtorEq, hix, hlt0, hp1, wrap_i64 (n := 1) (by omega) (by omega)]
        refine ih m _ _ (by omega) ?_
        exact ⟨1, 1, rfl, by omega, .inr ⟨by omega, by rw [hcw0], by rw [hcw0]⟩⟩
      · have hb1 := hbnd i
        have hb2 := hbnd (i + 1)
        have hs1 := szL_app (v.kids.take i) [x]
        rw [← take_snoc hx] at hs1
        have hs2 := szL_take v.kids (i + 1)
        simp only [Val.szL] at hs1
        have hne : (catW ((v.kids.take i).map encV)).size ≠ 0 := by
          obtain ⟨y, hy⟩ := get_lt (l := v.kids) (i := 0) (by omega)
          have : v.kids.take i = y :: (v.kids.take i).drop 1 := by
            cases hkk : v.kids with
            | nil => rw [hkk] at hy; simp at hy
            | cons a r => rw [hkk] at hy; simp at hy; subst hy; cases i with
              | zero => omega
              | succ i => simp
          rw [this]
          simp only [List.map_cons, catW, ByteArray.size_append]
          have := wr_pos y
          unfold wrV shV hdV at this; omega
        have hput := hp2 (catW ((v.kids.take i).map encV)) hne (by omega)
        simp +contextual (maxSteps := 10000000) only [↓reduceIte, go_sem, Nat.reduceEqDiff, Nat.reduceAdd, Nat.reduceSub, Nat.reduceMul, Nat.reduceLeDiff, Nat.reduceLT, Nat.reduceBEq, Nat.reduceDiv, Nat.reduceMod, Int.reduceLE, Int.reduceLT, Int.reduceEq, Int.reduceBEq, Int.reduceBNe, Int.reduceAdd, Int.reduceSub, Int.reduceNeg, Int.reduceToNat, Int.reduceMul, Int.reducePow, Nat.reducePow, reduceCtorEq, hix, hlt, hput, wrap_i64 (n := (i : Int) + 1) (by omega) (by omega)]
        refine ih m _ _ (by omega) ?_
        exact ⟨i + 1, (i : Int) + 1, by omega, by omega, .inr ⟨by omega, by rw [hcw, ByteArray.size_append], by rw [hcw]⟩⟩
    | zero =>
      have hlt : decide ((i : Int) < v.kids.length) = false := by simp; omega
      obtain rfl : i = v.kids.length := by omega
      rcases hst with ⟨h0, rfl, rfl⟩ | ⟨hpos, rfl, rfl⟩
      · have hk0 : v.kids = [] := List.length_eq_zero_iff.1 h0
        rw [hk0] at hlt ⊢
        simp only [List.length_nil, List.map_nil, Int.natCast_zero, Int.cast_ofNat_Int] at hlt ⊢
        simp +contextual (maxSteps := 10000000) only [↓reduceIte, go_sem, Nat.reduceEqDiff, Nat.reduceAdd, Nat.reduceSub, Nat.reduceMul, Nat.reduceLeDiff, Nat.reduceLT, Nat.reduceBEq, Nat.reduceDiv, Nat.reduceMod, Int.reduceLE, Int.reduceLT, Int.reduceEq, Int.reduceBEq, Int.reduceBNe, Int.reduceAdd, Int.reduceSub, Int.reduceNeg, Int.reduceToNat, Int.reduceMul, Int.reducePow, Nat.reducePow, reduceCtorEq, hlt]
        rfl
      · rw [List.take_length]
        have hw : insR (catW (v.kids.map encV)) = (.ret (.ref 0 0 1 0 (catW (v.kids.map encV)).size), [some ⟨0, bytesD (catW (v.kids.map encV))⟩]) := by
          unfold insR
          rw [if_neg]
          obtain ⟨y, hy⟩ := get_lt (l := v.kids) (i := 0) (by omega)
          cases hkk : v.kids with
          | nil => rw [hkk] at hy; simp at hy
          | cons a r =>
            simp only [List.map_cons, catW, ByteArray.size_append]
            have := wr_pos a
            unfold wrV shV hdV at this; omega
        rw [hw]
        simp +contextual (maxSteps := 10000000) only [↓reduceIte, go_sem, Nat.reduceEqDiff, Nat.reduceAdd, Nat.reduceSub, Nat.reduceMul, Nat.reduceLeDiff, Nat.reduceLT, Nat.reduceBEq, Nat.reduceDiv, Nat.reduceMod, Int.reduceLE, Int.reduceLT, Int.reduceEq, Int.reduceBEq, Int.reduceBNe, Int.reduceAdd, Int.reduceSub, Int.reduceNeg, Int.reduceToNat, Int.reduceMul, Int.reducePow, Nat.reducePow, reduceCtorEq, hlt]
  case pos =>
  have hkf : (v.kind != 24) = false := by simpa using hk
  cases hkk : v.kids with
  | nil =>
    refine .inr ?_
    unfold insS
    rw [if_pos hk, hkk]
    refine (ev_body ⟨[1], [(1, [2, 14, 15, 16]), (3, [2, 6, 40, 41, 42])], [], false, [], noIt⟩ [.tmp 2] rfl Tryd.func80 rfl rfl rfl (by kernel_rfl) (by show 1 ≤ 52; decide) (by kernel_rfl)).trans ?_
    simp +contextual (maxSteps := 10000000) only [↓reduceIte, go_sem, Nat.reduceEqDiff, Nat.reduceAdd, Nat.reduceSub, Nat.reduceMul, Nat.reduceLeDiff, Nat.reduceLT, Nat.reduceBEq, Nat.reduceDiv, Nat.reduceMod, Int.reduceLE, Int.reduceLT, Int.reduceEq, Int.reduceBEq, Int.reduceBNe, Int.reduceAdd, Int.reduceSub, Int.reduceNeg, Int.reduceToNat, Int.reduceMul, Int.reducePow, Nat.reducePow, reduceCtorEq, hkf, hkk, List.map_nil, List.length_nil, one_b1]
    rfl
  | cons k0 r =>
    have h0 : v.kids[0]? = some k0 := by rw [hkk]; rfl
    have hA := al_fam hm hk h0
    have hks : ∀ x ∈ v.kids, x.sz ≤ n ∧ x.sz ≤ 40000000 := fun x hx => by have := szL_in hx; omega
    have hstrip := strip_c v.kids (by omega) hA
    have hcode := code_al hi v.kids k0 h0 hA (by omega) hks
    obtain ⟨c1, c2, c3⟩ := codeOf_of h0 (hms k0 (List.mem_of_getElem? h0))
    have hr := code_range c3 c1
    have hk0 := hks k0 (List.mem_of_getElem? h0)
    have hcons := cons_nils hp v.kids k0 h0 hA (by omega) (by omega) (codeOf (v.kids.map shV)) hr.1 hr.2 hcode (by omega)
    have hne : ((v.kids.length : Int) == 0) = false := by rw [hkk]; simp; omega
    have hins : insS v = hdV k0 ++ b1 (codeOf (v.kids.map shV)) ++ catD (codeOf (v.kids.map shV)) (v.kids.map shV) := by
      have e1 : (v.kids.map encV).map Prod.fst = v.kids.map shV := by rw [List.map_map]; rfl
      unfold insS
      rw [if_pos hk]
      rw [hkk] at e1 ⊢
      simp only [List.map_cons] at e1 ⊢
      simp only [arrS, List.map_cons]
      rw [e1]; rfl
    generalize hC : codeOf (v.kids.map shV) = C at hcode c1 c2 hr hcons hins
    have hpsz : insR (insS v) = (.ret (.ref 0 0 1 0 (insS v).size), [some ⟨0, bytesD (insS v)⟩]) := by
      unfold insR
      rw [if_neg]
      rw [hins]; simp only [ByteArray.size_append, b1_size]; omega
    refine .inl ?_
    rw [hpsz]
    have hmx := ins_sz k0
    refine (ev_body ⟨[1], [(1, [2, 14, 15, 16]), (3, [2, 6, 40, 41, 42])], [], false, [], noIt⟩ [.tmp 2] rfl Tryd.func80 rfl rfl rfl (by kernel_rfl) (by show 1 ≤ 52; decide) (by kernel_rfl)).trans ?_
    simp +contextual (maxSteps := 10000000) only [↓reduceIte, go_sem, Nat.reduceEqDiff, Nat.reduceAdd, Nat.reduceSub, Nat.reduceMul, Nat.reduceLeDiff, Nat.reduceLT, Nat.reduceBEq, Nat.reduceDiv, Nat.reduceMod, Int.reduceLE, Int.reduceLT, Int.reduceEq, Int.reduceBEq, Int.reduceBNe, Int.reduceAdd, Int.reduceSub, Int.reduceNeg, Int.reduceToNat, Int.reduceMul, Int.reducePow, Nat.reducePow, reduceCtorEq, hkf, hcons, hstrip, hcode, hne]
    refine lpK_inv (fun m f es => ∃ (i : Nat) (j : Int) (acc : ByteArray), j = i ∧ m + i = v.kids.length ∧ acc = hdV k0 ++ b1 C ++ catD C ((v.kids.take i).map shV) ∧ f = [(2, .ref 0 0 1 0 acc.size), (6, .sc (.int .u8 C)), (40, .ro false ((v.kids.map bareV).map Val.d)), (41, I v.kids.length), (42, I j)] ∧ es = [some ⟨0, bytesD acc⟩]) v.kids.length ⟨0, _, hdV k0 ++ b1 C, rfl, by omega, (app_e0 _).symm, by rw [ByteArray.size_append, b1_size]; rfl, rfl⟩ ?_
    rintro m _ _ ⟨i, _, acc, rfl, hmi, hacc, rfl, rfl⟩ ih
    cases m with
    | succ m =>
      obtain ⟨x, hx⟩ := get_lt (l := v.kids) (i := i) (by omega)
      have hxm := List.mem_of_getElem? hx
      have hxs := szL_mem hx
      have hlt : decide ((i : Int) < v.kids.length) = true := by simp; omega
      obtain ⟨q1, q2, q3, q4⟩ := sh_bare _ x (Nat.le_refl _) (hms x hxm)
      have hix : ((v.kids.map bareV).map Val.d)[i]? = some (bareV x).d := by rw [List.getElem?_map, List.getElem?_map, hx]; rfl
      have hsn : (v.kids.take (i + 1)).map shV = (v.kids.take i).map shV ++ [shV x] := by rw [take_snoc hx, List.map_append]; rfl
      have hnx : acc ++ dataS C (shV x) = hdV k0 ++ b1 C ++ catD C ((v.kids.take (i + 1)).map shV) := by rw [hsn, catD_app, catD_one, hacc, ByteArray.append_assoc]
      have hal : ∀ y ∈ v.kids, (bareV y).kind = (bareV k0).kind := al_kind hA h0
      have hasz : acc.size ≤ 450000000 := by
        have h3 := szL_take v.kids i
        rw [hacc]; simp only [ByteArray.size_append, b1_size]
        cases i with
        | zero =>
          have := szL_in (List.mem_of_getElem? h0)
          simp only [List.take_zero, List.map_nil, catD, e0_size]; omega
        | succ i =>
          have h1 := catD_size2 C (encV k0) ((r.take i).map encV)
          have h2 := mx_szL (v.kids.take (i + 1))
          rw [encL_map, hkk, List.take_succ_cons, List.map_cons] at h2
          have e1 : (encV k0 :: (r.take i).map encV).map Prod.fst = (v.kids.take (i + 1)).map shV := by rw [hkk, List.take_succ_cons, List.map_cons, List.map_cons, List.map_map]; rfl
          rw [e1] at h1
          have e2 : (encV k0).2 = hdV k0 := rfl
          rw [e2] at h1
          rw [hkk, List.take_succ_cons] at h3
          rw [hkk] at hz
          omega
      have hdata := data_c acc (bareV x) C (by rw [hacc]; simp only [ByteArray.size_append, b1_size]; omega) hasz (by omega) q3 q2 (by rw [hal x hxm]; exact c1) (by rw [q1]; exact c2 x hxm) (hi (bareV x) (by omega) q3 q2)
      rw [q1] at hdata
      simp +contextual (maxSteps := 10000000) only [↓reduceIte, go_sem, Nat.reduceEqDiff, Nat.reduceAdd, Nat.reduceSub, Nat.reduceMul, Nat.reduceLeDiff, Nat.reduceLT, Nat.reduceBEq, Nat.reduceDiv, Nat.reduceMod, Int.reduceLE, Int.reduceLT, Int.reduceEq, Int.reduceBEq, Int.reduceBNe, Int.reduceAdd, Int.reduceSub, Int.reduceNeg, Int.reduceToNat, Int.reduceMul, Int.reducePow, Nat.reducePow, reduceCtorEq, hix, hlt, hdata, wrap_i64 (n := (i : Int) + 1) (by omega) (by omega)]
      refine ih m _ _ (by omega) ?_
      exact ⟨i + 1, (i : Int) + 1, acc ++ dataS C (shV x), by omega, by omega, hnx, by rw [ByteArray.size_append], rfl⟩
    | zero =>
      have hlt : decide ((i : Int) < v.kids.length) = false := by simp; omega
      obtain rfl : i = v.kids.length := by omega
      rw [List.take_length, ← hins] at hacc
      subst hacc
      simp +contextual (maxSteps := 10000000) only [↓reduceIte, go_sem, Nat.reduceEqDiff, Nat.reduceAdd, Nat.reduceSub, Nat.reduceMul, Nat.reduceLeDiff, Nat.reduceLT, Nat.reduceBEq, Nat.reduceDiv, Nat.reduceMod, Int.reduceLE, Int.reduceLT, Int.reduceEq, Int.reduceBEq, Int.reduceBNe, Int.reduceAdd, Int.reduceSub, Int.reduceNeg, Int.reduceToNat, Int.reduceMul, Int.reducePow, Nat.reducePow, reduceCtorEq, hlt]
theorem enc_ok : ∀ n, n ≤ 40000000 → InsOk n ∧ PutOk n
  | 0, _ => ⟨fun v hv => by rw [Val.sz_eq] at hv; omega, fun v hv => by rw [Val.sz_eq] at hv; omega⟩
  | n + 1, hn => by
    obtain ⟨h1, h2⟩ := enc_ok n (by omega)
    have h3 := ins_step h1 h2 hn
    exact ⟨h3, put_step h3 h2 hn⟩
/-- WHAT encode.Value ANSWERS -/
theorem encode_c (v : Val) (h : v.sz ≤ 40000000) (hw : v.wf) : EV 20 [v.d] [] = some (if rightS v = true then (.ret (.tup [.ref 0 0 1 0 (wrV v).size, I 0]), [some ⟨0, bytesD (wrV v)⟩]) else (.ret (.tup [.nils, I 1]), [])) := by
  have hr := right_c v (by omega) hw
  refine (ev_body ⟨[1], [], [], false, [], noIt⟩ [.tmp 2, .tmp 3] rfl Tryd.func20 rfl rfl rfl (by kernel_rfl) (by show 1 ≤ 9; decide) (by kernel_rfl)).trans ?_
  cases hb : rightS v with
  | true =>
    have hm : mayS v = true := by unfold rightS at hb; simp only [Bool.and_eq_true] at hb; exact hb.2
    have hp := ((enc_ok v.sz h).2 v (Nat.le_refl _) hm).1
    rw [hb] at hr
    simp +contextual (maxSteps := 10000000) only [↓reduceIte, go_sem, Nat.reduceEqDiff, Nat.reduceAdd, Nat.reduceSub, Nat.reduceMul, Nat.reduceLeDiff, Nat.reduceLT, Nat.reduceBEq, Nat.reduceDiv, Nat.reduceMod, Int.reduceLE, Int.reduceLT, Int.reduceEq, Int.reduceBEq, Int.reduceBNe, Int.reduceAdd, Int.reduceSub, Int.reduceNeg, Int.reduceToNat, Int.reduceMul, Int.reducePow, Nat.reducePow, reduceCtorEq, hr, hp]
  | false =>
    rw [hb] at hr
    simp +contextual (maxSteps := 10000000) only [↓reduceIte, go_sem, Nat.reduceEqDiff, Nat.reduceAdd, Nat.reduceSub, Nat.reduceMul, Nat.reduceLeDiff, Nat.reduceLT, Nat.reduceBEq, Nat.reduceDiv, Nat.reduceMod, Int.reduceLE, Int.reduceLT, Int.reduceEq, Int.reduceBEq, Int.reduceBNe, Int.reduceAdd, Int.reduceSub, Int.reduceNeg, Int.reduceToNat, Int.reduceMul, Int.reducePow, Nat.reducePow, reduceCtorEq, hr]
end Go.Bw.R1

/- law06: what was encoded is decoded. -/
namespace Go.Bw.R1
set_option maxRecDepth 5000
open Go Go.Bw Go.Proofs
set_option maxHeartbeats 8000000 in
theorem DecodeBack_c (v : Val) (more : ByteArray) (cut : Nat) (hv : v.wf) (zs : v.sz ≤ 1048576) (hcut : cut < 65536) : EW 11 [v.d, .ro false (bytesD more), .sc (.int .u16 (cut : Nat))] [] = some (.ret (B true), []) := by
  have hl := ew_of rfl (large1 v (by omega))
  have he := ew_of rfl (encode_c v (by omega) hv)
  refine (ev_body ⟨[3], [], [], false, [(3000004, [7]), (3000009, [9])], noIt⟩ [.tmp 6] rfl Tryd.func11 rfl rfl rfl (by kernel_rfl) (by show 3 ≤ 89; decide) (by kernel_rfl)).trans ?_
  cases hb : decide (8192 < lgS [v]) with
  | true =>
    rw [hb] at hl
    simp +contextual (maxSteps := 10000000) only [↓reduceIte, go_sem, Nat.reduceEqDiff, Nat.reduceAdd, Nat.reduceSub, Nat.reduceMul, Nat.reduceLeDiff, Nat.reduceLT, Nat.reduceBEq, Nat.reduceDiv, Nat.reduceMod, Int.reduceLE, Int.reduceLT, Int.reduceEq, Int.reduceBEq, Int.reduceBNe, Int.reduceAdd, Int.reduceSub, Int.reduceNeg, Int.reduceToNat, Int.reduceMul, Int.reducePow, Nat.reducePow, reduceCtorEq, hl, works6]
  | false =>
  rw [hb] at hl
  by_cases hm : 4096 < more.size
  · have g2 : decide ((4096 : Int) < more.size) = true := decide_eq_true (by omega)
    simp +contextual (maxSteps := 10000000) only [↓reduceIte, go_sem, Nat.reduceEqDiff, Nat.reduceAdd, Nat.reduceSub, Nat.reduceMul, Nat.reduceLeDiff, Nat.reduceLT, Nat.reduceBEq, Nat.reduceDiv, Nat.reduceMod, Int.reduceLE, Int.reduceLT, Int.reduceEq, Int.reduceBEq, Int.reduceBNe, Int.reduceAdd, Int.reduceSub, Int.reduceNeg, Int.reduceToNat, Int.reduceMul, Int.reducePow, Nat.reducePow, reduceCtorEq, hl, g2, works6]
  have g2 : decide ((4096 : Int) < more.size) = false := decide_eq_false (by omega)
  cases hr : rightS v with
  | false =>
    rw [hr, if_neg (by decide)] at he
    simp +contextual (maxSteps := 10000000) only [↓reduceIte, go_sem, Nat.reduceEqDiff, Nat.reduceAdd, Nat.reduceSub, Nat.reduceMul, Nat.reduceLeDiff, Nat.reduceLT, Nat.reduceBEq, Nat.reduceDiv, Nat.reduceMod, Int.reduceLE, Int.reduceLT, Int.reduceEq, Int.reduceBEq, Int.reduceBNe, Int.reduceAdd, Int.reduceSub, Int.reduceNeg, Int.reduceToNat, Int.reduceMul, Int.reducePow, Nat.reducePow, reduceCtorEq, hl, g2, he, works6]
  | true =>
  rw [hr, if_pos rfl] at he
  have p1 := wr_pos v
  have z1 := wr_sz v
  have c1 := decode_c (wrV v ++ more) (by rw [ByteArray.size_append]; omega)
  rw [toL_app, dec_rt v (by omega) hr hv] at c1
  have hk : cut % (wrV v).size < (wrV v).size := Nat.mod_lt _ p1
  have c2 := decode_c ((wrV v).extract 0 (cut % (wrV v).size)) (by rw [ByteArray.size_extract]; omega)
  rw [toL_ext0, dec_cut v (by omega) hr hv _ hk] at c2
  unfold decR at c1 c2
  dsimp only at c1 c2
  have s1 := ew_of rfl (same_c _ v v (Nat.le_refl _) (by omega))
  rw [same_refl] at s1
  have s2 : EW 16 [(Val.mk 0 0 e0 []).d, (Val.mk 0 0 ⟨#[]⟩ []).d] [] = some (.ret (B true), []) := by
    have s2 := ew_of rfl (same_c _ (Val.mk 0 0 ⟨#[]⟩ []) (Val.mk 0 0 ⟨#[]⟩ []) (Nat.le_refl _) (by decide))
    rw [same_refl] at s2
    exact s2
  have hz1 : ((wrV v).size = 0) = False := eq_false (by omega)
  have hs1 : ((wrV v).size ≤ 140737488355328) = True := eq_true (by omega)
  have hs2 : ((wrV v).size + more.size ≤ 140737488355328) = True := eq_true (by omega)
  have hrem : ((cut : Nat) : Int).tmod ((wrV v).size : Nat) = ((cut % (wrV v).size : Nat) : Int) := by
    rw [Int.tmod_eq_emod_of_nonneg (by omega)]; omega
  have hn0 : (((wrV v).size : Nat) : Int) ≠ 0 := by omega
  have hb0 : ((((wrV v).size : Nat) : Int) == 0) = false := by simpa using hn0
  have hk0 : (cut % (wrV v).size ≤ (wrV v).size) = True := eq_true (by omega)
  have hz : ((more.size = 0) = True ∧ EW 15 [.ro false (bytesD (wrV v))] [] = some (.ret (.tup [v.d, I (wrV v).size, I 0]), [])) ∨ ((more.size = 0) = False ∧ EW 15 [.ro false (bytesD (wrV v ++ more))] [] = some (.ret (.tup [v.d, I (wrV v).size, I 0]), [])) := by
    by_cases h : more.size = 0
    · refine .inl ⟨eq_true h, ?_⟩
      rw [size0 h, ba_app_nil] at c1; exact c1
    · exact .inr ⟨eq_false h, c1⟩
  clear c1
  rcases hz with ⟨z2, c1⟩ | ⟨z2, c1⟩ <;>
  simp +contextual (maxSteps := 10000000) only [↓reduceIte, go_sem, Nat.reduceEqDiff, Nat.reduceAdd, Nat.reduceSub, Nat.reduceMul, Nat.reduceLeDiff, Nat.reduceLT, Nat.reduceBEq, Nat.reduceDiv, Nat.reduceMod, Int.reduceLE, Int.reduceLT, Int.reduceEq, Int.reduceBEq, Int.reduceBNe, Int.reduceAdd, Int.reduceSub, Int.reduceNeg, Int.reduceToNat, Int.reduceMul, Int.reducePow, Nat.reducePow, reduceCtorEq, hl, g2, he, hz1, hs1, hs2, z2, c1, c2, s1, s2, works6, hrem, hn0, hb0, hk0, all1, takeB, Bool.false_and, bytesD_append, fsE_bytesn, bne_self_eq_false, beq_self_eq_true, ByteArray.size_append, wrap_i64 (n := (cut : Int)) (by omega) (by omega)]
end Go.Bw.R1
