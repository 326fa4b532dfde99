/- What the functions answer. -/
import Derived.Test.YtmhpipnapobbiaaGreatDoorRRRRWalk1
import Derived.Test.YtmhpipnapobbiaaGreatDoorRRRRCards
import Derived.WalkKit
import Derived.ProofKit
import Derived.OpenShut
import Derived.Deep.DeepHandedRow
set_option linter.unusedSimpArgs false
set_option linter.unusedVariables false
/- Plain: transfers as values, and how many bytes these have. -/
namespace Go.Bw.R1
set_option maxRecDepth 5000
open Go Go.Bw
structure Trf where
  handle : Int
  first : Int
  tag : ByteArray
  settled : Bool
  more : Bool
  aborted : Bool
  resume : Bool
  state : Outc
/-- what may stand in a transfer that a split sends -/
structure Trf.ok (t : Trf) : Prop where
  handle : 0 ≤ t.handle ∧ t.handle ≤ 4294967295
  first : -1 ≤ t.first ∧ t.first ≤ 4294967295
  tag : t.tag.size ≤ 32
  state : mayO t.state = true
  num : (0 ≤ t.state.a ∧ t.state.a < 18446744073709551616) ∧ (0 ≤ t.state.b ∧ t.state.b < 18446744073709551616)
  cond : t.state.cond.size ≤ 64
def i64V (n : Int) : Val := if n < 0 then vN else .mk 5 n ⟨#[]⟩ []
def txV (k : Int) (s : ByteArray) : Val := if s.size = 0 then vN else .mk k 0 s []
def flV (b : Bool) : Val := if b = true then .mk 2 1 ⟨#[]⟩ [] else vN
def trfA (t : Trf) : List Val := [i64V t.handle, i64V t.first, txV 19 t.tag, vN, flV t.settled]
def trfB (t : Trf) : List Val := [vN, outV t.state, flV t.resume, flV t.aborted]
def trfL (t : Trf) : List Val := trfA t ++ flV t.more :: trfB t
def trfV (t : Trf) : Val := putS 20 (trfL t)
mutual
def Val.tx : Val → Nat
  | .mk _ _ t l => t.size + Val.txL l
def Val.txL : List Val → Nat
  | [] => 0
  | v :: l => v.tx + Val.txL l
end
mutual
theorem mx_it : ∀ v : Val, mxS (encV v) ≤ 10 * v.items + v.tx
  | .mk k n t l => by
    have h1 := encF_size k n t (encL l); have h2 := mx_itL l
    have e : encV (.mk k n t l) = encF k n t (encL l) := by rw [encV]
    rw [e, Val.items, Val.tx]; omega
theorem mx_itL : ∀ l : List Val, ((encL l).map mxS).sum ≤ 10 * Val.itemsL l + Val.txL l
  | [] => by rw [encL]; exact Nat.zero_le _
  | v :: l => by have h1 := mx_it v; have h2 := mx_itL l; rw [encL, List.map_cons, List.sum_cons, Val.itemsL, Val.txL]; omega
end
theorem wr_it (v : Val) : (wrV v).size ≤ 10 * v.items + v.tx := Nat.le_trans (Wd_size (shV v) (hdV v)) (mx_it v)
theorem small_x {x : Val} {t : Trf} (h : t.ok) (hx : x ∈ trfL t) : mayS x = true ∧ x.depth ≤ 5 := by
  have hn : mayS vN = true ∧ vN.depth ≤ 5 := ⟨by rfl, by decide⟩
  have hi : ∀ n : Int, n ≤ 4294967295 → mayS (i64V n) = true ∧ (i64V n).depth ≤ 5 := fun n h1 => by
    unfold i64V; split
    · exact hn
    · exact ⟨num5_may h1, by simp only [Val.depth, Val.depthL]; omega⟩
  have hf : ∀ b : Bool, mayS (flV b) = true ∧ (flV b).depth ≤ 5 := fun b => by cases b <;> exact ⟨by rfl, by decide⟩
  have ht : mayS (txV 19 t.tag) = true ∧ (txV 19 t.tag).depth ≤ 5 := by
    unfold txV; split
    · exact hn
    · exact ⟨by rfl, by simp only [Val.depth, Val.depthL]; omega⟩
  have ho : mayS (outV t.state) = true ∧ (outV t.state).depth ≤ 5 := by
    refine ⟨out_may h.state, ?_⟩
    unfold outV; split
    · exact hn.2
    · have hd : Val.depthL (trimS (outF t.state)) ≤ 3 := by
        have key : ∀ l : List Val, (∀ x ∈ l, x.depth ≤ 3) → Val.depthL l ≤ 3 := by
          intro l; induction l with
          | nil => intro _; simp [Val.depthL]
          | cons a l ih => intro hl; have := hl a (by simp); have := ih fun y hy => hl y (by simp [hy]); simp only [Val.depthL]; omega
        refine key _ fun x hx => ?_
        have hx := trim_sub hx
        unfold outF at hx
        split at hx
        · simp only [List.mem_cons, List.not_mem_nil, or_false] at hx
          rcases hx with rfl | rfl <;> (simp only [Val.depth, Val.depthL]; omega)
        · split at hx
          · rw [List.mem_singleton.1 hx]; exact (condV_depth _).1
          · split at hx
            · simp only [List.mem_cons, List.not_mem_nil, or_false] at hx
              have hfl : ∀ n, (flagV n).depth ≤ 3 := fun n => by unfold flagV; split <;> decide
              rcases hx with rfl | rfl <;> exact hfl _
            · cases hx
      simp only [putS, Val.depth, Val.depthL]; omega
  simp only [trfL, trfA, trfB, List.cons_append, List.nil_append, List.mem_cons, List.not_mem_nil, or_false] at hx
  rcases hx with rfl | rfl | rfl | rfl | rfl | rfl | rfl | rfl | rfl | rfl
  · exact hi _ h.handle.2
  · exact hi _ h.first.2
  · exact ht
  · exact hn
  · exact hf _
  · exact hf _
  · exact hn
  · exact ho
  · exact hf _
  · exact hf _
theorem items_i64 (n : Int) : (i64V n).items = 1 ∧ (i64V n).tx = 0 := by unfold i64V; split <;> exact ⟨rfl, rfl⟩
theorem items_fl (b : Bool) : (flV b).items = 1 ∧ (flV b).tx = 0 := by cases b <;> exact ⟨rfl, rfl⟩
theorem items_tx (k : Int) (s : ByteArray) : (txV k s).items = 1 ∧ (txV k s).tx ≤ s.size := by
  unfold txV; split
  · exact ⟨rfl, Nat.zero_le _⟩
  · exact ⟨rfl, Nat.le_refl _⟩
theorem take_it : ∀ (l : List Val) (n : Nat), Val.itemsL (l.take n) ≤ Val.itemsL l ∧ Val.txL (l.take n) ≤ Val.txL l
  | [], n => by simp
  | x :: l, 0 => by simp [Val.itemsL, Val.txL]
  | x :: l, n + 1 => by have := take_it l n; simp only [List.take_succ_cons, Val.itemsL, Val.txL]; omega
theorem trim_it (l : List Val) : Val.itemsL (trimS l) ≤ Val.itemsL l ∧ Val.txL (trimS l) ≤ Val.txL l := by
  obtain ⟨n, _, h2, _⟩ := trimS_pre l
  rw [h2]; exact take_it l n
theorem flag_it (n : Int) : (flagV n).items = 1 ∧ (flagV n).tx = 0 := by unfold flagV; split <;> exact ⟨rfl, rfl⟩
theorem cond_it (c : ByteArray) : (condV c).items ≤ 4 ∧ (condV c).tx ≤ c.size := by
  refine ⟨(condV_depth c).2, ?_⟩
  unfold condV
  have e : trimS [Val.mk 21 0 c []] = [.mk 21 0 c []] := trim_last (l := []) (by simp [Val.kind_mk])
  split
  · exact Nat.zero_le _
  · simp only [putS, e, Val.tx, Val.txL]
    show 0 + (0 + 0 + (0 + (c.size + 0 + 0) + 0)) ≤ _
    omega
theorem out_it (o : Outc) : (outV o).items ≤ 7 ∧ (outV o).tx ≤ o.cond.size := by
  unfold outV
  split
  · exact ⟨by decide, Nat.zero_le _⟩
  · have h := trim_it (outF o)
    have h2 : Val.itemsL (outF o) ≤ 4 ∧ Val.txL (outF o) ≤ o.cond.size := by
      unfold outF
      split
      · exact ⟨by simp only [Val.itemsL, Val.items]; omega, Nat.zero_le _⟩
      · split
        · have := cond_it o.cond
          simp only [Val.itemsL, Val.txL]; omega
        · split
          · have h1 := flag_it o.a; have h2 := flag_it o.b
            simp only [Val.itemsL, Val.txL, h1, h2]; omega
          · exact ⟨by simp only [Val.itemsL]; omega, Nat.zero_le _⟩
    constructor
    · simp only [putS, Val.items, Val.itemsL]; omega
    · simp only [putS, Val.tx, Val.txL]
      show 0 + (0 + 0 + (0 + Val.txL (trimS (outF o)) + 0)) ≤ _
      omega
theorem trfL_it (t : Trf) : Val.itemsL (trfL t) ≤ 16 ∧ Val.txL (trfL t) ≤ t.tag.size + t.state.cond.size := by
  have h1 := items_i64 t.handle; have h2 := items_i64 t.first; have h3 := items_tx 19 t.tag
  have h4 := items_fl t.settled; have h5 := items_fl t.more; have h6 := items_fl t.resume; have h7 := items_fl t.aborted
  have h8 := out_it t.state
  have hn : vN.items = 1 ∧ vN.tx = 0 := ⟨rfl, rfl⟩
  simp only [trfL, trfA, trfB, List.cons_append, List.nil_append, Val.itemsL, Val.txL, h1, h2, h3.1, h4, h5, h6, h7, hn]
  omega
theorem trf_right {t : Trf} (h : t.ok) : rightS (trfV t) = true := by
  refine right_put ?_ ?_ ?_
  · rw [mayL_all, List.all_eq_true]; exact fun x hx => (small_x h (trim_sub hx)).1
  · have key : ∀ l : List Val, (∀ x ∈ l, x.depth ≤ 5) → Val.depthL l ≤ 5 := by
      intro l; induction l with
      | nil => intro _; simp [Val.depthL]
      | cons a l ih => intro hl; have := hl a (by simp); have := ih fun y hy => hl y (by simp [hy]); simp only [Val.depthL]; omega
    have := key (trimS (trfL t)) fun x hx => (small_x h (trim_sub hx)).2
    omega
  · have h1 := trim_it (trfL t); have h2 := trfL_it t; omega
theorem i64_wf (n : Int) (h : n < 18446744073709551616) : (i64V n).wf := by
  unfold i64V; split
  · exact ⟨by decide, trivial⟩
  · exact ⟨⟨by decide, by decide, by omega, h⟩, trivial⟩
theorem fl_wf (b : Bool) : (flV b).wf := by cases b <;> exact ⟨by decide, trivial⟩
theorem tx_wf (s : ByteArray) : (txV 19 s).wf := by unfold txV; split <;> exact ⟨by decide, trivial⟩
theorem condV_wf (c : ByteArray) : (condV c).wf := by
  unfold condV; split
  · exact ⟨by decide, trivial⟩
  · exact putS_wf 29 (by decide) ⟨⟨by decide, trivial⟩, trivial⟩
theorem outV_wf {o : Outc} (hk : 0 ≤ o.kind ∧ o.kind < 256) (ha : 0 ≤ o.a ∧ o.a < 18446744073709551616) (hb : 0 ≤ o.b ∧ o.b < 18446744073709551616) : (outV o).wf := by
  unfold outV; split
  · exact ⟨by decide, trivial⟩
  · refine putS_wf _ (by omega) ?_
    unfold outF
    split
    · exact ⟨⟨⟨by decide, by decide, ha⟩, trivial⟩, ⟨⟨by decide, by decide, hb⟩, trivial⟩, trivial⟩
    · split
      · exact ⟨condV_wf _, trivial⟩
      · split
        · have hf : ∀ n, (flagV n).wf := fun n => by unfold flagV; split <;> exact ⟨by decide, trivial⟩
          exact ⟨hf _, hf _, trivial⟩
        · trivial
theorem trf_wf {t : Trf} (h : t.ok) : (trfV t).wf := by
  refine putS_wf 20 (by decide) ?_
  have hk := may_kind h.state
  exact ⟨i64_wf _ (by have := h.handle.2; omega), i64_wf _ (by have := h.first.2; omega), tx_wf _, ⟨by decide, trivial⟩, fl_wf _, fl_wf _, ⟨by decide, trivial⟩, outV_wf (by omega) h.num.1 h.num.2, fl_wf _, fl_wf _, trivial⟩
theorem trf_items (t : Trf) : (trfV t).items ≤ 19 ∧ (trfV t).tx ≤ t.tag.size + t.state.cond.size := by
  have h1 := trim_it (trfL t); have h2 := trfL_it t
  constructor
  · simp only [trfV, putS, Val.items, Val.itemsL]; omega
  · simp only [trfV, putS, Val.tx, Val.txL]
    show 0 + (0 + 0 + (0 + Val.txL (trimS (trfL t)) + 0)) ≤ _
    omega
theorem trf_size {t : Trf} (h : t.ok) : (wrV (trfV t)).size ≤ 290 := by
  have h1 := wr_it (trfV t); have h2 := trf_items t
  have := h.tag; have := h.cond; omega
end Go.Bw.R1

/- Plain: how many bytes transfers have, with more to come and without. -/
namespace Go.Bw.R1
set_option maxRecDepth 5000
open Go Go.Bw
end Go.Bw.R1

/- perform's small parts; transfers told as values and as bytes. -/
namespace Go.Bw
set_option maxRecDepth 5000
open Go
theorem pureRun_ite {P : Program} {α : Type} {c : Prop} [Decidable c] {x y : Sem α} : pureRun P (if c then x else y) = if c then pureRun P x else pureRun P y := by split <;> rfl
theorem eqAll_self : ∀ {l : List (Option Bool)} {b : Bool}, (∀ o ∈ l, ∀ b, o = some b → b = true) → eqAll l = some b → b = true
  | [], b, _, h => by simp only [eqAll, Option.some.injEq] at h; exact h.symm
  | o :: l, b, hl, h => by
    simp only [eqAll, Option.bind_eq_some_iff, Option.map_eq_some_iff] at h
    obtain ⟨b1, h1, b2, h2, rfl⟩ := h
    rw [hl o (by simp) b1 h1, eqAll_self (fun o ho => hl o (by simp [ho])) h2]; rfl
theorem ba_self (a : ByteArray) : (a == a) = true := by cases a with | mk d => exact beq_self_eq_true d
theorem eqP_self {P : Program} : ∀ (d : Nat) (t : TypeId) (x : Value) (b : Bool), eqP P d t x x = some b → b = true
  | 0, _, _, _, h => by cases h
  | d + 1, t, x, b, h => by
    simp only [eqP] at h
    split at h
    · rename_i hx; injection hx with hx; subst hx; simp at h; exact h
    · rename_i hx; injection hx with hx1 hx2; subst hx1 hx2; simp at h; exact h
    · rename_i hx; injection hx with hx; subst hx; injection h with h; rw [← h]; exact ba_self _
    · rename_i fs xs ys _ hx
      injection hx with hx; subst hx
      split at h
      · cases h
      refine eqAll_self (fun o ho b hb => ?_) h
      obtain ⟨f, _, rfl⟩ := List.mem_map.1 ho
      split at hb
      · obtain ⟨u, h1, hb⟩ := Option.bind_eq_some_iff.1 hb
        obtain ⟨v, h2, hb⟩ := Option.bind_eq_some_iff.1 hb
        rw [h1] at h2; injection h2 with h2; subst h2
        exact eqP_self d _ _ _ hb
      · injection hb with hb; exact hb.symm
    · rename_i n e xs ys _ hx
      injection hx with hx; subst hx
      obtain ⟨sz, _, h⟩ := Option.bind_eq_some_iff.1 h
      refine eqAll_self (fun o ho b hb => ?_) h
      obtain ⟨f, _, rfl⟩ := List.mem_map.1 ho
      obtain ⟨u, h1, hb⟩ := Option.bind_eq_some_iff.1 hb
      obtain ⟨v, h2, hb⟩ := Option.bind_eq_some_iff.1 hb
      rw [h1] at h2; injection h2 with h2; subst h2
      exact eqP_self d _ _ _ hb
    · cases h
end Go.Bw
namespace Go.Bw.R1
open Go Go.Bw Go.Proofs
/-- a run by the kernel: straight code, whatever stands in the leaves -/
theorem ev_run (k : Nat) {f : FuncId} {ds : List D} {es : Sto} {r : R × Sto} (h : evKN Tryz.prog gl0 50 An1 [] (fun _ => X1) k f ds es = some r) : EV f ds es = some r := evKN_le k f ds es r h
abbrev I64 (n : Int) : D := .sc (.int .i64 n)
theorem punless_c (b : Bool) (v : Val) : EV 108 [B b, v.d] [] = some (.ret (if b = true then vN else v).d, []) := by
  refine (ev_body ⟨[3], [], [], true, [], noIt⟩ [.cell 4 49] rfl Tryz.func108 rfl rfl rfl (by kernel_rfl) (by show 2 ≤ 8; decide) (by kernel_rfl)).trans ?_
  cases b <;> simp +contextual (maxSteps := 10000000) only [go_sem, null_c] <;> rfl
theorem pint_c (n : Int) (h : -9223372036854775808 ≤ n ∧ n ≤ 9223372036854775807) : EV 115 [I64 n] [] = some (.ret (i64V n).d, []) := by
  refine (ev_body ⟨[], [], [], true, [], noIt⟩ [.cell 2 49] rfl Tryz.func115 rfl rfl rfl (by kernel_rfl) (by show 1 ≤ 9; decide) (by kernel_rfl)).trans ?_
  unfold i64V
  by_cases hn : n < 0
  · have g : decide (n < 0) = true := decide_eq_true hn
    have hu := punless_c true (.mk 5 (IntKind.u64.wrap n) ⟨#[]⟩ [])
    have h5 := number_c 5 (IntKind.u64.wrap n)
    simp +contextual (maxSteps := 10000000) only [go_sem, g, h5, hu, hn]
  · have g : decide (n < 0) = false := decide_eq_false hn
    have hu := punless_c false (.mk 5 n ⟨#[]⟩ [])
    have h5 := number_c 5 n
    simp +contextual (maxSteps := 10000000) only [go_sem, g, fit_u64 (n := n) (by omega) (by omega), h5, hu, hn]
theorem ptruth_c (b : Bool) : EV 122 [B b] [] = some (.ret (flV b).d, []) := by
  refine (ev_body ⟨[], [], [], true, [], noIt⟩ [.cell 2 49] rfl Tryz.func122 rfl rfl rfl (by kernel_rfl) (by show 1 ≤ 7; decide) (by kernel_rfl)).trans ?_
  have hb := bool_c true
  cases b with
  | true =>
    have hu := punless_c false (.mk 2 1 ⟨#[]⟩ [])
    simp +contextual (maxSteps := 10000000) only [go_sem, hb, hu]
    rfl
  | false =>
    have hu := punless_c true (.mk 2 1 ⟨#[]⟩ [])
    simp +contextual (maxSteps := 10000000) only [go_sem, hb, hu]
    rfl
theorem ptext_c (k : Int) (s : ByteArray) : EV 107 [.sc (.int .u8 k), .sc (.string s)] [] = some (.ret (txV k s).d, []) := by
  refine (ev_body ⟨[], [], [], true, [], noIt⟩ [.cell 4 49] rfl Tryz.func107 rfl rfl rfl (by kernel_rfl) (by show 2 ≤ 11; decide) (by kernel_rfl)).trans ?_
  have ht := text_c k s
  have hu := punless_c (decide (s.size = 0)) (.mk k 0 s [])
  rw [← size0] at hu
  unfold txV
  by_cases h : s.size = 0
  · have e : decide (s = ⟨#[]⟩) = true := by rw [size0]; simpa using h
    rw [e] at hu
    simp +contextual (maxSteps := 10000000) only [go_sem, ht, e, hu, h]
  · have e : decide (s = ⟨#[]⟩) = false := by rw [size0]; simpa using h
    rw [e] at hu
    simp +contextual (maxSteps := 10000000) only [go_sem, ht, e, hu, h]
theorem pstate_c (o : Outc) (h : mayO o = true) (hs : o.cond.size ≤ 3000000) : EV 125 [o.d] [] = some (.ret (outV o).d, []) := by
  have hp := oput_c o hs
  unfold putO at hp
  rw [if_pos h] at hp
  simp only [Outc.d, Outc.cs] at hp ⊢
  refine (ev_body ⟨[1], [], [], true, [], noIt⟩ [.cell 2 49] rfl Tryz.func125 rfl rfl rfl (by kernel_rfl) (by show 1 ≤ 11; decide) (by kernel_rfl)).trans ?_
  simp +contextual (maxSteps := 10000000) only [go_sem, hp]
theorem pmay_c (o : Outc) (h : mayO o = true) (hs : o.cond.size ≤ 3000000) : EV 124 [o.d] [] = some (.ret (B true), []) := by
  have hp := oput_c o hs
  unfold putO at hp
  rw [if_pos h] at hp
  simp only [Outc.d, Outc.cs] at hp ⊢
  refine (ev_body ⟨[1], [], [], false, [], noIt⟩ [.tmp 2] rfl Tryz.func124 rfl rfl rfl (by kernel_rfl) (by show 1 ≤ 12; decide) (by kernel_rfl)).trans ?_
  simp +contextual (maxSteps := 10000000) only [go_sem, hp]
theorem betw_c (n l : Int) (h1 : l ≤ n) (h2 : n ≤ 4294967295) : EV 113 [I64 n, I64 l] [] = some (.ret (B true), []) := by
  refine (ev_body ⟨[], [], [], false, [], noIt⟩ [.tmp 4] rfl Tryz.func113 rfl rfl rfl (by kernel_rfl) (by show 2 ≤ 12; decide) (by kernel_rfl)).trans ?_
  have g1 : decide (l ≤ n) = true := decide_eq_true h1
  have g2 : decide (n ≤ 4294967295) = true := decide_eq_true h2
  simp +contextual (maxSteps := 10000000) only [go_sem, g1, g2]
end Go.Bw.R1

/- perform: transfers. -/
namespace Go.Bw.R1
set_option maxRecDepth 5000
open Go Go.Bw Go.Proofs
def trC (t : Trf) (pl : ByteArray) : List D := [U8 5, Sx ⟨#[]⟩, Sx ⟨#[]⟩, .sc (.int .u32 0), .sc (.int .u16 0), .sc (.int .u32 0), I 0, .sc (.int .u32 0), .sc (.int .u32 0), .sc (.int .u32 0), .sc (.int .u32 0), Sx ⟨#[]⟩, I t.handle, B false, U8 0, U8 0, Sx ⟨#[]⟩, Sx ⟨#[]⟩, .ro false [], .sc (.int .u32 0), I 0, .sc (.int .u32 0), B false, B false, I t.first, .sc (.int .u32 0), Sx t.tag, B t.settled, B t.more, B t.aborted, B t.resume, U8 t.state.kind, U64 t.state.a, U64 t.state.b, Sx t.state.cond, .ro false (bytesD pl), B false, Sx ⟨#[]⟩]
def flC (t : Trf) : List D := [.sc (.int .u32 0), .sc (.int .u32 0), .sc (.int .u32 0), .sc (.int .u32 0), .sc (.int .u32 0), .sc (.int .u32 0), .sc (.int .u32 0), .sc (.int .u32 0), .sc (.int .u32 0), Sx ⟨#[]⟩, Sx ⟨#[]⟩, Sx ⟨#[]⟩, Sx ⟨#[]⟩, Sx ⟨#[]⟩, Sx t.tag, Sx ⟨#[]⟩, I 5, I 0, I 0, I t.handle, I 0, I 0, I 0, I t.first, B false, B false, B false, B t.settled, B t.more, B t.aborted, B t.resume, B false, U8 t.state.kind, U64 t.state.a, U64 t.state.b, Sx t.state.cond]
theorem plain_tr (t : Trf) (pl : ByteArray) : EV 141 [.agg (trC t pl)] [] = some (.ret (.agg (flC t)), []) := ev_run 2 (by kernel_rfl)
def flW (t : Trf) : List Value := [.int .u32 0, .int .u32 0, .int .u32 0, .int .u32 0, .int .u32 0, .int .u32 0, .int .u32 0, .int .u32 0, .int .u32 0, .string ⟨#[]⟩, .string ⟨#[]⟩, .string ⟨#[]⟩, .string ⟨#[]⟩, .string ⟨#[]⟩, .string t.tag, .string ⟨#[]⟩, .int .i64 5, .int .i64 0, .int .i64 0, .int .i64 t.handle, .int .i64 0, .int .i64 0, .int .i64 0, .int .i64 t.first, .bool false, .bool false, .bool false, .bool t.settled, .bool t.more, .bool t.aborted, .bool t.resume, .bool false, .int .u8 t.state.kind, .int .u64 t.state.a, .int .u64 t.state.b, .string t.state.cond]
theorem eqp_flat (t : Trf) : (eqP Tryz.prog 10000 162 (.agg (flW t).toArray) (.agg (flW t).toArray)).isSome = true := by kernel_rfl
theorem beq_flat {xo yo : Operand} (t : Trf) : binD Tryz.prog .eql 162 xo yo (.agg (flC t)) (.agg (flC t)) = some (.sc (.bool true)) := by
  have hg : Tryz.prog.eqGuardType Tryz.prog.depth 162 = false := by kernel_rfl
  have hl : toVals (flC t) = some (flW t) := rfl
  obtain ⟨b, hb⟩ := Option.isSome_iff_exists.1 (eqp_flat t)
  have hb1 := eqP_self _ _ _ _ hb
  subst hb1
  have hr := eqP_run _ _ _ _ _ hb
  simp only [binD, toVal, toVal1, hl, Option.map_some, pureD, eqGuard, binOp]
  rw [show (program : Sem Program) = .program .pure from rfl]
  simp only [pureRun, pureRun_bind, pureRun_pure, hg, Bool.not_true, Bool.not_false, Bool.false_eq_true, if_false, if_true, pureRun_ite, Option.bind_some, resD]
  rw [show Op.equal 162 (.agg (flW t).toArray) (.agg (flW t).toArray) = Op.equalIn 10000 162 (.agg (flW t).toArray) (.agg (flW t).toArray) from rfl, hr]
  rfl
theorem eqm_nil : EV 142 [.ro false [], .ro false []] [] = some (.ret (B true), []) := ev_run 2 (by kernel_rfl)
theorem eqb_self (b : ByteArray) (hb : b.size ≤ 40000000) : EV 143 [.ro false (bytesD b), .ro false (bytesD b)] [] = some (.ret (B true), []) := by
  refine (ev_body ⟨[], [(0, [0, 1, 12, 13])], [(6, [(0, 0, false), (1, 0, false), (2, 0, false), (3, 0, false), (4, 0, false), (5, 0, false), (6, 0, false), (7, 0, false), (8, 0, false)])], false, [], noIt⟩ [.tmp 4] rfl Tryz.func143 rfl rfl rfl (by kernel_rfl) (by show 2 ≤ 26; decide) (by kernel_rfl)).trans ?_
  have hne : ((b.size : Int) != b.size) = false := by simp
  simp +contextual (maxSteps := 10000000) only [go_sem, hne]
  refine lpK_inv (fun m f es => ∃ (i : Nat) (j : Int), j = i ∧ m + i = b.size ∧ f = [(0, .ro false (bytesD b)), (1, .ro false (bytesD b)), (12, I b.size), (13, I j)] ∧ es = []) b.size ⟨0, 0, rfl, by omega, rfl, rfl⟩ ?_
  rintro m _ _ ⟨i, _, rfl, hmi, rfl, rfl⟩ ih
  cases m with
  | succ m =>
    obtain ⟨x, hx⟩ := get_lt (l := b.data.toList) (i := i) (by have : b.data.toList.length = b.size := rfl; omega)
    have hlt : decide ((i : Int) < b.size) = true := by simp; omega
    have hix : (bytesD b)[i]? = some (.sc (.int .u8 x.toNat)) := by unfold bytesD; rw [List.getElem?_map, hx]; rfl
    have hnx : ((x.toNat : Int) != x.toNat) = false := by simp
    simp +contextual (maxSteps := 10000000) only [go_sem, hlt, hix, hnx, wrap_i64 (n := (i : Int) + 1) (by omega) (by omega)]
    exact ih m _ _ (by omega) ⟨i + 1, (i : Int) + 1, by omega, by omega, rfl, rfl⟩
  | zero =>
    have hlt : decide ((i : Int) < b.size) = false := decide_eq_false (by omega)
    simp +contextual (maxSteps := 10000000) only [go_sem, hlt]
set_option maxHeartbeats 4000000 in
theorem only_tr (t : Trf) (pl : ByteArray) (hp : pl.size ≤ 40000000) : EV 105 [.agg (trC t pl), .agg (trC t pl)] [] = some (.ret (B true), []) := by
  have h1 := plain_tr t pl
  have h2 := eqb_self pl hp
  have h3 := fun xo yo => @beq_flat xo yo t
  have h4 : D.refsL (flC t) = [] := rfl
  generalize flC t = F at *
  unfold trC at h1 ⊢
  refine (ev_body ⟨[2, 3], [], [(1, [(0, 0, false), (1, 0, false), (2, 0, false), (3, 0, false), (4, 0, false), (5, 0, false), (6, 0, false), (7, 0, false), (8, 0, false), (9, 0, false), (10, 0, false), (11, 0, false), (12, 0, false), (13, 0, false), (14, 0, false), (15, 0, false), (16, 0, false), (17, 0, false), (18, 0, false), (19, 0, false)])], false, [], noIt⟩ [.tmp 4] rfl Tryz.func105 rfl rfl rfl (by kernel_rfl) (by show 2 ≤ 24; decide) (by kernel_rfl)).trans ?_
  simp +contextual (maxSteps := 10000000) only [go_sem, h1, h2, h3, h4, eqm_nil]
end Go.Bw.R1

/- perform: transfers, told. -/
namespace Go.Bw.R1
set_option maxRecDepth 5000
open Go Go.Bw Go.Proofs
set_option maxHeartbeats 4000000 in
theorem may_tr (t : Trf) (h : t.ok) (pl : ByteArray) (hp : pl.size ≤ 40000000) : EV 81 [.agg (trC t pl)] [] = some (.ret (B true), []) := by
  have h1 := only_tr t pl hp
  have h2 := betw_c t.handle 0 h.handle.1 h.handle.2
  have h3 := betw_c t.first (-1) h.first.1 h.first.2
  have h4 : decide ((t.tag.size : Int) ≤ 32) = true := decide_eq_true (by have := h.tag; omega)
  have h5 := pmay_c t.state h.state (by have := h.cond; omega)
  simp only [Outc.d, Outc.cs] at h5
  unfold trC at h1 ⊢
  refine (ev_body ⟨[1], [], [], false, [], noIt⟩ [.tmp 2] rfl Tryz.func81 rfl rfl rfl (by kernel_rfl) (by show 1 ≤ 49; decide) (by kernel_rfl)).trans ?_
  simp +contextual (maxSteps := 10000000) only [go_sem, h1, h2, h3, h4, h5]
set_option maxHeartbeats 8000000 in
theorem put_tr (t : Trf) (h : t.ok) (pl : ByteArray) : EV 82 [.agg (trC t pl)] [] = some (.ret (.ro false ((trfL t).map Val.d)), []) := by
  have hh := h.handle
  have hf := h.first
  have h1 := pint_c t.handle (by omega)
  have h2 := pint_c t.first (by omega)
  have h3 := ptext_c 19 t.tag
  have h4 := ptruth_c t.settled
  have h5 := ptruth_c t.more
  have h6 := ptruth_c t.resume
  have h7 := ptruth_c t.aborted
  have h8 := pstate_c t.state h.state (by have := h.cond; omega)
  simp only [Outc.d, Outc.cs] at h8
  have hl : (trfL t).map Val.d = [(i64V t.handle).d, (i64V t.first).d, (txV 19 t.tag).d, vN.d, (flV t.settled).d, (flV t.more).d, vN.d, (outV t.state).d, (flV t.resume).d, (flV t.aborted).d] := rfl
  rw [hl]
  generalize i64V t.handle = v1 at *
  generalize i64V t.first = v2 at *
  generalize txV 19 t.tag = v3 at *
  generalize flV t.settled = v4 at *
  generalize flV t.more = v5 at *
  generalize flV t.resume = v6 at *
  generalize flV t.aborted = v7 at *
  generalize outV t.state = v8 at *
  unfold trC
  refine (ev_body ⟨[1], [], [(1, [(0, 0, false), (1, 0, false), (2, 0, false), (3, 0, false), (4, 0, false), (5, 0, false), (6, 0, false), (7, 0, false), (8, 0, false), (9, 0, false), (10, 0, false), (11, 0, false), (12, 0, false), (13, 0, false), (14, 0, false), (15, 0, false), (16, 0, false), (17, 0, false), (18, 0, false), (19, 0, false), (20, 0, false), (21, 0, false), (22, 0, false), (23, 0, false), (24, 0, false), (25, 0, false), (26, 0, false), (27, 0, false)])], true, [], noIt⟩ [.tmp 2] rfl Tryz.func82 rfl rfl rfl (by kernel_rfl) (by show 1 ≤ 30; decide) (by kernel_rfl)).trans ?_
  simp +contextual (maxSteps := 10000000) only [go_sem, h1, h2, h3, h4, h5, h6, h7, h8, null_c]
def kindsL : List D := [.agg [Sx ⟨#[111, 112, 101, 110]⟩, I 10, .fn (.func 69) [] [], .fn (.func 70) [] [], .fn (.func 71) [] []], .agg [Sx ⟨#[98, 101, 103, 105, 110]⟩, I 8, .fn (.func 72) [] [], .fn (.func 73) [] [], .fn (.func 74) [] []],
  .agg [Sx ⟨#[97, 116, 116, 97, 99, 104]⟩, I 14, .fn (.func 75) [] [], .fn (.func 76) [] [], .fn (.func 77) [] []], .agg [Sx ⟨#[102, 108, 111, 119]⟩, I 11, .fn (.func 78) [] [], .fn (.func 79) [] [], .fn (.func 80) [] []],
  .agg [Sx ⟨#[116, 114, 97, 110, 115, 102, 101, 114]⟩, I 11, .fn (.func 81) [] [], .fn (.func 82) [] [], .fn (.func 83) [] []], .agg [Sx ⟨#[100, 105, 115, 112, 111, 115, 105, 116, 105, 111, 110]⟩, I 6, .fn (.func 84) [] [], .fn (.func 85) [] [], .fn (.func 86) [] []],
  .agg [Sx ⟨#[100, 101, 116, 97, 99, 104]⟩, I 3, .fn (.func 87) [] [], .fn (.func 88) [] [], .fn (.func 89) [] []], .agg [Sx ⟨#[101, 110, 100]⟩, I 1, .fn (.func 90) [] [], .fn (.func 91) [] [], .fn (.func 92) [] []], .agg [Sx ⟨#[99, 108, 111, 115, 101]⟩, I 1, .fn (.func 90) [] [], .fn (.func 91) [] [], .fn (.func 92) [] []]]
theorem kinds_c : EV 63 [] [] = some (.ret (.ro false kindsL), []) := ev_run 1 (by kernel_rfl)
theorem kinds_len : kindsL.length = 9 := nr rfl
theorem kinds_refs : D.refsL kindsL = [] := nr rfl
theorem kinds_can : D.canL kindsL = kindsL := nr rfl
theorem kinds_4 : kindsL[4]? = some (.agg [Sx ⟨#[116, 114, 97, 110, 115, 102, 101, 114]⟩, I 11, .fn (.func 81) [] [], .fn (.func 82) [] [], .fn (.func 83) [] []]) := rfl
theorem putS_szT (code : Int) (l : List Val) : (putS code l).sz ≤ Val.szL l + 3 := by
  have := trimS_sz l
  have e : (putS code l).sz = 0 + (0 + 0 + 1 + (0 + Val.szL (trimS l) + 1 + 0)) + 1 := rfl
  rw [e]; omega
theorem outV_sz (o : Outc) : (outV o).sz ≤ o.cond.size + 30 := by
  unfold outV
  split
  · show 0 + 0 + 1 ≤ _; omega
  · have := putS_szT (34 + o.kind) (outF o); have := outF_sz o; omega
theorem trf_sz {t : Trf} (h : t.ok) : Val.szL (trfL t) ≤ 200 ∧ (trfV t).sz ≤ 210 := by
  have hi : ∀ n, (i64V n).sz = 1 := fun n => by unfold i64V; split <;> rfl
  have hf : ∀ b, (flV b).sz = 1 := fun b => by cases b <;> rfl
  have ht : (txV 19 t.tag).sz ≤ t.tag.size + 1 := by
    unfold txV; split
    · show 0 + 0 + 1 ≤ _; omega
    · show t.tag.size + 0 + 1 ≤ _; omega
  have ho := outV_sz t.state
  have hn : vN.sz = 1 := rfl
  have h1 := h.tag; have h2 := h.cond
  have hz : Val.szL (trfL t) ≤ 200 := by
    simp only [trfL, trfA, trfB, List.cons_append, List.nil_append, Val.szL, hi, hf, hn]; omega
  have := putS_szT 20 (trfL t)
  exact ⟨hz, by unfold trfV; omega⟩
set_option maxHeartbeats 8000000 in
theorem pput_tr (t : Trf) (h : t.ok) (pl : ByteArray) (hp : pl.size ≤ 40000000) : EV 54 [.agg (trC t pl)] [] = some (.ret (.tup [(trfV t).d, I 0]), []) := by
  obtain ⟨z1, z2⟩ := trf_sz h
  have h1 := may_tr t h pl hp
  have h2 := put_tr t h pl
  have h3 := fput_c 20 (trfL t) (by omega)
  have h4 := right_c (trfV t) (by omega) (trf_wf h)
  rw [trf_right h] at h4
  have e : putS 20 (trfL t) = trfV t := rfl
  rw [e] at h3
  generalize trfV t = V at *
  generalize trfL t = L at *
  unfold trC at h1 h2 ⊢
  refine (ev_body ⟨[1], [], [(3, [(6, 0, true), (0, 0, false), (1, 0, false), (2, 0, false), (3, 0, false), (4, 0, false), (5, 0, false), (7, 0, true)]), (6, [(10, 0, true), (0, 0, false), (1, 0, false), (2, 0, false), (3, 0, false), (4, 0, false), (5, 0, false), (6, 0, false), (7, 0, false), (8, 0, false), (9, 0, false), (11, 0, true)])], true, [], noIt⟩ [.cell 2 49, .tmp 3] rfl Tryz.func54 rfl rfl rfl (by kernel_rfl) (by show 1 ≤ 42; decide) (by kernel_rfl)).trans ?_
  simp +contextual (maxSteps := 10000000) only [go_sem, kinds_c, kinds_len, kinds_refs, kinds_can, kinds_4, h1, h2, h3, h4]
set_option maxHeartbeats 4000000 in
theorem pwrite_tr (t : Trf) (h : t.ok) (pl : ByteArray) (hp : pl.size ≤ 40000000) : EV 41 [.agg (trC t pl)] [] = some (.ret (.tup [.ro false (bytesD (wrV (trfV t) ++ pl)), I 0]), []) := by
  obtain ⟨z1, z2⟩ := trf_sz h
  have h1 := pput_tr t h pl hp
  have h2 := encode_c (trfV t) (by omega) (trf_wf h)
  rw [if_pos (trf_right h)] at h2
  have h3 := trf_size h
  have h4 : (wrV (trfV t)).size + pl.size ≤ 140737488355328 := by omega
  generalize trfV t = V at *
  generalize wrV V = W at *
  unfold trC at h1 ⊢
  refine (ev_body ⟨[1], [], [], true, [], noIt⟩ [.tmp 2, .tmp 3] rfl Tryz.func41 rfl rfl rfl (by kernel_rfl) (by show 1 ≤ 25; decide) (by kernel_rfl)).trans ?_
  by_cases h0 : pl.size = 0
  · have he : W ++ pl = W := by rw [show pl = ⟨#[]⟩ from ByteArray.ext (Array.eq_empty_of_size_eq_zero h0)]; exact ByteArray.append_empty
    rw [he]
    simp +contextual (maxSteps := 10000000) only [go_sem, h1, h2, h0, h4]
  · simp +contextual (maxSteps := 10000000) only [go_sem, h1, h2, h0, h4, bytesD_one]
end Go.Bw.R1

/- split: a delivery that goes out. -/
namespace Go.Bw.R1
set_option maxRecDepth 5000
open Go Go.Bw Go.Proofs
structure Spl where
  handle : Int
  id : Int
  tag : ByteArray
  settled : Bool
  resume : Bool
  state : Outc
  pl : ByteArray
  begun : Bool
  over : Bool
structure Spl.ok (s : Spl) : Prop where
  handle : 0 ≤ s.handle ∧ s.handle ≤ 7
  id : 0 ≤ s.id ∧ s.id ≤ 4294967295
  tag : s.tag.size ≤ 32
  state : mayO s.state = true
  num : (0 ≤ s.state.a ∧ s.state.a < 18446744073709551616) ∧ (0 ≤ s.state.b ∧ s.state.b < 18446744073709551616)
  cond : s.state.cond.size ≤ 64
  pl : s.pl.size ≤ 4096
def spC (s : Spl) : List D := [I s.handle, .sc (.int .u32 s.id), Sx s.tag, B s.settled, B s.resume, U8 s.state.kind, U64 s.state.a, U64 s.state.b, Sx s.state.cond, .ro false (bytesD s.pl), B s.begun, B s.over]
abbrev spE (s : Spl) : Option En := some ⟨0, spC s⟩
/-- the next transfer, but for its payload -/
def headT (s : Spl) (more : Bool) : Trf := if s.begun = true then ⟨s.handle, -1, ⟨#[]⟩, false, more, false, false, ⟨0, 0, 0, ⟨#[]⟩⟩⟩ else ⟨s.handle, s.id, s.tag, s.settled, more, false, s.resume, s.state⟩
theorem head_ok {s : Spl} (h : s.ok) (more : Bool) : (headT s more).ok := by
  have h1 := h.handle; have h2 := h.id; have h3 := h.tag; have h5 := h.num; have h6 := h.cond
  unfold headT
  split
  · exact ⟨by dsimp only; omega, by dsimp only; omega, Nat.zero_le _, rfl, ⟨⟨Int.le_refl _, by dsimp only; omega⟩, ⟨Int.le_refl _, by dsimp only; omega⟩⟩, Nat.zero_le _⟩
  · exact ⟨by dsimp only; omega, by dsimp only; omega, h3, h.state, h5, h6⟩
def spP (h : Int) : Trf := ⟨h, -1, ⟨#[]⟩, false, false, false, false, ⟨0, 0, 0, ⟨#[]⟩⟩⟩
theorem splain_c (s : Spl) : EV 17 [.ptr 0 0 0] [spE s] = some (.ret (.agg (trC (spP s.handle) ⟨#[]⟩)), [spE s]) := by
  unfold spE spC
  refine (ev_body ⟨[], [], [], true, [], noIt⟩ [.cell 2 40] rfl Tryz.func17 rfl rfl rfl (by kernel_rfl) (by show 1 ≤ 8; decide) (by kernel_rfl)).trans ?_
  simp +contextual (maxSteps := 10000000) only [go_sem]
  rfl
set_option maxHeartbeats 8000000 in
theorem head_c (s : Spl) (h : s.ok) : EV 15 [.ptr 0 0 0] [spE s] = some (.ret (.agg (trC (headT s false) ⟨#[]⟩)), [spE s]) := by
  have hi := h.id
  have hw : IntKind.i64.wrap s.id = s.id := wrap_i64 (by omega) (by omega)
  have hp := splain_c s
  unfold spE spC trC spP at hp
  unfold spE spC headT
  refine (ev_body ⟨[], [], [(4, [(0, 0, false), (1, 0, false), (2, 0, false), (3, 0, false), (4, 0, false), (25, 0, false), (26, 0, true), (5, 0, false), (6, 0, false), (7, 0, false), (8, 0, false), (9, 0, false), (27, 1, false), (28, 0, true), (10, 0, false), (11, 0, false), (12, 0, false), (13, 0, false), (14, 0, false), (29, 2, false), (30, 0, true), (15, 0, false), (16, 0, false), (17, 0, false), (18, 0, false), (19, 0, false), (31, 3, false), (32, 0, true), (20, 0, false), (21, 0, false), (22, 0, false), (23, 0, false), (24, 0, false), (33, 4, false), (34, 0, true)])], true, [], noIt⟩ [.cell 2 40] rfl Tryz.func15 rfl rfl rfl (by kernel_rfl) (by show 1 ≤ 42; decide) (by kernel_rfl)).trans ?_
  cases hb : s.begun with
  | true =>
    rw [hb] at hp
    simp +contextual (maxSteps := 10000000) only [go_sem, hp]
    rfl
  | false =>
    rw [hb] at hp
    simp +contextual (maxSteps := 10000000) only [go_sem, hp, hw]
    rfl
theorem left_c (s : Spl) : EV 12 [.ptr 0 0 0] [spE s] = some (.ret (I (if s.over = true then 0 else s.pl.size)), [spE s]) := by
  unfold spE spC
  refine (ev_body ⟨[], [], [], false, [], noIt⟩ [.tmp 2] rfl Tryz.func12 rfl rfl rfl (by kernel_rfl) (by show 1 ≤ 17; decide) (by kernel_rfl)).trans ?_
  cases hb : s.over <;> simp +contextual (maxSteps := 10000000) only [go_sem] <;> rfl
def zPerf : List D := [U8 0, Sx ⟨#[]⟩, Sx ⟨#[]⟩, .sc (.int .u32 0), .sc (.int .u16 0), .sc (.int .u32 0), I 0, .sc (.int .u32 0), .sc (.int .u32 0), .sc (.int .u32 0), .sc (.int .u32 0), Sx ⟨#[]⟩, I 0, B false, U8 0, U8 0, Sx ⟨#[]⟩, Sx ⟨#[]⟩, .ro false [], .sc (.int .u32 0), I 0, .sc (.int .u32 0), B false, B false, I 0, .sc (.int .u32 0), Sx ⟨#[]⟩, B false, B false, B false, B false, U8 0, U64 0, U64 0, Sx ⟨#[]⟩, .ro false [], B false, Sx ⟨#[]⟩]
theorem next_over (s : Spl) (h : s.over = true) (room : Int) : EV 10 [.ptr 0 0 0, I room] [spE s] = some (.ret (.tup [.agg zPerf, B false]), [spE s]) := by
  unfold spE spC
  rw [h]
  refine (ev_body ⟨[], [], [(7, [(0, 0, false), (5, 0, false), (6, 0, false), (7, 0, true), (1, 0, false), (2, 0, false), (3, 0, false), (4, 0, false), (8, 1, false), (9, 1, false), (10, 0, true)])], true, [(4, [33])], noIt⟩ [.cell 4 40, .tmp 5] rfl Tryz.func10 rfl rfl rfl (by kernel_rfl) (by show 2 ≤ 64; decide) (by kernel_rfl)).trans ?_
  simp +contextual (maxSteps := 10000000) only [go_sem]
  rfl
theorem abort_over (s : Spl) (h : s.over = true) : EV 11 [.ptr 0 0 0] [spE s] = some (.ret (.tup [.agg zPerf, B false]), [spE s]) := by
  unfold spE spC
  rw [h]
  refine (ev_body ⟨[], [], [], true, [], noIt⟩ [.cell 2 40, .tmp 3] rfl Tryz.func11 rfl rfl rfl (by kernel_rfl) (by show 1 ≤ 27; decide) (by kernel_rfl)).trans ?_
  simp +contextual (maxSteps := 10000000) only [go_sem]
  rfl
theorem abort_new (s : Spl) (h : s.over = false) (hb : s.begun = false) : EV 11 [.ptr 0 0 0] [spE s] = some (.ret (.tup [.agg zPerf, B false]), [spE { s with over := true }]) := by
  unfold spE spC
  rw [h, hb]
  refine (ev_body ⟨[], [], [], true, [], noIt⟩ [.cell 2 40, .tmp 3] rfl Tryz.func11 rfl rfl rfl (by kernel_rfl) (by show 1 ≤ 27; decide) (by kernel_rfl)).trans ?_
  simp +contextual (maxSteps := 10000000) only [go_sem]
  rfl
theorem abort_run (s : Spl) (h : s.over = false) (hb : s.begun = true) : EV 11 [.ptr 0 0 0] [spE s] = some (.ret (.tup [.agg (trC ⟨s.handle, -1, ⟨#[]⟩, false, false, true, false, ⟨0, 0, 0, ⟨#[]⟩⟩⟩ ⟨#[]⟩), B true]), [spE { s with over := true }]) := by
  have hp := splain_c s
  unfold spE spC trC spP at hp
  rw [hb] at hp
  unfold spE spC
  rw [h, hb]
  refine (ev_body ⟨[], [], [], true, [], noIt⟩ [.cell 2 40, .tmp 3] rfl Tryz.func11 rfl rfl rfl (by kernel_rfl) (by show 1 ≤ 27; decide) (by kernel_rfl)).trans ?_
  have hp2 : ∀ o, EV 17 [.ptr 0 0 0] [spE { s with over := o }] = _ := fun o => splain_c { s with over := o }
  unfold spE spC trC spP at hp2
  dsimp only at hp2
  rw [hb] at hp2
  simp +contextual (maxSteps := 10000000) only [go_sem, hp2]
  rfl
end Go.Bw.R1

/- split: how much fits. -/
namespace Go.Bw.R1
set_option maxRecDepth 5000
open Go Go.Bw Go.Proofs
theorem part_factsS (b : ByteArray) : ((bytesD b).all fun e => e.cells.length == 1) = true ∧ List.take b.size (bytesD b) = bytesD b ∧ (∀ k, k ≤ b.size → List.drop k (bytesD b) = bytesD (b.extract k b.size)) ∧ (∀ k, k ≤ b.size → List.take k (bytesD b) = bytesD (b.extract 0 k)) := by
  refine ⟨List.all_eq_true.2 fun x hx => ?_, List.take_of_length_le (by rw [bytesD_len]; omega), fun k hk => ?_, fun k hk => ?_⟩
  · unfold bytesD at hx
    obtain ⟨y, _, rfl⟩ := List.mem_map.1 hx
    rfl
  · have := bytesD_part b k (b.size - k)
    rw [show k + (b.size - k) = b.size by omega, List.take_of_length_le (by rw [List.length_drop, bytesD_len]; omega)] at this
    exact this
  · have := bytesD_part b 0 k
    rw [List.drop_zero, Nat.zero_add] at this
    exact this
theorem head_more (s : Spl) : headT s true = { headT s false with more := true } := by unfold headT; split <;> rfl
/-- how many bytes the next transfer's head has, with more to come -/
def hdN (s : Spl) : Nat := (wrV (trfV (headT s true))).size
theorem hdN_le {s : Spl} (h : s.ok) : hdN s ≤ 290 := trf_size (head_ok h true)
set_option maxHeartbeats 8000000 in
theorem fits_c (s : Spl) (h : s.ok) (n : Nat) (hn : n ≤ s.pl.size) (room : Int) : EV 22 [.ptr 0 0 0, I n, I room] [spE s] = some (.ret (B (decide (((hdN s + n : Nat) : Int) ≤ room))), [spE s]) := by
  have h1 := head_c s h
  have hp := h.pl
  obtain ⟨f1, f2, f3, f4⟩ := part_factsS s.pl
  have f4n := f4 n hn
  have hz : (s.pl.extract 0 n).size = n := by rw [ByteArray.size_extract]; omega
  have h2 := pwrite_tr (headT s true) (head_ok h true) (s.pl.extract 0 n) (by omega)
  have hsz : (wrV (trfV (headT s true)) ++ s.pl.extract 0 n).size = hdN s + n := by rw [ByteArray.size_append, hz]; rfl
  rw [← hsz]
  generalize wrV (trfV (headT s true)) ++ s.pl.extract 0 n = Z at *
  rw [head_more] at h2
  generalize headT s false = T at *
  generalize s.pl.extract 0 n = P at *
  unfold trC at h1 h2
  dsimp only at h2
  unfold spE spC at h1 ⊢
  refine (ev_body ⟨[], [], [(2, [(7, 0, false), (8, 0, true), (0, 0, false), (1, 0, false), (2, 0, false), (3, 0, false), (4, 0, false), (5, 0, false), (6, 0, false), (9, 1, false), (10, 0, true)])], false, [], noIt⟩ [.tmp 6] rfl Tryz.func22 rfl rfl rfl (by kernel_rfl) (by show 3 ≤ 34; decide) (by kernel_rfl)).trans ?_
  simp +contextual (maxSteps := 10000000) only [go_sem, h1, h2, f1, f2, f4n, hn]
/-- how many bytes fit -/
def mostN (s : Spl) (room : Nat) : Nat := min s.pl.size (room - hdN s)
theorem mid_fits {s : Spl} {room mid : Nat} (h : hdN s ≤ room) (hm : mid ≤ s.pl.size) : decide (((hdN s + mid : Nat) : Int) ≤ (room : Int)) = decide (mid ≤ mostN s room) := by
  rw [decide_eq_decide]; unfold mostN; omega
set_option maxHeartbeats 8000000 in
theorem most_c (s : Spl) (h : s.ok) (room : Nat) (hr : hdN s ≤ room) (hr2 : room ≤ 100000000) : EV 16 [.ptr 0 0 0, I room] [spE s] = some (.ret (I (mostN s room)), [spE s]) := by
  have hp := h.pl
  have hM : mostN s room ≤ s.pl.size := Nat.min_le_left _ _
  have hf := fun (n : Nat) (hn : n ≤ s.pl.size) => fits_c s h n hn room
  obtain ⟨M, hMe⟩ : ∃ M, M = mostN s room := ⟨_, rfl⟩
  have hmf := fun (mid : Nat) (hm : mid ≤ s.pl.size) => @mid_fits s room mid hr hm
  rw [← hMe] at hM hmf ⊢
  refine (ev_body ⟨[], [(1000000, [0, 1, 5, 6])], [(1, [(0, 0, false), (1, 0, false), (2, 0, false), (3, 0, false), (4, 0, false), (5, 0, false), (6, 0, false), (7, 0, false), (8, 0, false)])], false, [], noIt⟩ [.tmp 4] rfl Tryz.func16 rfl rfl rfl (by kernel_rfl) (by show 2 ≤ 30; decide) (by kernel_rfl)).trans ?_
  unfold spE spC at hf ⊢
  simp +contextual (maxSteps := 10000000) only [go_sem]
  refine (run_scope 0 rfl rfl).trans ?_
  by_cases hz : s.pl.size = 0
  · have hM0 : M = 0 := by omega
    have g1 : decide ((1 : Int) < (s.pl.size : Int) + 1 - 0) = false := decide_eq_false (by omega)
    simp +contextual (maxSteps := 10000000) only [go_sem, wrap_i64 (n := (s.pl.size : Int) + 1) (by omega) (by omega), wrap_i64 (n := (s.pl.size : Int) + 1 - 0) (by omega) (by omega), g1, hM0]
  · have g1 : decide ((1 : Int) < (s.pl.size : Int) + 1 - 0) = true := decide_eq_true (by omega)
    obtain ⟨mid, hmid⟩ : ∃ mid, mid = (s.pl.size + 1) / 2 := ⟨_, rfl⟩
    have hm1 : 0 < mid ∧ mid ≤ s.pl.size := by omega
    have hq : IntKind.i64.wrap ((IntKind.i64.wrap (0 + ((s.pl.size : Int) + 1))).tdiv 2) = (mid : Int) := by
      rw [wrap_i64 (n := 0 + ((s.pl.size : Int) + 1)) (by omega) (by omega), Int.tdiv_eq_ediv_of_nonneg (by omega), wrap_i64 (by omega) (by omega)]; omega
    have hfm := hf mid hm1.2
    rw [hmf mid hm1.2] at hfm
    by_cases hle : mid ≤ M
    · rw [decide_eq_true hle] at hfm
      simp +contextual (maxSteps := 10000000) only [go_sem, wrap_i64 (n := (s.pl.size : Int) + 1) (by omega) (by omega), wrap_i64 (n := (s.pl.size : Int) + 1 - 0) (by omega) (by omega), g1, hq, hfm]
      refine jpK_inv (fun m f es => ∃ (low high : Nat) (a b : Int), a = low ∧ b = high ∧ low ≤ M ∧ M < high ∧ high ≤ s.pl.size + 1 ∧ high - low = m ∧ f = [(0, .ptr 0 0 0), (1, I room), (5, I a), (6, I b)] ∧ es = [some ⟨0, [I s.handle, .sc (.int .u32 s.id), Sx s.tag, B s.settled, B s.resume, U8 s.state.kind, U64 s.state.a, U64 s.state.b, Sx s.state.cond, .ro false (bytesD s.pl), B s.begun, B s.over]⟩]) _ ⟨mid, s.pl.size + 1, mid, (s.pl.size : Int) + 1, rfl, by omega, by omega, by omega, by omega, rfl, rfl, rfl⟩ ?_
      rintro m _ _ ⟨low, high, _, _, rfl, rfl, q1, q2, q3, q4, rfl, rfl⟩ ih
      by_cases hgt : 1 < high - low
      · have g2 : decide ((1 : Int) < (high : Int) - low) = true := decide_eq_true (by omega)
        obtain ⟨md, hmd⟩ : ∃ md, md = (low + high) / 2 := ⟨_, rfl⟩
        have hq2 : IntKind.i64.wrap ((IntKind.i64.wrap ((low : Int) + high)).tdiv 2) = (md : Int) := by
          rw [wrap_i64 (n := (low : Int) + high) (by omega) (by omega), Int.tdiv_eq_ediv_of_nonneg (by omega), wrap_i64 (by omega) (by omega)]; omega
        have hfm2 := hf md (by omega)
        rw [hmf md (by omega)] at hfm2
        by_cases hle2 : md ≤ M
        · rw [decide_eq_true hle2] at hfm2
          simp +contextual (maxSteps := 10000000) only [go_sem, wrap_i64 (n := (high : Int) - low) (by omega) (by omega), g2, hq2, hfm2]
          exact ih (high - md) _ _ (by omega) ⟨md, high, md, high, rfl, rfl, by omega, by omega, by omega, rfl, rfl, rfl⟩
        · rw [decide_eq_false hle2] at hfm2
          simp +contextual (maxSteps := 10000000) only [go_sem, wrap_i64 (n := (high : Int) - low) (by omega) (by omega), g2, hq2, hfm2]
          exact ih (md - low) _ _ (by omega) ⟨low, md, low, md, rfl, rfl, by omega, by omega, by omega, rfl, rfl, rfl⟩
      · have g2 : decide ((1 : Int) < (high : Int) - low) = false := decide_eq_false (by omega)
        have e : M = low := by omega
        simp +contextual (maxSteps := 10000000) only [go_sem, wrap_i64 (n := (high : Int) - low) (by omega) (by omega), g2, e]
    · rw [decide_eq_false hle] at hfm
      simp +contextual (maxSteps := 10000000) only [go_sem, wrap_i64 (n := (s.pl.size : Int) + 1) (by omega) (by omega), wrap_i64 (n := (s.pl.size : Int) + 1 - 0) (by omega) (by omega), g1, hq, hfm]
      refine jpK_inv (fun m f es => ∃ (low high : Nat) (a b : Int), a = low ∧ b = high ∧ low ≤ M ∧ M < high ∧ high ≤ s.pl.size + 1 ∧ high - low = m ∧ f = [(0, .ptr 0 0 0), (1, I room), (5, I a), (6, I b)] ∧ es = [some ⟨0, [I s.handle, .sc (.int .u32 s.id), Sx s.tag, B s.settled, B s.resume, U8 s.state.kind, U64 s.state.a, U64 s.state.b, Sx s.state.cond, .ro false (bytesD s.pl), B s.begun, B s.over]⟩]) _ ⟨0, mid, 0, mid, rfl, rfl, by omega, by omega, by omega, rfl, rfl, rfl⟩ ?_
      rintro m _ _ ⟨low, high, _, _, rfl, rfl, q1, q2, q3, q4, rfl, rfl⟩ ih
      by_cases hgt : 1 < high - low
      · have g2 : decide ((1 : Int) < (high : Int) - low) = true := decide_eq_true (by omega)
        obtain ⟨md, hmd⟩ : ∃ md, md = (low + high) / 2 := ⟨_, rfl⟩
        have hq2 : IntKind.i64.wrap ((IntKind.i64.wrap ((low : Int) + high)).tdiv 2) = (md : Int) := by
          rw [wrap_i64 (n := (low : Int) + high) (by omega) (by omega), Int.tdiv_eq_ediv_of_nonneg (by omega), wrap_i64 (by omega) (by omega)]; omega
        have hfm2 := hf md (by omega)
        rw [hmf md (by omega)] at hfm2
        by_cases hle2 : md ≤ M
        · rw [decide_eq_true hle2] at hfm2
          simp +contextual (maxSteps := 10000000) only [go_sem, wrap_i64 (n := (high : Int) - low) (by omega) (by omega), g2, hq2, hfm2]
          exact ih (high - md) _ _ (by omega) ⟨md, high, md, high, rfl, rfl, by omega, by omega, by omega, rfl, rfl, rfl⟩
        · rw [decide_eq_false hle2] at hfm2
          simp +contextual (maxSteps := 10000000) only [go_sem, wrap_i64 (n := (high : Int) - low) (by omega) (by omega), g2, hq2, hfm2]
          exact ih (md - low) _ _ (by omega) ⟨low, md, low, md, rfl, rfl, by omega, by omega, by omega, rfl, rfl, rfl⟩
      · have g2 : decide ((1 : Int) < (high : Int) - low) = false := decide_eq_false (by omega)
        have e : M = low := by omega
        simp +contextual (maxSteps := 10000000) only [go_sem, wrap_i64 (n := (high : Int) - low) (by omega) (by omega), g2, e]
end Go.Bw.R1

/- law17.works, run by the kernel. -/
namespace Go.Bw.R1
set_option maxRecDepth 5000
open Go Go.Bw Go.Proofs
def s17a : Spl := ⟨0, 7, ⟨#[97]⟩, false, false, ⟨0, 0, 0, ⟨#[]⟩⟩, ⟨#[104, 101, 108, 108, 111]⟩, false, false⟩
def zs17 (n : Nat) : ByteArray := ⟨Array.replicate n 0⟩
def s17b : Spl := ⟨1, 8, ⟨#[98]⟩, false, false, ⟨0, 0, 0, ⟨#[]⟩⟩, zs17 600, false, false⟩
def hb17 : Nat := 16
def s17c : Spl := ⟨1, 8, ⟨#[98]⟩, false, false, ⟨0, 0, 0, ⟨#[]⟩⟩, zs17 (600 - (504 - hb17)), true, false⟩
theorem hd_a : Nat.ble (hdN s17a) 400 = true := by kernel_rfl
theorem hd_b : Nat.beq (hdN s17b) hb17 = true := by kernel_rfl
theorem hd_c : Nat.ble (hdN s17c) 100 = true := by kernel_rfl
theorem ok_a : s17a.ok := ⟨by decide, by decide, by decide, by decide, by decide, by decide, by decide, ⟩
theorem ok_b : s17b.ok := ⟨by decide, by decide, by decide, by decide, by decide, by decide, by show (Array.replicate _ _).size ≤ _; rw [Array.size_replicate]; decide⟩
theorem ok_c : s17c.ok := ⟨by decide, by decide, by decide, by decide, by decide, by decide, by show (Array.replicate _ _).size ≤ _; rw [Array.size_replicate]; decide⟩
def K17 : Orc := fun f ds es =>
  if f = 16 then
    if dEqL ds [.ptr 0 0 0, I 504] = true then
      if sEq es [spE s17a] = true then some (.ret (I 5), [spE s17a])
      else if sEq es [spE s17b] = true then some (.ret (I ((504 - hb17 : Nat) : Int)), [spE s17b])
      else if sEq es [spE s17c] = true then some (.ret (I ((600 - (504 - hb17) : Nat) : Int)), [spE s17c])
      else none
    else none
  else X1 f ds es
theorem sz17 (n : Nat) : (zs17 n).size = n := Array.size_replicate ..
theorem mo_a : mostN s17a 504 = 5 := by
  have := Nat.le_of_ble_eq_true hd_a
  unfold mostN
  show min 5 _ = 5
  omega
theorem mo_b : mostN s17b 504 = 504 - hb17 := by
  have := Nat.eq_of_beq_eq_true hd_b
  unfold mostN
  rw [this]
  show min (zs17 600).size _ = _
  rw [sz17]; decide
theorem mo_c : mostN s17c 504 = 600 - (504 - hb17) := by
  have := Nat.le_of_ble_eq_true hd_c
  unfold mostN
  show min (zs17 (600 - (504 - hb17))).size _ = _
  rw [sz17]
  have h2 : hb17 = 16 := rfl
  omega
theorem K17_le : Le K17 EV := by
  intro f ds es r h
  unfold K17 at h
  split at h
  · rename_i hf; subst hf
    split at h
    · rename_i hd; have hd := dEqL_eq _ _ hd; subst hd
      split at h
      · rename_i he; have he := sEq_eq he; subst he; injection h with h; subst h
        have := most_c s17a ok_a 504 (Nat.le_trans (Nat.le_of_ble_eq_true hd_a) (by decide)) (by decide)
        rw [mo_a] at this; exact this
      · split at h
        · rename_i he; have he := sEq_eq he; subst he; injection h with h; subst h
          have := most_c s17b ok_b 504 (Nat.le_trans (hdN_le ok_b) (by decide)) (by decide)
          rw [mo_b] at this; exact this
        · split at h
          · rename_i he; have he := sEq_eq he; subst he; injection h with h; subst h
            have := most_c s17c ok_c 504 (Nat.le_trans (hdN_le ok_c) (by decide)) (by decide)
            rw [mo_c] at this; exact this
          · cases h
    · cases h
  · exact ev_x h
theorem K17_no : ∀ f ds es, K17 f ds es = none → X1 f ds es = none := by
  intro f ds es h
  unfold K17 at h
  split at h
  · rename_i hf; subst hf; rfl
  · exact h
theorem ev_run17 (k : Nat) {f : FuncId} {ds : List D} {es : Sto} {r : R × Sto} (h : evKN Tryz.prog gl0 700 An1 [] (fun _ => K17) k f ds es = some r) : EV f ds es = some r := evKN_le2 K17_le K17_no k f ds es r h
def ret17 : Option (R × Sto) → Option D
  | some (.ret d, []) => some d
  | _ => none
theorem works17_run : ret17 (evKN Tryz.prog gl0 700 An1 [] (fun _ => K17) 14 7 [] []) = some (B true) := by kernel_rfl
theorem ret17_inv {x : Option (R × Sto)} {d : D} (h : ret17 x = some d) : x = some (.ret d, []) := by
  unfold ret17 at h
  split at h
  · injection h with h; subst h; rfl
  · cases h
theorem works17_c : EV 7 [] [] = some (.ret (B true), []) := ev_run17 14 (ret17_inv works17_run)
end Go.Bw.R1

namespace Go.Bw.R1
set_option maxRecDepth 5000
open Go Go.Bw Go.Proofs
set_option maxHeartbeats 1000000 in
theorem clone_w : CallT Tryz.prog gl0 14 [.ro false []] St.empty (fun r _ => r = .ret .nils ∨ r = .ret (.ro true [])) := by
  refine callT_of Tryz.func14 rfl (by kernel_rfl) (by show 1 ≤ 8; decide) ?_
  refine step_region (by kernel_rfl) fun K hK => ?_
  simp only [go_sem, Nat.reduceEqDiff, Nat.reduceAdd, Nat.reduceLeDiff, Int.reduceLE, Int.reduceLT, Int.reduceToNat, reduceCtorEq]
  refine hK _ _ ?_
  clear hK K
  refine tri_seq ?_
  refine tri_seq (tri_isnil (s := 0) (d1 := 3) (d2 := 4) (el := 5) (ex := false) (by kernel_rfl) rfl rfl rfl rfl rfl rfl Tryz.underlying23 (by kernel_rfl) rfl ?_)
  intro b
  refine nx_seq ?_
  refine tri_cond (b := b) rfl (fun hb => ?_) (fun hb => ?_)
  · refine step_region (by kernel_rfl) fun K hK => ?_
    simp only [go_sem, Nat.reduceEqDiff, Nat.reduceAdd, Nat.reduceLeDiff, Int.reduceLE, Int.reduceLT, Int.reduceToNat, reduceCtorEq]
    refine hK _ _ ?_
    clear hK K
    refine tri_ret ?_
    refine ⟨_, (show resultsD _ _ _ [.tmp 2] = some _ by (try simp only [go_sem, Nat.reduceEqDiff, Nat.reduceAdd, Nat.reduceLeDiff, Int.reduceLE, Int.reduceLT, Int.reduceToNat, reduceCtorEq]); exact rfl), .inl ?_⟩
    rfl
  · refine tri_skip ?_
    refine nx_seq ?_
    refine step_region (by kernel_rfl) fun K hK => ?_
    simp only [go_sem, Nat.reduceEqDiff, Nat.reduceAdd, Nat.reduceLeDiff, Int.reduceLE, Int.reduceLT, Int.reduceToNat, reduceCtorEq]
    refine hK _ _ ?_
    clear hK K
    refine tri_ret ?_
    refine ⟨_, (show resultsD _ _ _ [.tmp 2] = some _ by (try simp only [go_sem, Nat.reduceEqDiff, Nat.reduceAdd, Nat.reduceLeDiff, Int.reduceLE, Int.reduceLT, Int.reduceToNat, reduceCtorEq]); exact rfl), .inr ?_⟩
    rfl
theorem clone_p : PureC Tryz.prog gl0 14 [.ro false []] (.ro false []) := by
  have hf : (D.ro false []).free := .ro (fun d hd => by simp at hd)
  refine ⟨hf, (fun x hx => by rcases List.mem_singleton.1 hx with rfl; exact hf), clone_w.1, fun g w vs h1 h2 h3 => ?_⟩
  refine (clone_w.2 g w vs h1 h2 h3).mono fun e w' ⟨g', S', k1, k2, k3⟩ => ⟨g', S', k1, k2, ?_⟩
  cases e with
  | returned v =>
    obtain ⟨d, a, b⟩ := k3
    refine ⟨.ro false [], ?_, rfl⟩
    rcases b with b | b
    · injection b with b; subst b; cases a; exact .roNil
    · injection b with b; subst b; cases a with
      | roNil => exact .roNil
      | roNone hc _ => exact .roNone hc (fun h => by cases h)
      | ro _ _ _ _ hx _ _ => exact .roNone hx (fun h => by cases h)
  | panicked c => obtain ⟨v, d, _, _, hc⟩ := k3; rcases hc with hc | hc <;> cases hc
  | outgrown => exact k3
theorem cloneO_inv {ds : List D} {es : Sto} {r : R} {ts : Sto} (h : cloneO ds es = some (r, ts)) : ds = [.ro false []] ∧ es = [] ∧ r = .ret (.ro false []) ∧ ts = [] := by
  unfold cloneO at h
  split at h
  · injection h with h; injection h with h1 h2; exact ⟨rfl, rfl, h1.symm, h2.symm⟩
  · cases h
theorem soundX : SoundO Tryz.prog gl0 X1 := by
  intro f ds es r ts h
  unfold X1 at h
  split at h
  · rename_i hf
    subst hf
    obtain ⟨rfl, rfl, rfl, rfl⟩ := cloneO_inv h
    exact clone_p.use _
  · cases h
theorem clone_x : EV 14 [.ro false []] [] = some (.ret (.ro false []), []) := ev_x rfl
end Go.Bw.R1

/- split.Next, split.New, of what was read. -/
namespace Go.Bw.R1
set_option maxRecDepth 5000
open Go Go.Bw Go.Proofs
theorem clone_ro (b : ByteArray) (h0 : b.size ≠ 0) (h : b.size ≤ 1000000000) : EV 14 [.ro false (bytesD b)] [] = some (.ret (.ref 0 0 1 0 b.size), [some ⟨0, bytesD b⟩]) := by
  have hl : (bytesD b).length = b.size := bytesD_len b
  have hone : (bytesD b).all (fun e => e.cells.length == 1) = true := (part_factsS b).1
  cases hb : bytesD b with
  | nil => rw [hb] at hl; exact absurd hl.symm h0
  | cons d l =>
    have hx : ∀ x ∈ d :: l, x.cells = [x] := fun x hx => by
      rw [← hb] at hx; unfold bytesD at hx; obtain ⟨y, _, rfl⟩ := List.mem_map.1 hx; rfl
    have hc1 : d.cells = [d] := hx d (by simp)
    have hc2 : l.flatMap D.cells = l := by
      have : ∀ m : List D, (∀ x ∈ m, x.cells = [x]) → m.flatMap D.cells = m := fun m => by
        induction m with
        | nil => intro _; rfl
        | cons a m ih => intro hm; rw [List.flatMap_cons, hm a (by simp), ih (fun x hx => hm x (by simp [hx]))]; rfl
      exact this l (fun x hm => hx x (by simp [hm]))
    rw [hb] at hl hone
    rw [← hl] at h ⊢
    have hr : d.refs ++ D.refsL l = [] := by
      have := refsL_bytesD b
      rw [hb] at this
      simpa only [D.refsL] using this
    have hle : (l.length ≤ 140737488355327) = True := by simp only [List.length_cons] at h; simp; omega
    have hle2 : (1 + l.length = l.length + 1) = True := by simp; omega
    refine (ev_body ⟨[], [], [], false, [], noIt⟩ [.tmp 2] rfl Tryz.func14 rfl rfl rfl (by kernel_rfl) (by show 1 ≤ 8; decide) (by kernel_rfl)).trans ?_
    simp +contextual (maxSteps := 10000000) only [go_sem, List.length_cons, hone, hc1, hc2, hle, hle2, hr, List.length_nil, List.cons_append, List.nil_append, Nat.zero_add]
structure SOut where
  tag : ByteArray
  settled : Bool
  resume : Bool
  state : Outc
  pl : ByteArray
def SOut.cs (o : SOut) : List D := [Sx o.tag, B o.settled, B o.resume, U8 o.state.kind, U64 o.state.a, U64 o.state.b, Sx o.state.cond, .ro false (bytesD o.pl)]
theorem vast_s (o : SOut) : EV 8 [.agg o.cs, .nils] [] = some (.ret (B (decide (16384 < o.pl.size) || decide (1024 < o.tag.size) || decide (1024 < o.state.cond.size))), []) := by
  unfold SOut.cs
  have e1 : decide ((16384 : Int) < (o.pl.size : Int)) = decide (16384 < o.pl.size) := decide_eq_decide.2 (by omega)
  have e2 : decide ((1024 : Int) < (o.tag.size : Int)) = decide (1024 < o.tag.size) := decide_eq_decide.2 (by omega)
  have e3 : decide ((1024 : Int) < (o.state.cond.size : Int)) = decide (1024 < o.state.cond.size) := decide_eq_decide.2 (by omega)
  refine (ev_body ⟨[2], [], [], false, [], noIt⟩ [.tmp 4] rfl Tryz.func8 rfl rfl rfl (by kernel_rfl) (by show 2 ≤ 27; decide) (by kernel_rfl)).trans ?_
  cases hy1 : decide (16384 < o.pl.size) <;> cases hy2 : decide (1024 < o.tag.size) <;> cases hy3 : decide (1024 < o.state.cond.size) <;> rw [hy1] at e1 <;> rw [hy2] at e2 <;> rw [hy3] at e3 <;> simp +contextual (maxSteps := 10000000) only [go_sem, e1, e2, e3] <;> rfl
theorem twin_s (o : SOut) (h : o.pl.size ≤ 1000000000) : EV 9 [.agg o.cs] [] = some (.ret (.agg o.cs), []) := by
  obtain ⟨f1, f2, f3, f4⟩ := part_factsS o.pl
  unfold SOut.cs
  refine (ev_body ⟨[], [], [], true, [], noIt⟩ [.cell 2 28] rfl Tryz.func9 rfl rfl rfl (by kernel_rfl) (by show 1 ≤ 9; decide) (by kernel_rfl)).trans ?_
  by_cases h0 : o.pl.size = 0
  · have hb : bytesD o.pl = [] := List.length_eq_zero_iff.1 (by rw [bytesD_len]; exact h0)
    rw [hb]
    simp +contextual (maxSteps := 10000000) only [go_sem]
  · simp +contextual (maxSteps := 10000000) only [go_sem, sz_le h, f1, f2, h0]
end Go.Bw.R1

/- split.Next -/
namespace Go.Bw.R1
set_option maxRecDepth 5000
open Go Go.Bw Go.Proofs
theorem head_m (s : Spl) (m : Bool) : headT s m = { headT s false with more := m } := by unfold headT; split <;> rfl
set_option maxHeartbeats 4000000 in
theorem next_c (s : Spl) (h : s.ok) (ho : s.over = false) (room : Nat) (hr : 504 ≤ room) (hr2 : room ≤ 100000000) :
    EV 10 [.ptr 0 0 0, I room] [spE s] = some (.ret (.tup [.agg (trC (headT s (decide (mostN s room < s.pl.size))) (s.pl.extract 0 (mostN s room))), B true]), [spE { s with pl := s.pl.extract (mostN s room) s.pl.size, begun := true, over := !decide (mostN s room < s.pl.size) }]) := by
  have hd := hdN_le h
  have hp := h.pl
  have h1 := head_c s h
  have h2 := most_c s h room (by omega) hr2
  have hn : mostN s room ≤ s.pl.size := Nat.min_le_left _ _
  have hn0 : mostN s room = 0 → s.pl.size = 0 := by unfold mostN; omega
  obtain ⟨f1, f2, f3, f4⟩ := part_factsS s.pl
  rw [head_m s (decide _)]
  generalize mostN s room = n at *
  generalize headT s false = T at *
  have f3n := f3 n hn
  have f4n := f4 n hn
  have z1 : (s.pl.extract 0 n).size = n := by rw [ByteArray.size_extract]; omega
  have z2 : (s.pl.extract n s.pl.size).size = s.pl.size - n := by rw [ByteArray.size_extract]; omega
  have g1 : decide ((room : Int) < 504) = false := decide_eq_false (by omega)
  have e2 : decide ((0 : Int) < ((s.pl.size - n : Nat) : Int)) = decide (n < s.pl.size) := decide_eq_decide.2 (by omega)
  unfold trC at h1 ⊢
  unfold spE spC at h1 h2 ⊢
  rw [ho] at h1 h2 ⊢
  dsimp only
  by_cases h0 : n = 0
  · subst h0
    have hs := hn0 rfl
    have hb : bytesD s.pl = [] := List.length_eq_zero_iff.1 (by rw [bytesD_len]; exact hs)
    have hb1 : bytesD (s.pl.extract 0 0) = [] := List.length_eq_zero_iff.1 (by rw [bytesD_len]; exact z1)
    have hb2 : bytesD (s.pl.extract 0 s.pl.size) = [] := List.length_eq_zero_iff.1 (by rw [bytesD_len, z2, hs])
    have hs2 : decide (0 < s.pl.size) = false := decide_eq_false (by omega)
    rw [hb] at h1 h2 ⊢
    rw [hb1, hb2, hs2]
    refine (ev_body ⟨[], [], [(7, [(0, 0, false), (5, 0, false), (6, 0, false), (7, 0, true), (1, 0, false), (2, 0, false), (3, 0, false), (4, 0, false), (8, 1, false), (9, 1, false), (10, 0, true)])], true, [(4, [33])], noIt⟩ [.cell 4 40, .tmp 5] rfl Tryz.func10 rfl rfl rfl (by kernel_rfl) (by show 2 ≤ 64; decide) (by kernel_rfl)).trans ?_
    simp +contextual (maxSteps := 10000000) only [go_sem, h1, h2, g1, clone_x]
  · have hc := clone_ro (s.pl.extract 0 n) (by omega) (by omega)
    generalize s.pl.extract 0 n = Y at *
    generalize s.pl.extract n s.pl.size = Z at *
    refine (ev_body ⟨[], [], [(7, [(0, 0, false), (5, 0, false), (6, 0, false), (7, 0, true), (1, 0, false), (2, 0, false), (3, 0, false), (4, 0, false), (8, 1, false), (9, 1, false), (10, 0, true)])], true, [(4, [33])], noIt⟩ [.cell 4 40, .tmp 5] rfl Tryz.func10 rfl rfl rfl (by kernel_rfl) (by show 2 ≤ 64; decide) (by kernel_rfl)).trans ?_
    simp +contextual (maxSteps := 10000000) only [go_sem, h1, h2, g1, hc, f1, f2, f3n, f4n, hn, z2, e2]
    rfl
end Go.Bw.R1

/- split.New -/
namespace Go.Bw.R1
set_option maxRecDepth 5000
open Go Go.Bw Go.Proofs
def newOk (o : SOut) : Bool := !decide (o.tag.size = 0) && !decide (32 < o.tag.size) && mayO o.state && !decide (64 < o.state.cond.size) && !decide (4096 < o.pl.size)
def newR (h id : Int) (o : SOut) : R × Sto := if newOk o = true then (.ret (.tup [.ptr 0 0 0, I 0]), [spE ⟨h, id, o.tag, o.settled, o.resume, o.state, o.pl, false, false⟩]) else (.ret (.tup [.nilp, I 1]), [])
set_option maxHeartbeats 4000000 in
theorem new_c (h id : Int) (hh : 0 ≤ h ∧ h ≤ 7) (o : SOut) (k1 : o.tag.size ≤ 2000) (k2 : o.state.cond.size ≤ 2000) (k3 : o.pl.size ≤ 20000) : EV 6 [I h, .sc (.int .u32 id), .agg o.cs] [] = some (newR h id o) := by
  have hput := oput_c o.state (by omega)
  have g1 : decide (h < 0) = false := decide_eq_false (by omega)
  have g2 : decide ((7 : Int) < h) = false := decide_eq_false (by omega)
  have e0 : decide (o.tag = ⟨#[]⟩) = decide (o.tag.size = 0) := size0 o.tag
  have e1 : decide ((32 : Int) < (o.tag.size : Int)) = decide (32 < o.tag.size) := decide_eq_decide.2 (by omega)
  have e2 : decide ((64 : Int) < (o.state.cond.size : Int)) = decide (64 < o.state.cond.size) := decide_eq_decide.2 (by omega)
  have e3 : decide ((4096 : Int) < (o.pl.size : Int)) = decide (4096 < o.pl.size) := decide_eq_decide.2 (by omega)
  obtain ⟨p1, p2, p3, _⟩ := part_factsS o.pl
  unfold newR newOk SOut.cs
  unfold putO Outc.d Outc.cs at hput
  refine (ev_body ⟨[], [], [], false, [(10, [44])], noIt⟩ [.tmp 6, .tmp 7] rfl Tryz.func6 rfl rfl rfl (by kernel_rfl) (by show 3 ≤ 51; decide) (by kernel_rfl)).trans ?_
  cases t0 : decide (o.tag.size = 0) with
  | true =>
    rw [t0] at e0
    cases m : mayO o.state <;> rw [m] at hput <;> simp only [Bool.false_eq_true, if_false, if_true] at hput <;> simp +contextual (maxSteps := 10000000) only [go_sem, hput, g1, g2, e0] <;> rfl
  | false =>
    rw [t0] at e0
    cases t1 : decide (32 < o.tag.size) with
    | true =>
      rw [t1] at e1
      cases m : mayO o.state <;> rw [m] at hput <;> simp only [Bool.false_eq_true, if_false, if_true] at hput <;> simp +contextual (maxSteps := 10000000) only [go_sem, hput, g1, g2, e0, e1] <;> rfl
    | false =>
      rw [t1] at e1
      cases m : mayO o.state with
      | false =>
        rw [m] at hput
        simp only [Bool.false_eq_true, if_false] at hput
        simp +contextual (maxSteps := 10000000) only [go_sem, hput, g1, g2, e0, e1]
        rfl
      | true =>
        rw [m] at hput
        simp only [if_true] at hput
        cases t2 : decide (64 < o.state.cond.size) with
        | true =>
          rw [t2] at e2
          simp +contextual (maxSteps := 10000000) only [go_sem, hput, g1, g2, e0, e1, e2]
          rfl
        | false =>
          rw [t2] at e2
          cases t3 : decide (4096 < o.pl.size) with
          | true =>
            rw [t3] at e3
            simp +contextual (maxSteps := 10000000) only [go_sem, hput, g1, g2, e0, e1, e2, e3]
          | false =>
            rw [t3] at e3
            by_cases h0 : o.pl.size = 0
            · have hb : bytesD o.pl = [] := List.length_eq_zero_iff.1 (by rw [bytesD_len]; exact h0)
              rw [hb]
              unfold spE spC
              dsimp only
              rw [hb]
              simp +contextual (maxSteps := 10000000) only [go_sem, hput, g1, g2, e0, e1, e2, e3, clone_x]
            · have hc := clone_ro o.pl h0 (by omega)
              simp +contextual (maxSteps := 10000000) only [go_sem, hput, g1, g2, e0, e1, e2, e3, hc]
              rfl
end Go.Bw.R1

/- SplitAborts -/
namespace Go.Bw.R1
set_option maxRecDepth 5000
open Go Go.Bw Go.Proofs
theorem vast_ok (o : SOut) (h : (decide (16384 < o.pl.size) || decide (1024 < o.tag.size) || decide (1024 < o.state.cond.size)) = false) : o.pl.size ≤ 16384 ∧ o.tag.size ≤ 1024 ∧ o.state.cond.size ≤ 1024 := by
  simp only [Bool.or_eq_false_iff, decide_eq_false_iff_not] at h
  omega
theorem newOk_ok {o : SOut} (h : newOk o = true) (hs : (0 ≤ o.state.a ∧ o.state.a < 18446744073709551616) ∧ (0 ≤ o.state.b ∧ o.state.b < 18446744073709551616)) {x id : Int} (hx : 0 ≤ x ∧ x ≤ 7) (hi : 0 ≤ id ∧ id ≤ 4294967295) : Spl.ok ⟨x, id, o.tag, o.settled, o.resume, o.state, o.pl, false, false⟩ := by
  simp only [newOk, Bool.and_eq_true, Bool.not_eq_true', decide_eq_false_iff_not] at h
  exact ⟨hx, hi, by dsimp only; omega, h.1.1.2, hs, by dsimp only; omega, by dsimp only; omega⟩
theorem next_ok {s : Spl} (h : s.ok) (n : Nat) (b v : Bool) : Spl.ok { s with pl := s.pl.extract n s.pl.size, begun := b, over := v } :=
  ⟨h.handle, h.id, h.tag, h.state, h.num, h.cond, by have := h.pl; dsimp only; rw [ByteArray.size_extract]; omega⟩
set_option maxHeartbeats 4000000 in
theorem SplitAborts_c (o : SOut) (hs : (0 ≤ o.state.a ∧ o.state.a < 18446744073709551616) ∧ (0 ≤ o.state.b ∧ o.state.b < 18446744073709551616)) (b : Int) (hb : 0 ≤ b ∧ b < 256) : EV 4 [.agg o.cs, .sc (.int .u8 b)] [] = some (.ret (B true), []) := by
  have hv := vast_s o
  cases hva : (decide (16384 < o.pl.size) || decide (1024 < o.tag.size) || decide (1024 < o.state.cond.size)) with
  | true =>
    rw [hva] at hv
    unfold SOut.cs at hv ⊢
    refine (ev_body ⟨[2], [(0, [1, 5, 7, 8, 9])], [], false, [], noIt⟩ [.tmp 4] rfl Tryz.func4 rfl rfl rfl (by kernel_rfl) (by show 2 ≤ 123; decide) (by kernel_rfl)).trans ?_
    simp +contextual (maxSteps := 10000000) only [go_sem, hv, works17_c]
  | false =>
    rw [hva] at hv
    obtain ⟨k1, k2, k3⟩ := vast_ok o hva
    have ht := twin_s o (by omega)
    have hn := new_c 3 9 (by omega) o (by omega) (by omega) (by omega)
    unfold newR at hn
    cases hok : newOk o with
    | false =>
      rw [hok] at hn
      simp only [Bool.false_eq_true, if_false] at hn
      unfold SOut.cs at hv ht hn ⊢
      refine (ev_body ⟨[2], [(0, [1, 5, 7, 8, 9])], [], false, [], noIt⟩ [.tmp 4] rfl Tryz.func4 rfl rfl rfl (by kernel_rfl) (by show 2 ≤ 123; decide) (by kernel_rfl)).trans ?_
      simp +contextual (maxSteps := 10000000) only [go_sem, hv, ht, hn, works17_c]
    | true =>
      rw [hok] at hn
      simp only [if_true] at hn
      have ho := newOk_ok hok hs (x := 3) (id := 9) (by omega) (by omega)
      obtain ⟨s0, hs0⟩ : ∃ s0 : Spl, s0 = ⟨3, 9, o.tag, o.settled, o.resume, o.state, o.pl, false, false⟩ := ⟨_, rfl⟩
      rw [← hs0] at hn ho
      have hi1 : s0.handle = 3 := by rw [hs0]
      have hi2 : s0.begun = false := by rw [hs0]
      have hi3 : s0.over = false := by rw [hs0]
      clear hs0
      unfold SOut.cs at hv ht hn ⊢
      refine (ev_body ⟨[2], [(0, [1, 5, 7, 8, 9])], [], false, [], noIt⟩ [.tmp 4] rfl Tryz.func4 rfl rfl rfl (by kernel_rfl) (by show 2 ≤ 123; decide) (by kernel_rfl)).trans ?_
      unfold spE spC at hn
      simp +contextual (maxSteps := 10000000) only [go_sem, hv, ht, hn, works17_c]
      obtain ⟨nb, hnb⟩ : ∃ nb, nb = b.toNat % 12 := ⟨_, rfl⟩
      have hwb : IntKind.i64.wrap b = b := wrap_i64 (by omega) (by omega)
      have hrem : b.tmod 12 = (nb : Int) := by rw [Int.tmod_eq_emod_of_nonneg hb.1]; omega
      have hrem2 : IntKind.i64.wrap (nb : Int) = (nb : Int) := wrap_i64 (by omega) (by omega)
      refine lpK_inv (fun m f es => ∃ (i : Nat) (x : Int) (s : Spl), x = i ∧ s.ok ∧ s.handle = 3 ∧ (s.over = true → s.begun = true) ∧ m = 12 - i ∧ f = [(1, .sc (.int .u8 b)), (5, .ptr 0 0 0), (7, B s.begun), (8, B s.over), (9, I x)] ∧ es = [spE s]) _ ⟨0, 0, s0, rfl, ho, hi1, by rw [hi3]; simp, rfl, by rw [hi2, hi3], rfl⟩ ?_
      rintro m _ _ ⟨i, _, s, rfl, q1, q2, q3, q4, rfl, rfl⟩ ih
      by_cases hlt : i < nb
      · have gl : decide ((i : Int) < (nb : Int)) = true := decide_eq_true (by omega)
        have hi : IntKind.i64.wrap ((i : Int) + 1) = ((i + 1 : Nat) : Int) := by rw [wrap_i64 (by omega) (by omega)]; omega
        cases hov : s.over with
        | true =>
          have hnx := next_over s hov 512
          have hbg := q3 hov
          unfold zPerf at hnx
          unfold spE spC at hnx ⊢
          rw [hov, hbg] at hnx ⊢
          simp +contextual (maxSteps := 10000000) only [go_sem, hnx, hwb, hrem, hrem2, gl, hi]
          refine ih (12 - (i + 1)) _ _ (by omega) ⟨i + 1, (i : Int) + 1, s, by omega, q1, q2, q3, rfl, ?_, ?_⟩
          · rw [hov, hbg]
          · unfold spE spC; rw [hov, hbg]
        | false =>
          have hnx := next_c s q1 hov 512 (by omega) (by omega)
          have hk := next_ok q1 (mostN s 512) true (!decide (mostN s 512 < s.pl.size))
          obtain ⟨s', hs'⟩ : ∃ s' : Spl, s' = { s with pl := s.pl.extract (mostN s 512) s.pl.size, begun := true, over := !decide (mostN s 512 < s.pl.size) } := ⟨_, rfl⟩
          rw [← hs'] at hnx hk
          rw [show ((512 : Nat) : Int) = 512 from rfl] at hnx
          have b1 : s'.begun = true := by rw [hs']
          have b2 : s'.over = !decide (mostN s 512 < s.pl.size) := by rw [hs']
          have b3 : s'.handle = 3 := by rw [hs']; exact q2
          clear hs'
          have hm := head_m s (decide (mostN s 512 < s.pl.size))
          generalize s.pl.extract 0 (mostN s 512) = Y at *
          generalize decide (mostN s 512 < s.pl.size) = more at *
          generalize headT s false = T at *
          rw [hm] at hnx
          unfold trC at hnx
          unfold spE spC at hnx ⊢
          dsimp only at hnx
          rw [hov] at hnx ⊢
          rw [b1, b2] at hnx
          cases hbg : s.begun <;> rw [hbg] at hnx
          · simp +contextual (maxSteps := 10000000) only [go_sem, hnx, hwb, hrem, hrem2, gl, hi]
            refine ih (12 - (i + 1)) _ _ (by omega) ⟨i + 1, (i : Int) + 1, s', by omega, hk, b3, (fun _ => b1), rfl, ?_, ?_⟩
            · rw [b1, b2]
            · unfold spE spC; rw [b1, b2]
          · simp +contextual (maxSteps := 10000000) only [go_sem, hnx, hwb, hrem, hrem2, gl, hi]
            refine ih (12 - (i + 1)) _ _ (by omega) ⟨i + 1, (i : Int) + 1, s', by omega, hk, b3, (fun _ => b1), rfl, ?_, ?_⟩
            · rw [b1, b2]
            · unfold spE spC; rw [b1, b2]
      · have gl : decide ((i : Int) < (nb : Int)) = false := decide_eq_false (by omega)
        have hr := fun (s1 : Spl) (h : s1.over = true) => And.intro (abort_over s1 h) (And.intro (next_over s1 h 512) (left_c s1))
        unfold zPerf at hr
        have hs1 : ∀ (s1 : Spl), s1.over = true → (if s1.over = true then (0 : Int) else s1.pl.size) = 0 := fun s1 h => if_pos h
        cases hov : s.over with
        | true =>
          have hbg := q3 hov
          obtain ⟨r1, r2, r3⟩ := hr s hov
          rw [hs1 s hov] at r3
          unfold spE spC at r1 r2 r3 ⊢
          rw [hov, hbg] at r1 r2 r3 ⊢
          simp +contextual (maxSteps := 10000000) only [go_sem, r1, r2, r3, hwb, hrem, hrem2, gl, works17_c]
        | false =>
          obtain ⟨r1, r2, r3⟩ := hr { s with over := true } rfl
          rw [hs1 { s with over := true } rfl] at r3
          cases hbg : s.begun with
          | false =>
            have ha := abort_new s hov hbg
            unfold zPerf at ha
            unfold spE spC at r1 r2 r3 ha ⊢
            dsimp only at r1 r2 r3 ha
            rw [hbg] at r1 r2 r3 ha ⊢
            rw [hov] at ha ⊢
            simp +contextual (maxSteps := 10000000) only [go_sem, r1, r2, r3, ha, hwb, hrem, hrem2, gl, works17_c]
          | true =>
            have ha := abort_run s hov hbg
            rw [q2] at ha
            unfold trC at ha
            unfold spE spC at r1 r2 r3 ha ⊢
            dsimp only at r1 r2 r3 ha
            rw [hbg, q2] at r1 r2 r3 ⊢
            rw [hbg, q2] at ha
            rw [hov] at ha ⊢
            simp +contextual (maxSteps := 10000000) only [go_sem, r1, r2, r3, ha, hwb, hrem, hrem2, gl, works17_c]
end Go.Bw.R1

/- Own: a law over laid tables: what the list of a row gives, and a world that holds it. -/
namespace Go.Bw.R1
set_option maxRecDepth 5000
open Go Go.Bw Go.Proofs

theorem tyok : tyOk Tryz.prog = true := by kernel_rfl
theorem laid : laidOutB Tryz.prog = true := by kernel_rfl
theorem kids : Kids Tryz.prog (· < Tryz.prog.types.size) := kids_rows laid (by kernel_rfl)
theorem mixed : Tryz.prog.follows .mixedOrders = true := by kernel_rfl
theorem own : ownKnob Tryz.prog.godebug = none := by kernel_rfl
theorem Args.end_ {dl : List D} (h : Args Tryz.prog [] dl) : dl = [] := List.length_eq_zero_iff.1 h.1
/-- a law of this seat, by its evaluation -/
theorem law_run {f : FuncId} {ds ds' : List D} {ts : Sto} (hw : WkL ds ds') (h : EV f ds' [] = some (.ret (B true), ts)) : CallT Tryz.prog gl0 f ds St.empty (fun r _ => r = .ret (.sc (.bool true))) :=
  law_ev an1_its soundX mixed hw h
theorem tab_free (l : List (Int × Int)) : (D.rp [.mp (tabK l) (tabV l)]).free :=
  .rp fun d hd => by rcases List.mem_singleton.1 hd with rfl; exact .mp tabK_free tabV_free
/-- the first of a row's list: a map of bytes -/
theorem laid_tab {W : World} {name : String} {g : Nat} {l : List (Int × Int)} {r : List (String × DataW Unit)} {ps : List MemPlace} (hg : Tryz.prog.globalNamed name = some g) (hty : (Tryz.prog.globals[g]?).map (·.type) = some 179)
    (h : DataW.LaidVars Tryz.prog W ((name, bytesTab l) :: r) ps) : V (g0 W) (.rp [.mp (tabK l) (tabV l)]) (.pointer (some ⟨g, 0, none⟩)) ∧ ∃ q, DataW.LaidVars Tryz.prog W r q := by
  obtain ⟨g', t', cs, fuel, p, q, h1, h2, h3, h4, h5, _⟩ := h
  obtain rfl := Option.some.inj (hg.symm.trans h1)
  obtain rfl := Option.some.inj (hty.symm.trans h2)
  obtain ⟨b, hb, hv⟩ := map_of_trod Tryz.underlying179 Tryz.underlying5 Tryz.underlying5 h4
  obtain ⟨fz, t, hc⟩ : ∃ fz t, W.heap[g]? = some (.cells cs t fz) := by
    unfold World.var? at h3
    rw [hg] at h3
    simp only [Option.bind_some] at h3
    split at h3
    · rename_i c t fz hh; obtain rfl := Option.some.inj h3; exact ⟨fz, t, hh⟩
    · cases h3
  have hcs : cs = #[.map (some b)] := by
    have := congrArg List.toArray hb
    simpa using this
  subst hcs
  refine ⟨.rp (c := #[.map (some b)]) hc (by simp) fun j d hd => ?_, q, h5⟩
  cases j with
  | zero => simp only [List.getElem?_cons_zero, Option.some.injEq] at hd; subst hd; exact hv
  | succ j => simp at hd
theorem nil_tab {W : World} (g : Nat) : D.undef.free ∧ V (g0 W) .undef (.pointer (some ⟨g, 0, none⟩)) := ⟨.undef, .undef⟩
theorem glob_laid {W : World} (h : laidMetH Tryz.prog [("bellwether/encode.codes", Go.Proofs.YtmhpipnapobbiaaGreatDoorRRRR.Rows.laid_bellwether_encode_codes)] W) : Glob (g0 W) gl0 := by
  obtain ⟨ps, hv, _⟩ := (show laidMet Tryz.prog [("bellwether/encode.codes", bytesTab codesTab)] W from h)
  obtain ⟨hcodes, qcodes, hv⟩ := laid_tab (g := 0) (by kernel_rfl) (by kernel_rfl) hv
  intro i
  unfold gl0
  by_cases hcodesi : i = 0
  · subst hcodesi; exact ⟨tab_free codesTab, hcodes⟩
  rw [if_neg hcodesi]
  exact nil_tab i
/-- a world for the witness: the tables hold what they are laid with -/
noncomputable def laidWorld (os : Os) : World :=
  let w := World.holding Tryz.prog os ⟨#[], #[], []⟩
  { w with heap := (((w.heap.push (.map ((codesTab.map fun p => (⟨.int .u8 p.1, .int .u8 p.2, 0⟩ : MapEntry)).toArray.mapIdx fun i x => { x with born := i }) codesTab.length))).modify 0 fun | .cells _ t z => .cells #[.map (some (w.heap.size + 0))] t z | o => o) }
end Go.Bw.R1

/- Own: arguments. -/
namespace Go.Bw.R1
set_option maxRecDepth 5000
open Go Go.Bw Go.Proofs
theorem u8_arg {d : D} (h : Arg Tryz.prog 5 d) : ∃ n : Int, (0 ≤ n ∧ n < 256) ∧ Wk d (.sc (.int .u8 n)) := by
  obtain ⟨n, h, hw⟩ := Arg.one (by kernel_rfl) (fun n : Int => IntKind.u8.min ≤ n ∧ n ≤ IntKind.u8.max) (fun n => .sc (.int .u8 n)) (fun ds hd => by
    obtain ⟨n, rfl, h1, h2⟩ := Rd.int_inv Tryz.underlying5 hd
    exact ⟨n, ⟨h1, h2⟩, .refl _⟩) h
  simp [IntKind.min, IntKind.max, IntKind.signed, IntKind.bits] at h
  exact ⟨n, by omega, hw⟩
end Go.Bw.R1

/- A delivery, read. -/
namespace Go.Bw.R1
set_option maxRecDepth 5000
open Go Go.Bw Go.Proofs
structure SOutG where
  tag : ByteArray
  settled : Bool
  resume : Bool
  state : Outc
  payload : ByteArray

def SOutG.cs (x : SOutG) : List D := [.sc (.string x.tag), .sc (.bool x.settled), .sc (.bool x.resume), .sc (.int .u8 x.state.kind), .sc (.int .u64 x.state.a), .sc (.int .u64 x.state.b), .sc (.string x.state.cond), .ro false (bytesD x.payload)]
def SOutG.d (x : SOutG) : D := .agg x.cs
structure SOutG.ok (x : SOutG) : Prop where
  tag : x.tag.size ≤ 9223372036854775807
  state : x.state.ok

theorem SOutG.fr {x : SOutG} : ∀ d ∈ x.cs, d.free := by
  intro d hd
  simp only [SOutG.cs, List.mem_cons, List.not_mem_nil, or_false] at hd
  rcases hd with rfl | rfl | rfl | rfl | rfl | rfl | rfl | rfl
  · exact .sc
  · exact .sc
  · exact .sc
  · exact .sc
  · exact .sc
  · exact .sc
  · exact .sc
  · exact bytes_free _ _
theorem SOutG.free {x : SOutG} : x.d.free := .agg (SOutG.fr)

theorem SOutG.of_rd {cs : List D} (h : Rd Tryz.prog 28 cs) : ∃ x : SOutG, x.ok ∧ WkL cs x.cs := by
  have h := Rd.fields Tryz.underlying28 h
  obtain ⟨a0, b0, rfl, h0, h⟩ := h
  obtain ⟨a1, b1, rfl, h1, h⟩ := h
  obtain ⟨a2, b2, rfl, h2, h⟩ := h
  obtain ⟨a3, b3, rfl, h3, h⟩ := h
  obtain ⟨a4, b4, rfl, h4, h⟩ := h
  have h : _ = _ := h
  subst h
  obtain ⟨x0, rfl, k0⟩ := h0.str_inv Tryz.underlying9
  obtain ⟨x1, rfl⟩ := h1.bool_inv Tryz.underlying4
  obtain ⟨x2, rfl⟩ := h2.bool_inv Tryz.underlying4
  obtain ⟨x3, k3, w3⟩ := Outc.of_rd h3
  obtain ⟨x4, w4⟩ := h4.bytes_inv Tryz.underlying23 Tryz.underlying5
  refine ⟨⟨x0, x1, x2, x3, x4⟩, ⟨k0, k3⟩, ?_⟩
  exact (WkL.append (.refl _) (WkL.append (.refl _) (WkL.append (.refl _) (WkL.append w3 (WkL.append w4 .nil)))))

theorem SOutG.of_arg {d : D} (h : Arg Tryz.prog 28 d) : ∃ x : SOutG, x.ok ∧ Wk d x.d := Arg.agg (by kernel_rfl) SOutG.ok SOutG.cs (fun _ hd => SOutG.of_rd hd) h


theorem out_arg {d : D} (h : Arg Tryz.prog 28 d) : ∃ o : SOut, ((0 ≤ o.state.a ∧ o.state.a < 18446744073709551616) ∧ (0 ≤ o.state.b ∧ o.state.b < 18446744073709551616)) ∧ Wk d (.agg o.cs) := by
  obtain ⟨x, hx, hw⟩ := SOutG.of_arg h
  refine ⟨⟨x.tag, x.settled, x.resume, x.state, x.payload⟩, ?_, hw⟩
  have := hx.state.a; have := hx.state.b
  dsimp only; omega
end Go.Bw.R1
