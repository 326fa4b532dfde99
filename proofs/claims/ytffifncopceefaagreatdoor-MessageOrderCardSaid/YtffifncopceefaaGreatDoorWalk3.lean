/- What the functions answer. -/
import Derived.Test.YtffifncopceefaaGreatDoorWalk2
set_option linter.unusedSimpArgs false
set_option linter.unusedVariables false
/- Messages: header, properties, what a section tells. -/
namespace Go.Bw.R1
set_option maxRecDepth 5000
open Go Go.Bw Go.Proofs
def mR (m : Msg) (b : D) : Option En := some ⟨0, [.sc (.int .u8 m.pri), .sc (.int .u32 m.ttl), .sc (.int .u32 m.cnt), .sc (.string m.id), b]⟩
/-- the rows of a message whose body's row is the next one -/
def mS (m : Msg) (w : Nat) : Sto := if m.body.size = 0 then [mR m .nils] else [mR m (.ref 1 w 1 0 m.body.size), some ⟨w, bytesD m.body⟩]
theorem mS_nil {m : Msg} {w : Nat} (h : m.body.size = 0) : mS m w = [mR m .nils] := if_pos h
theorem mS_row {m : Msg} {w : Nat} (h : ¬ m.body.size = 0) : mS m w = [mR m (.ref 1 w 1 0 m.body.size), some ⟨w, bytesD m.body⟩] := if_neg h
def hdrX (m : Msg) (v : Val) : Msg := match newS v 112 nmB0 with
  | none => m
  | some l => { m with pri := (numS' l 1 3 false 4).1, ttl := (numS' l 2 5 false 0).1, cnt := (numS' l 4 5 false 0).1 }
theorem num_rng2 {l : List Val} (hm : mayL l = true) (hw : Val.wfL l) {i n : Int} {B : Int} {k : Int} (hB : ∀ n, numS k n = true → n < B) (h0 : 0 ≤ n ∧ n < B) : 0 ≤ (numS' l i k false n).1 ∧ (numS' l i k false n).1 < B := by
  cases h : (numS' l i k false n).2 with
  | false => exact num_rng hm hw hB h0 h
  | true =>
    unfold numS' at h ⊢
    cases ha : atS l i with
    | none => exact h0
    | some x =>
      rw [ha] at h
      dsimp only at h ⊢
      by_cases hk : x.kind = k
      · rw [if_pos hk] at h; cases h
      · rw [if_neg hk]; exact h0
theorem sz_kids (v : Val) : Val.szL v.kids ≤ v.sz := by
  cases v with
  | mk k n t l => simp only [Val.kids, Val.sz]; omega
theorem new_more {v : Val} {code : Int} {name : ByteArray} {l : List Val} (h : newS v code name = some l) (hw : v.wf) : mayL l = true ∧ Val.wfL l ∧ Val.szL l ≤ v.sz := by
  obtain ⟨_, _, d, x, hk, _, _, hl, hm⟩ := newS_some h
  have h1 := hw.kids
  rw [hk] at h1
  refine ⟨hm, ?_, ?_⟩
  · rw [hl]; exact h1.2.1.kids
  · have h2 : x.sz ≤ v.sz := by
      have := sz_kids v
      rw [hk] at this
      simp only [Val.szL] at this
      omega
    have h3 := sz_kids x
    rw [hl]; omega
theorem wrap_u8_id {n : Int} (h : 0 ≤ n ∧ n < 256) : IntKind.u8.wrap n = n := by rw [wrap_u8]; omega
theorem wrap_u32_id {n : Int} (h : 0 ≤ n ∧ n < 4294967296) : IntKind.u32.wrap n = n := by rw [wrap_u32]; omega
theorem hdr_name : (List.take 1 namesL).head? = some (.sc (.string nmB0)) := rfl
theorem prp_len : (List.drop 3 namesL).length = 6 := rfl
theorem prp_name : (List.take 1 (List.drop 3 namesL)).head? = some (.sc (.string nmB3)) := rfl
theorem hdr_bool {α : Type} (a b c d e : Bool) (n : Nat) (p : Int) (x : α) : ((if (a || b || c || d || e || decide ((5 : Int) < n)) = true then (6 : Int) else 0) == 0 && decide (p ≤ 9)) = (if a = false ∧ b = false ∧ c = false ∧ d = false ∧ e = false ∧ n ≤ 5 ∧ p ≤ 9 then some x else none).isSome := by
  by_cases hn : n ≤ 5
  · have h1 : decide ((5 : Int) < n) = false := decide_eq_false (by omega)
    rw [h1]
    by_cases hp : p ≤ 9 <;> cases a <;> cases b <;> cases c <;> cases d <;> cases e <;> simp [hn, hp]
  · have h1 : decide ((5 : Int) < n) = true := decide_eq_true (by omega)
    rw [h1]
    by_cases hp : p ≤ 9 <;> cases a <;> cases b <;> cases c <;> cases d <;> cases e <;> simp [hn, hp]
set_option maxHeartbeats 4000000 in
theorem header_c (m : Msg) (w : Nat) (v : Val) (hw : v.wf) (hz : v.sz ≤ 40000000000) : EM 67 [.ptr 0 0 0, v.d] (mS m w) = some (.ret (B (hdrS m v).isSome), mS (hdrX m v) w) := by
  refine (ev_body ⟨[3], [], [], false, [], noIt⟩ [.tmp 4] rfl Tryz.func67 rfl rfl rfl (by kernel_rfl) (by show 2 ≤ 47; decide) (by kernel_rfl)).trans ?_
  unfold hdrS hdrX
  cases hn : newS v 112 nmB0 with
  | none =>
    have h1 := em_ev rfl rfl (new_none v (by omega) hw 112 nmB0 hn)
    by_cases hb : m.body.size = 0
    · rw [mS_nil hb]
      unfold mR
      simp +contextual (maxSteps := 10000000) only [go_sem, h1, gl0, hdr_name]
      rfl
    · rw [mS_row hb]
      unfold mR
      simp +contextual (maxSteps := 10000000) only [go_sem, h1, gl0, hdr_name]
      rfl
  | some l =>
    have h1 := em_ev rfl rfl (new_some v (by omega) hw 112 nmB0 l hn)
    obtain ⟨hm, hwl, hsl⟩ := new_more hn hw
    have hN := fun sp i k b n => em_ev rfl rfl (number_f l sp i k b n)
    have hB := fun sp i b => em_ev rfl rfl (bool_f l sp i b)
    have hD := fun sp n => em_ev rfl rfl (done_c l sp n)
    have r1 := wrap_u8_id (num_rng2 (i := 1) (n := 4) (k := 3) hm hwl (B := 256) (fun n h => by rw [numS_3] at h; exact of_decide_eq_true h) (by omega))
    have r2 := wrap_u32_id (num_rng2 (i := 2) (n := 0) (k := 5) hm hwl (B := 4294967296) (fun n h => by rw [numS_5] at h; exact of_decide_eq_true h) (by omega))
    have r4 := wrap_u32_id (num_rng2 (i := 4) (n := 0) (k := 5) hm hwl (B := 4294967296) (fun n h => by rw [numS_5] at h; exact of_decide_eq_true h) (by omega))
    dsimp only
    by_cases hb : m.body.size = 0
    · rw [mS_nil hb, mS_nil (by exact hb)]
      unfold mR
      simp +contextual (maxSteps := 10000000) only [go_sem, h1, gl0, hdr_name, hN, hB, hD, r1, r2, r4]
      rw [hdr_bool]
    · rw [mS_row hb, mS_row (by exact hb)]
      unfold mR
      simp +contextual (maxSteps := 10000000) only [go_sem, h1, gl0, hdr_name, hN, hB, hD, r1, r2, r4]
      rw [hdr_bool]
def prpX (m : Msg) (v : Val) : Msg := match newS v 115 nmB3 with
  | none => m
  | some l => { m with id := idOf m l }
theorem prBad_eq (l : List Val) : ((valS l 0 idsL).snd || (valS l 1 [19]).snd || (valS l 2 [20]).snd || (valS l 3 [20]).snd || (valS l 4 [20]).snd || (valS l 5 idsL).snd || (valS l 6 [21]).snd || (valS l 7 [21]).snd || (valS l 8 [14]).snd || (valS l 9 [14]).snd || (valS l 10 [20]).snd || (valS l 11 [5]).snd || (valS l 12 [20]).snd) = prBad l := by
  show _ = ((valS l 0 idsL).2 || ((valS l 1 [19]).snd || ((valS l 2 [20]).snd || ((valS l 3 [20]).snd || ((valS l 4 [20]).snd || ((valS l 5 idsL).snd || ((valS l 6 [21]).snd || ((valS l 7 [21]).snd || ((valS l 8 [14]).snd || ((valS l 9 [14]).snd || ((valS l 10 [20]).snd || ((valS l 11 [5]).snd || ((valS l 12 [20]).snd || false)))))))))))))
  simp only [Bool.or_assoc, Bool.or_false]
theorem prp_bool {α : Type} (c : Bool) (n z : Nat) (x : α) : ((if (c || decide ((13 : Int) < n)) = true then (6 : Int) else 0) == 0 && decide ((z : Int) ≤ 64)) = (if c = false ∧ n ≤ 13 ∧ z ≤ 64 then some x else none).isSome := by
  by_cases hn : n ≤ 13
  · have h1 : decide ((13 : Int) < n) = false := decide_eq_false (by omega)
    rw [h1]
    by_cases hp : z ≤ 64
    · have h2 : decide ((z : Int) ≤ 64) = true := decide_eq_true (by omega)
      rw [h2]; cases c <;> simp [hn, hp]
    · have h2 : decide ((z : Int) ≤ 64) = false := decide_eq_false (by omega)
      rw [h2]; cases c <;> simp [hn, hp]
  · have h1 : decide ((13 : Int) < n) = true := decide_eq_true (by omega)
    rw [h1]; cases c <;> simp [hn]
set_option maxHeartbeats 8000000 in
theorem properties_c (m : Msg) (w : Nat) (v : Val) (hw : v.wf) (hz : v.sz ≤ 40000000000) : EM 68 [.ptr 0 0 0, v.d] (mS m w) = some (.ret (B (prpS m v).isSome), mS (prpX m v) w) := by
  refine (ev_body ⟨[3], [(0, [0, 5, 7, 10, 40, 41, 42])], [], false, [], noIt⟩ [.tmp 4] rfl Tryz.func68 rfl rfl rfl (by kernel_rfl) (by show 2 ≤ 75; decide) (by kernel_rfl)).trans ?_
  unfold prpS prpX
  cases hn : newS v 115 nmB3 with
  | none =>
    have h1 := em_ev rfl rfl (new_none v (by omega) hw 115 nmB3 hn)
    by_cases hb : m.body.size = 0
    · rw [mS_nil hb]
      unfold mR
      simp +contextual (maxSteps := 10000000) only [go_sem, h1, gl0, prp_name, prp_len, show 1 ≤ 6 by decide, show 1 ≤ 6 by decide]
      rfl
    · rw [mS_row hb]
      unfold mR
      simp +contextual (maxSteps := 10000000) only [go_sem, h1, gl0, prp_name, prp_len, show 1 ≤ 6 by decide, show 1 ≤ 6 by decide]
      rfl
  | some l =>
    have h1 := em_ev rfl rfl (new_some v (by omega) hw 115 nmB3 l hn)
    obtain ⟨hm, hwl, hsl⟩ := new_more hn hw
    have hVi : ∀ sp i, EM 110 [.ptr 0 0 0, I i, .ro false [U8 6, U8 15, U8 19, U8 20]] [fRow l sp] = some (.ret (valS l i idsL).1.d, [fRow l (sp || (valS l i idsL).2)]) := fun sp i => em_ev rfl rfl (value_f l (by omega) sp i idsL (by decide))
    have hV1 : ∀ sp i k, EM 110 [.ptr 0 0 0, I i, .ro false [U8 k]] [fRow l sp] = some (.ret (valS l i [k]).1.d, [fRow l (sp || (valS l i [k]).2)]) := fun sp i k => em_ev rfl rfl (value_f l (by omega) sp i [k] (by simp))
    have hD := fun sp n => em_ev rfl rfl (done_c l sp n)
    dsimp only
    by_cases hk : (valS l 0 idsL).1.kind = 20
    · have hk' : ((valS l 0 idsL).1.kind == 20) = true := by simpa using hk
      have hi : idOf m l = (valS l 0 idsL).1.text := if_pos hk
      rw [hi]
      by_cases hb : m.body.size = 0
      · rw [mS_nil hb, mS_nil (by exact hb)]
        unfold mR
        simp +contextual (maxSteps := 10000000) only [go_sem, h1, gl0, prp_name, prp_len, show 1 ≤ 6 by decide, hVi, hk']
        rw [lpK_go]
        simp +contextual (maxSteps := 10000000) only [go_sem, hVi, hV1]
        rw [lpK_go]
        simp +contextual (maxSteps := 10000000) only [go_sem, hVi, hV1]
        rw [lpK_go]
        simp +contextual (maxSteps := 10000000) only [go_sem, hVi, hV1]
        rw [lpK_go]
        simp +contextual (maxSteps := 10000000) only [go_sem, hVi, hV1]
        rw [lpK_go]
        simp +contextual (maxSteps := 10000000) only [go_sem, hVi, hV1]
        rw [lpK_go]
        simp +contextual (maxSteps := 10000000) only [go_sem, hVi, hV1]
        rw [lpK_go]
        simp +contextual (maxSteps := 10000000) only [go_sem, hVi, hV1]
        rw [lpK_go]
        simp +contextual (maxSteps := 10000000) only [go_sem, hVi, hV1]
        rw [lpK_go]
        simp +contextual (maxSteps := 10000000) only [go_sem, hVi, hV1]
        rw [lpK_go]
        simp +contextual (maxSteps := 10000000) only [go_sem, hVi, hV1]
        rw [lpK_go]
        simp +contextual (maxSteps := 10000000) only [go_sem, hVi, hV1]
        rw [lpK_go]
        simp +contextual (maxSteps := 10000000) only [go_sem, hVi, hV1]
        rw [lpK_go]
        simp +contextual (maxSteps := 10000000) only [go_sem, hD]
        rw [prBad_eq, prp_bool]
      · rw [mS_row hb, mS_row (by exact hb)]
        unfold mR
        simp +contextual (maxSteps := 10000000) only [go_sem, h1, gl0, prp_name, prp_len, show 1 ≤ 6 by decide, hVi, hk']
        rw [lpK_go]
        simp +contextual (maxSteps := 10000000) only [go_sem, hVi, hV1]
        rw [lpK_go]
        simp +contextual (maxSteps := 10000000) only [go_sem, hVi, hV1]
        rw [lpK_go]
        simp +contextual (maxSteps := 10000000) only [go_sem, hVi, hV1]
        rw [lpK_go]
        simp +contextual (maxSteps := 10000000) only [go_sem, hVi, hV1]
        rw [lpK_go]
        simp +contextual (maxSteps := 10000000) only [go_sem, hVi, hV1]
        rw [lpK_go]
        simp +contextual (maxSteps := 10000000) only [go_sem, hVi, hV1]
        rw [lpK_go]
        simp +contextual (maxSteps := 10000000) only [go_sem, hVi, hV1]
        rw [lpK_go]
        simp +contextual (maxSteps := 10000000) only [go_sem, hVi, hV1]
        rw [lpK_go]
        simp +contextual (maxSteps := 10000000) only [go_sem, hVi, hV1]
        rw [lpK_go]
        simp +contextual (maxSteps := 10000000) only [go_sem, hVi, hV1]
        rw [lpK_go]
        simp +contextual (maxSteps := 10000000) only [go_sem, hVi, hV1]
        rw [lpK_go]
        simp +contextual (maxSteps := 10000000) only [go_sem, hVi, hV1]
        rw [lpK_go]
        simp +contextual (maxSteps := 10000000) only [go_sem, hD]
        rw [prBad_eq, prp_bool]
    · have hk' : ((valS l 0 idsL).1.kind == 20) = false := by simpa using hk
      have hi : idOf m l = m.id := if_neg hk
      rw [hi]
      by_cases hb : m.body.size = 0
      · rw [mS_nil hb]
        unfold mR
        simp +contextual (maxSteps := 10000000) only [go_sem, h1, gl0, prp_name, prp_len, show 1 ≤ 6 by decide, hVi, hk']
        rw [lpK_go]
        simp +contextual (maxSteps := 10000000) only [go_sem, hVi, hV1]
        rw [lpK_go]
        simp +contextual (maxSteps := 10000000) only [go_sem, hVi, hV1]
        rw [lpK_go]
        simp +contextual (maxSteps := 10000000) only [go_sem, hVi, hV1]
        rw [lpK_go]
        simp +contextual (maxSteps := 10000000) only [go_sem, hVi, hV1]
        rw [lpK_go]
        simp +contextual (maxSteps := 10000000) only [go_sem, hVi, hV1]
        rw [lpK_go]
        simp +contextual (maxSteps := 10000000) only [go_sem, hVi, hV1]
        rw [lpK_go]
        simp +contextual (maxSteps := 10000000) only [go_sem, hVi, hV1]
        rw [lpK_go]
        simp +contextual (maxSteps := 10000000) only [go_sem, hVi, hV1]
        rw [lpK_go]
        simp +contextual (maxSteps := 10000000) only [go_sem, hVi, hV1]
        rw [lpK_go]
        simp +contextual (maxSteps := 10000000) only [go_sem, hVi, hV1]
        rw [lpK_go]
        simp +contextual (maxSteps := 10000000) only [go_sem, hVi, hV1]
        rw [lpK_go]
        simp +contextual (maxSteps := 10000000) only [go_sem, hVi, hV1]
        rw [lpK_go]
        simp +contextual (maxSteps := 10000000) only [go_sem, hD]
        rw [prBad_eq, prp_bool]
      · rw [mS_row hb]
        unfold mR
        simp +contextual (maxSteps := 10000000) only [go_sem, h1, gl0, prp_name, prp_len, show 1 ≤ 6 by decide, hVi, hk']
        rw [lpK_go]
        simp +contextual (maxSteps := 10000000) only [go_sem, hVi, hV1]
        rw [lpK_go]
        simp +contextual (maxSteps := 10000000) only [go_sem, hVi, hV1]
        rw [lpK_go]
        simp +contextual (maxSteps := 10000000) only [go_sem, hVi, hV1]
        rw [lpK_go]
        simp +contextual (maxSteps := 10000000) only [go_sem, hVi, hV1]
        rw [lpK_go]
        simp +contextual (maxSteps := 10000000) only [go_sem, hVi, hV1]
        rw [lpK_go]
        simp +contextual (maxSteps := 10000000) only [go_sem, hVi, hV1]
        rw [lpK_go]
        simp +contextual (maxSteps := 10000000) only [go_sem, hVi, hV1]
        rw [lpK_go]
        simp +contextual (maxSteps := 10000000) only [go_sem, hVi, hV1]
        rw [lpK_go]
        simp +contextual (maxSteps := 10000000) only [go_sem, hVi, hV1]
        rw [lpK_go]
        simp +contextual (maxSteps := 10000000) only [go_sem, hVi, hV1]
        rw [lpK_go]
        simp +contextual (maxSteps := 10000000) only [go_sem, hVi, hV1]
        rw [lpK_go]
        simp +contextual (maxSteps := 10000000) only [go_sem, hVi, hV1]
        rw [lpK_go]
        simp +contextual (maxSteps := 10000000) only [go_sem, hD]
        rw [prBad_eq, prp_bool]
end Go.Bw.R1

/- Messages: what a section tells. -/
namespace Go.Bw.R1
set_option maxRecDepth 5000
open Go Go.Bw Go.Proofs
/-- how often the body's row was appended to -/
def takeW (m : Msg) (c : Int) (v : Val) : Nat := if c = 5 ∧ ¬ m.body.size = 0 ∧ ¬ (snd' v).text.size = 0 then 1 else 0
def takeX (m : Msg) (c : Int) (v : Val) : Msg := if c = 0 then hdrX m v else if c = 3 then prpX m v else if c = 5 then { m with body := m.body ++ (snd' v).text } else m
theorem hdrX_body (m : Msg) (v : Val) : (hdrX m v).body = m.body := by unfold hdrX; split <;> rfl
theorem prpX_body (m : Msg) (v : Val) : (prpX m v).body = m.body := by unfold prpX; split <;> rfl
theorem hdrX_nil {m : Msg} {w : Nat} {v : Val} (h : m.body.size = 0) : mS (hdrX m v) w = [mR (hdrX m v) .nils] := mS_nil (by rw [hdrX_body]; exact h)
theorem prpX_nil {m : Msg} {w : Nat} {v : Val} (h : m.body.size = 0) : mS (prpX m v) w = [mR (prpX m v) .nils] := mS_nil (by rw [prpX_body]; exact h)
theorem hdrX_row {m : Msg} {w : Nat} {v : Val} (h : ¬ m.body.size = 0) : mS (hdrX m v) w = [mR (hdrX m v) (.ref 1 w 1 0 m.body.size), some ⟨w, bytesD m.body⟩] := by
  have := mS_row (m := hdrX m v) (w := w) (by rw [hdrX_body]; exact h)
  rw [hdrX_body] at this; exact this
theorem prpX_row {m : Msg} {w : Nat} {v : Val} (h : ¬ m.body.size = 0) : mS (prpX m v) w = [mR (prpX m v) (.ref 1 w 1 0 m.body.size), some ⟨w, bytesD m.body⟩] := by
  have := mS_row (m := prpX m v) (w := w) (by rw [prpX_body]; exact h)
  rw [prpX_body] at this; exact this
set_option maxHeartbeats 8000000 in
theorem take_c (m : Msg) (c : Int) (v d x : Val) (hk : v.kids = [d, x]) (hw : v.wf) (hz : v.sz ≤ 40000000000) (hc0 : 0 ≤ c) (hc8 : c ≤ 8) (hb0 : m.body.size + x.text.size ≤ 40000000000) : EM 44 [.ptr 0 0 0, I c, v.d] (mS m 0) = some (.ret (B (takeS m c v).isSome), mS (takeX m c v) (takeW m c v)) := by
  refine (ev_body ⟨[5], [], [(7, [(1, 0, false), (2, 0, false), (3, 0, false), (4, 0, false), (5, 0, false), (6, 0, false), (7, 0, false), (8, 0, false), (9, 0, false), (10, 0, true), (0, 0, false), (11, 1, false), (12, 1, false), (13, 0, true)])], false, [], noIt⟩ [.tmp 6] rfl Tryz.func44 rfl rfl rfl (by kernel_rfl) (by show 3 ≤ 49; decide) (by kernel_rfl)).trans ?_
  unfold takeS takeX
  have hs : snd' v = x := by unfold snd'; rw [hk]
  have wc : IntKind.i64.wrap (c + 112) = c + 112 := wrap_i64 (by omega) (by omega)
  have hd1 : (v.kids.map Val.d)[1]? = some x.d := by rw [hk]; rfl
  by_cases h0 : c = 0
  · rw [if_pos h0, if_pos h0]
    have g0 : (c + 112 == 112) = true := by rw [h0]; rfl
    have h1 := header_c m 0 v hw hz
    have hw' : takeW m c v = 0 := by unfold takeW; rw [if_neg (by omega)]
    rw [hw']
    by_cases hb : m.body.size = 0
    · rw [mS_nil hb, hdrX_nil hb] at h1
      rw [mS_nil hb, hdrX_nil hb]
      unfold mR at h1 ⊢
      simp +contextual (maxSteps := 10000000) only [go_sem, wc, g0, h1]
    · rw [mS_row hb, hdrX_row hb] at h1
      rw [mS_row hb, hdrX_row hb]
      unfold mR at h1 ⊢
      simp +contextual (maxSteps := 10000000) only [go_sem, wc, g0, h1]
  · rw [if_neg h0, if_neg h0]
    have g0 : (c + 112 == 112) = false := by rw [beq_eq_false_iff_ne]; omega
    by_cases h3 : c = 3
    · rw [if_pos h3, if_pos h3]
      have g3 : (c + 112 == 115) = true := by rw [h3]; rfl
      have h1 := properties_c m 0 v hw hz
      have hw' : takeW m c v = 0 := by unfold takeW; rw [if_neg (by omega)]
      rw [hw']
      by_cases hb : m.body.size = 0
      · rw [mS_nil hb, prpX_nil hb] at h1
        rw [mS_nil hb, prpX_nil hb]
        unfold mR at h1 ⊢
        simp +contextual (maxSteps := 10000000) only [go_sem, wc, g0, g3, h1]
      · rw [mS_row hb, prpX_row hb] at h1
        rw [mS_row hb, prpX_row hb]
        unfold mR at h1 ⊢
        simp +contextual (maxSteps := 10000000) only [go_sem, wc, g0, g3, h1]
    · rw [if_neg h3, if_neg h3]
      have g3 : (c + 112 == 115) = false := by rw [beq_eq_false_iff_ne]; omega
      by_cases h5 : c = 5
      · rw [if_pos h5, if_pos h5, hs]
        have g5 : (c + 112 == 117) = true := by rw [h5]; rfl
        have e1 : (if x.kind = 19 then some { m with body := m.body ++ x.text } else none).isSome = (x.kind == 19) := by
          by_cases h : x.kind = 19
          · rw [if_pos h, h]; rfl
          · rw [if_neg h]; symm; rw [Option.isSome_none, beq_eq_false_iff_ne]; exact h
        rw [e1]
        have hle : x.text.size ≤ 140737488355328 := by omega
        have hle2 : m.body.size + x.text.size ≤ 140737488355328 := by omega
        by_cases hb : m.body.size = 0
        · rw [mS_nil hb]
          have he : m.body = e0 := ByteArray.ext (Array.eq_empty_of_size_eq_zero hb)
          by_cases ht : x.text.size = 0
          · rw [mS_nil (by show (m.body ++ x.text).size = 0; rw [ByteArray.size_append]; omega)]
            unfold mR
            simp +contextual (maxSteps := 10000000) only [go_sem, wc, g0, g3, g5, hd1, ht]
          · rw [mS_row (by show ¬ (m.body ++ x.text).size = 0; rw [ByteArray.size_append]; omega)]
            have hw' : takeW m c v = 0 := by unfold takeW; rw [if_neg (fun h => h.2.1 hb)]
            rw [hw']
            have he2 : m.body ++ x.text = x.text := by rw [he]; exact ByteArray.empty_append
            unfold mR
            dsimp only
            rw [he2]
            simp +contextual (maxSteps := 10000000) only [go_sem, wc, g0, g3, g5, hd1, ht, hle]
        · rw [mS_row hb]
          rw [mS_row (by show ¬ (m.body ++ x.text).size = 0; rw [ByteArray.size_append]; omega)]
          unfold mR
          dsimp only
          by_cases ht : x.text.size = 0
          · have he : x.text = e0 := ByteArray.ext (Array.eq_empty_of_size_eq_zero ht)
            have he2 : m.body ++ x.text = m.body := by rw [he]; exact ByteArray.append_empty
            have hw' : takeW m c v = 0 := by unfold takeW; rw [hs, if_neg (fun h => h.2.2 ht)]
            rw [he2, hw']
            simp +contextual (maxSteps := 10000000) only [go_sem, wc, g0, g3, g5, hd1, hle2, ht]
          · have hw' : takeW m c v = 1 := by unfold takeW; rw [hs, if_pos ⟨h5, hb, ht⟩]
            rw [hw']
            simp +contextual (maxSteps := 10000000) only [go_sem, wc, g0, g3, g5, hd1, hle2, ht, bytesD_one]
      · rw [if_neg h5, if_neg h5]
        have g5 : (c + 112 == 117) = false := by rw [beq_eq_false_iff_ne]; omega
        have hw' : takeW m c v = 0 := by unfold takeW; rw [if_neg (by omega)]
        rw [hw']
        by_cases h6 : c = 6 ∨ c = 7
        · rw [if_pos h6]
          by_cases hb : m.body.size = 0
          · rw [mS_nil hb]
            unfold mR
            rcases h6 with h6 | h6
            · have g6 : (c + 112 == 118) = true := by rw [h6]; rfl
              simp +contextual (maxSteps := 10000000) only [go_sem, wc, g0, g3, g5, g6]
              rfl
            · have g6 : (c + 112 == 118) = false := by rw [h6]; rfl
              have g7 : (c + 112 == 119) = true := by rw [h6]; rfl
              simp +contextual (maxSteps := 10000000) only [go_sem, wc, g0, g3, g5, g6, g7]
              rfl
          · rw [mS_row hb]
            unfold mR
            rcases h6 with h6 | h6
            · have g6 : (c + 112 == 118) = true := by rw [h6]; rfl
              simp +contextual (maxSteps := 10000000) only [go_sem, wc, g0, g3, g5, g6]
              rfl
            · have g6 : (c + 112 == 118) = false := by rw [h6]; rfl
              have g7 : (c + 112 == 119) = true := by rw [h6]; rfl
              simp +contextual (maxSteps := 10000000) only [go_sem, wc, g0, g3, g5, g6, g7]
              rfl
        · rw [if_neg h6, hs]
          have g6 : (c + 112 == 118) = false := by rw [beq_eq_false_iff_ne]; omega
          have g7 : (c + 112 == 119) = false := by rw [beq_eq_false_iff_ne]; omega
          have e1 : (if x.kind = 23 then some m else none).isSome = (x.kind == 23) := by
            by_cases h : x.kind = 23
            · rw [if_pos h, h]; rfl
            · rw [if_neg h]; symm; rw [Option.isSome_none, beq_eq_false_iff_ne]; exact h
          rw [e1]
          by_cases hb : m.body.size = 0
          · rw [mS_nil hb]
            unfold mR
            simp +contextual (maxSteps := 10000000) only [go_sem, wc, g0, g3, g5, g6, g7, hd1]
          · rw [mS_row hb]
            unfold mR
            simp +contextual (maxSteps := 10000000) only [go_sem, wc, g0, g3, g5, g6, g7, hd1]
end Go.Bw.R1

/- message.Put. -/
namespace Go.Bw.R1
set_option maxRecDepth 5000
open Go Go.Bw Go.Proofs
def Msg.d (m : Msg) : D := .agg [.sc (.int .u8 m.pri), .sc (.int .u32 m.ttl), .sc (.int .u32 m.cnt), .sc (.string m.id), .ro false (bytesD m.body)]
theorem unless_c (b : Bool) (k n : Int) : EV 33 [B b, .sc (.int .u8 k), .sc (.int .u64 n)] [] = some (.ret (if b = true then vN else Val.mk k n ⟨#[]⟩ []).d, []) := by
  refine (ev_body ⟨[], [], [], true, [], noIt⟩ [.cell 6 46] rfl Tryz.func33 rfl rfl rfl (by kernel_rfl) (by show 3 ≤ 12; decide) (by kernel_rfl)).trans ?_
  cases b
  · simp +contextual (maxSteps := 10000000) only [go_sem, number_c]
  · simp +contextual (maxSteps := 10000000) only [go_sem, null_c]
theorem wrap_u64_id {n : Int} (h0 : 0 ≤ n) (h1 : n < 18446744073709551616) : IntKind.u64.wrap n = n := fit_u64 h0 (by omega)
set_option maxHeartbeats 4000000 in
theorem put_bad (m : Msg) (hm : m.ok) (h : mayM m = false) (hi : m.id.size ≤ 30000000) : EV 13 [m.d] [] = some (.ret (.tup [.ro false [], I 1]), []) := by
  unfold Msg.d
  refine (ev_body ⟨[1], [(0, [5, 93, 94, 95])], [(5, [(0, 0, false), (1, 0, false), (2, 0, false), (3, 0, false), (4, 0, false), (5, 0, false), (6, 0, false), (7, 0, false), (8, 0, false), (9, 0, false), (10, 0, false), (11, 0, false), (12, 0, false), (13, 0, false), (14, 0, false), (15, 0, false), (16, 0, false), (17, 0, false), (18, 0, false), (19, 0, false), (20, 0, false), (21, 0, false), (22, 0, false), (23, 0, false), (24, 0, false), (25, 0, false), (26, 0, false), (27, 0, true), (28, 1, false)]), (8, [(0, 0, false), (1, 0, false), (2, 0, false), (3, 0, false), (4, 0, false), (5, 0, false), (6, 0, false), (7, 0, false), (8, 0, true), (9, 1, false)])], true, [], noIt⟩ [.tmp 2, .tmp 3] rfl Tryz.func13 rfl rfl rfl (by kernel_rfl) (by show 1 ≤ 112; decide) (by kernel_rfl)).trans ?_
  unfold mayM at h
  by_cases h1 : m.pri ≤ 9
  · have g1 : decide ((9 : Int) < m.pri) = false := decide_eq_false (by omega)
    by_cases h2 : m.id.size ≤ 64
    · have g2 : decide ((64 : Int) < m.id.size) = false := decide_eq_false (by omega)
      have hu := uright_c m.id (by omega)
      cases h3 : (charsA (bl m.id)).isSome with
      | false =>
        rw [h3] at hu
        simp +contextual (maxSteps := 10000000) only [go_sem, g1, g2, hu]
      | true =>
        rw [h3] at hu
        have g4 : decide ((2048 : Int) < m.body.size) = true := by
          rw [h3, decide_eq_true h1, decide_eq_true h2] at h
          simp only [Bool.true_and, decide_eq_false_iff_not] at h
          exact decide_eq_true (by omega)
        simp +contextual (maxSteps := 10000000) only [go_sem, g1, g2, hu, g4]
    · have g2 : decide ((64 : Int) < m.id.size) = true := decide_eq_true (by omega)
      simp +contextual (maxSteps := 10000000) only [go_sem, g1, g2]
  · have g1 : decide ((9 : Int) < m.pri) = true := decide_eq_true (by omega)
    simp +contextual (maxSteps := 10000000) only [go_sem, g1]
end Go.Bw.R1

/- message.Put of what may be. -/
namespace Go.Bw.R1
set_option maxRecDepth 5000
open Go Go.Bw Go.Proofs
theorem menc_ok (v : Val) (h : v.sz ≤ 40000000) (hw : v.wf) (hr : rightS v = true) : EV 25 [v.d] [] = some (.ret (.tup [.ref 0 0 1 0 (wrV v).size, I 0]), [some ⟨0, bytesD (wrV v)⟩]) := by
  rw [encode_c v h hw, if_pos hr]
theorem may_parts {m : Msg} (h : mayM m = true) : m.pri ≤ 9 ∧ m.id.size ≤ 64 ∧ (charsA (bl m.id)).isSome = true ∧ m.body.size ≤ 2048 := by
  unfold mayM at h
  simp only [Bool.and_eq_true, decide_eq_true_eq] at h
  exact ⟨h.1.1.1, h.1.1.2, h.1.2, h.2⟩
theorem hdr_args (m : Msg) : (hdrL m).map Val.d = [vN.d, (if (m.pri == 4) = true then vN else Val.mk 3 m.pri ⟨#[]⟩ []).d, (if (m.ttl == 0) = true then vN else Val.mk 5 m.ttl ⟨#[]⟩ []).d, vN.d, (if (m.cnt == 0) = true then vN else Val.mk 5 m.cnt ⟨#[]⟩ []).d] := by
  unfold hdrL
  simp only [List.map_cons, List.map_nil, beq_iff_eq]
theorem dat_sz0 (b : ByteArray) : (Val.mk 6 117 ⟨#[]⟩ []).sz + (Val.mk 19 0 b []).sz = b.size + 2 := by
  have e : (Val.mk 6 117 ⟨#[]⟩ []).sz = 0 + 0 + 1 := rfl
  have e2 : (Val.mk 19 0 b []).sz = b.size + 0 + 1 := rfl
  omega
set_option maxHeartbeats 8000000 in
theorem put_1 (m : Msg) (hm : m.ok) (h : mayM m = true) (hh : hasH m = false) (hi : m.id.size = 0) : EV 13 [m.d] [] = some (.ret (.tup [.ro false (bytesD (wrV (datV m.body))), I 0]), []) := by
  obtain ⟨p1, p2, p3, p4⟩ := may_parts h
  have g1 : decide ((9 : Int) < m.pri) = false := decide_eq_false (by omega)
  have g2 : decide ((64 : Int) < m.id.size) = false := decide_eq_false (by omega)
  have g4 : decide ((2048 : Int) < m.body.size) = false := decide_eq_false (by omega)
  have hu := uright_c m.id (by omega)
  rw [p3] at hu
  have n1 := number_c 6 117
  have t1 := text_c 19 m.body
  have d1 := desc_c (.mk 6 117 ⟨#[]⟩ []) (.mk 19 0 m.body []) (by have := dat_sz0 m.body; omega)
  have q1 : EV 25 [(Val.mk 25 0 ⟨#[]⟩ [.mk 6 117 ⟨#[]⟩ [], .mk 19 0 m.body []]).d] [] = some (.ret (.tup [.ref 0 0 1 0 (wrV (datV m.body)).size, I 0]), [some ⟨0, bytesD (wrV (datV m.body))⟩]) := menc_ok (datV m.body) (by rw [dat_sz]; omega) (dat_wf _) (dat_right _)
  have w1 : ¬ (wrV (datV m.body)).size = 0 := by have := wr_pos (datV m.body); omega
  have w2 : (wrV (datV m.body)).size ≤ 25000 := by have := wr_sz (datV m.body); have := dat_sz m.body; omega
  have w3 : (wrV (datV m.body)).size ≤ 140737488355328 := by omega
  have hid : m.id = e0 := ByteArray.ext (Array.eq_empty_of_size_eq_zero hi)
  have gi : decide (m.id = ⟨#[]⟩) = true := decide_eq_true hid
  unfold hasH at hh
  simp only [Bool.or_eq_false_iff, bne_eq_false_iff_eq] at hh
  have c1 : (m.pri != 4) = false := by rw [hh.1.1]; rfl
  have c2 : (m.ttl != 0) = false := by rw [hh.1.2]; rfl
  have c3 : (m.cnt != 0) = false := by rw [hh.2]; rfl
  generalize wrV (datV m.body) = W at *
  unfold Msg.d
  refine (ev_body ⟨[1], [(0, [5, 93, 94, 95])], [(5, [(0, 0, false), (1, 0, false), (2, 0, false), (3, 0, false), (4, 0, false), (5, 0, false), (6, 0, false), (7, 0, false), (8, 0, false), (9, 0, false), (10, 0, false), (11, 0, false), (12, 0, false), (13, 0, false), (14, 0, false), (15, 0, false), (16, 0, false), (17, 0, false), (18, 0, false), (19, 0, false), (20, 0, false), (21, 0, false), (22, 0, false), (23, 0, false), (24, 0, false), (25, 0, false), (26, 0, false), (27, 0, true), (28, 1, false)]), (8, [(0, 0, false), (1, 0, false), (2, 0, false), (3, 0, false), (4, 0, false), (5, 0, false), (6, 0, false), (7, 0, false), (8, 0, true), (9, 1, false)])], true, [], noIt⟩ [.tmp 2, .tmp 3] rfl Tryz.func13 rfl rfl rfl (by kernel_rfl) (by show 1 ≤ 112; decide) (by kernel_rfl)).trans ?_
  simp +contextual (maxSteps := 10000000) only [go_sem, g1, g2, hu, g4, gi, n1, t1, d1, c1, c2, c3]
  rw [lpK_go]
  simp +contextual (maxSteps := 10000000) only [go_sem, q1, w1, w3]
  rw [lpK_go]
  simp +contextual (maxSteps := 10000000) only [go_sem]
set_option maxHeartbeats 8000000 in
theorem put_2 (m : Msg) (hm : m.ok) (h : mayM m = true) (hh : hasH m = true) (hi : m.id.size = 0) : EV 13 [m.d] [] = some (.ret (.tup [.ro false (bytesD (wrV (putS 112 (hdrL m)) ++ wrV (datV m.body))), I 0]), []) := by
  obtain ⟨p1, p2, p3, p4⟩ := may_parts h
  have g1 : decide ((9 : Int) < m.pri) = false := decide_eq_false (by omega)
  have g2 : decide ((64 : Int) < m.id.size) = false := decide_eq_false (by omega)
  have g4 : decide ((2048 : Int) < m.body.size) = false := decide_eq_false (by omega)
  have hu := uright_c m.id (by omega)
  rw [p3] at hu
  have n1 := number_c 6 117
  have t1 := text_c 19 m.body
  have d1 := desc_c (.mk 6 117 ⟨#[]⟩ []) (.mk 19 0 m.body []) (by have := dat_sz0 m.body; omega)
  have q1 : EV 25 [(Val.mk 25 0 ⟨#[]⟩ [.mk 6 117 ⟨#[]⟩ [], .mk 19 0 m.body []]).d] [] = some (.ret (.tup [.ref 0 0 1 0 (wrV (datV m.body)).size, I 0]), [some ⟨0, bytesD (wrV (datV m.body))⟩]) := menc_ok (datV m.body) (by rw [dat_sz]; omega) (dat_wf _) (dat_right _)
  have w1 : ¬ (wrV (datV m.body)).size = 0 := by have := wr_pos (datV m.body); omega
  have w2 : (wrV (datV m.body)).size ≤ 25000 := by have := wr_sz (datV m.body); have := dat_sz m.body; omega
  have w3 : (wrV (datV m.body)).size ≤ 140737488355328 := by omega
  have hid : m.id = e0 := ByteArray.ext (Array.eq_empty_of_size_eq_zero hi)
  have gi : decide (m.id = ⟨#[]⟩) = true := decide_eq_true hid
  have hH := right_flat (code := 112) (hdr_flat m hm) (by simp [hdrL])
  have zH : (putS 112 (hdrL m)).sz ≤ 100 := by have := put_sz 112 (hdrL m); have := hdrL_sz m; omega
  have wH := putS_wf 112 (by decide) (hdrL_wf m hm)
  obtain ⟨hp, ht, hc⟩ := hm
  have x1 := wrap_u64_id (n := m.pri) (by omega) (by omega)
  have x2 := wrap_u64_id (n := m.ttl) (by omega) (by omega)
  have x3 := wrap_u64_id (n := m.cnt) (by omega) (by omega)
  have l1 := unless_c (m.pri == 4) 3 m.pri
  have l2 := unless_c (m.ttl == 0) 5 m.ttl
  have l3 := unless_c (m.cnt == 0) 5 m.cnt
  have f1 := fput_c 112 (hdrL m) (by have := hdrL_sz m; omega)
  rw [hdr_args] at f1
  have nl := null_c
  generalize (if (m.pri == 4) = true then vN else Val.mk 3 m.pri ⟨#[]⟩ []) = A at *
  generalize (if (m.ttl == 0) = true then vN else Val.mk 5 m.ttl ⟨#[]⟩ []) = B at *
  generalize (if (m.cnt == 0) = true then vN else Val.mk 5 m.cnt ⟨#[]⟩ []) = C at *
  have q0 := menc_ok (putS 112 (hdrL m)) (by omega) wH hH
  have u1 : ¬ (wrV (putS 112 (hdrL m))).size = 0 := by have := wr_pos (putS 112 (hdrL m)); omega
  have u2 : (wrV (putS 112 (hdrL m))).size ≤ 1000 := by have := wr_sz (putS 112 (hdrL m)); omega
  have u3 : (wrV (putS 112 (hdrL m))).size ≤ 140737488355328 := by omega
  generalize putS 112 (hdrL m) = H at *
  generalize wrV (datV m.body) = W at *
  have u5 : (wrV H).size + W.size ≤ 140737488355328 := by omega
  unfold Msg.d
  refine (ev_body ⟨[1], [(0, [5, 93, 94, 95])], [(5, [(0, 0, false), (1, 0, false), (2, 0, false), (3, 0, false), (4, 0, false), (5, 0, false), (6, 0, false), (7, 0, false), (8, 0, false), (9, 0, false), (10, 0, false), (11, 0, false), (12, 0, false), (13, 0, false), (14, 0, false), (15, 0, false), (16, 0, false), (17, 0, false), (18, 0, false), (19, 0, false), (20, 0, false), (21, 0, false), (22, 0, false), (23, 0, false), (24, 0, false), (25, 0, false), (26, 0, false), (27, 0, true), (28, 1, false)]), (8, [(0, 0, false), (1, 0, false), (2, 0, false), (3, 0, false), (4, 0, false), (5, 0, false), (6, 0, false), (7, 0, false), (8, 0, true), (9, 1, false)])], true, [], noIt⟩ [.tmp 2, .tmp 3] rfl Tryz.func13 rfl rfl rfl (by kernel_rfl) (by show 1 ≤ 112; decide) (by kernel_rfl)).trans ?_
  unfold hasH at hh
  by_cases c1 : m.pri = 4
  · have d1' : (m.pri != 4) = false := by rw [c1]; rfl
    by_cases c2 : m.ttl = 0
    · have d2 : (m.ttl != 0) = false := by rw [c2]; rfl
      have d3 : (m.cnt != 0) = true := by rw [d1', d2] at hh; simpa using hh
      simp +contextual (maxSteps := 10000000) only [go_sem, g1, g2, hu, g4, gi, n1, t1, d1, x1, x2, x3, l1, l2, l3, nl, f1, d1', d2, d3]
      rw [lpK_go]
      simp +contextual (maxSteps := 10000000) only [go_sem, q0, u1, u3]
      rw [lpK_go]
      simp +contextual (maxSteps := 10000000) only [go_sem, q1, w1, w3, u5, bytesD_one]
      rw [lpK_go]
      simp +contextual (maxSteps := 10000000) only [go_sem]
    · have d2 : (m.ttl != 0) = true := by simpa using c2
      simp +contextual (maxSteps := 10000000) only [go_sem, g1, g2, hu, g4, gi, n1, t1, d1, x1, x2, x3, l1, l2, l3, nl, f1, d1', d2]
      rw [lpK_go]
      simp +contextual (maxSteps := 10000000) only [go_sem, q0, u1, u3]
      rw [lpK_go]
      simp +contextual (maxSteps := 10000000) only [go_sem, q1, w1, w3, u5, bytesD_one]
      rw [lpK_go]
      simp +contextual (maxSteps := 10000000) only [go_sem]
  · have d1' : (m.pri != 4) = true := by simpa using c1
    simp +contextual (maxSteps := 10000000) only [go_sem, g1, g2, hu, g4, gi, n1, t1, d1, x1, x2, x3, l1, l2, l3, nl, f1, d1']
    rw [lpK_go]
    simp +contextual (maxSteps := 10000000) only [go_sem, q0, u1, u3]
    rw [lpK_go]
    simp +contextual (maxSteps := 10000000) only [go_sem, q1, w1, w3, u5, bytesD_one]
    rw [lpK_go]
    simp +contextual (maxSteps := 10000000) only [go_sem]
set_option maxHeartbeats 8000000 in
theorem put_3 (m : Msg) (hm : m.ok) (h : mayM m = true) (hh : hasH m = false) (hi : ¬ m.id.size = 0) : EV 13 [m.d] [] = some (.ret (.tup [.ro false (bytesD (wrV (putS 115 [.mk 20 0 m.id []]) ++ wrV (datV m.body))), I 0]), []) := by
  obtain ⟨p1, p2, p3, p4⟩ := may_parts h
  have g1 : decide ((9 : Int) < m.pri) = false := decide_eq_false (by omega)
  have g2 : decide ((64 : Int) < m.id.size) = false := decide_eq_false (by omega)
  have g4 : decide ((2048 : Int) < m.body.size) = false := decide_eq_false (by omega)
  have hu := uright_c m.id (by omega)
  rw [p3] at hu
  have n1 := number_c 6 117
  have t1 := text_c 19 m.body
  have d1 := desc_c (.mk 6 117 ⟨#[]⟩ []) (.mk 19 0 m.body []) (by have := dat_sz0 m.body; omega)
  have q1 : EV 25 [(Val.mk 25 0 ⟨#[]⟩ [.mk 6 117 ⟨#[]⟩ [], .mk 19 0 m.body []]).d] [] = some (.ret (.tup [.ref 0 0 1 0 (wrV (datV m.body)).size, I 0]), [some ⟨0, bytesD (wrV (datV m.body))⟩]) := menc_ok (datV m.body) (by rw [dat_sz]; omega) (dat_wf _) (dat_right _)
  have w1 : ¬ (wrV (datV m.body)).size = 0 := by have := wr_pos (datV m.body); omega
  have w2 : (wrV (datV m.body)).size ≤ 25000 := by have := wr_sz (datV m.body); have := dat_sz m.body; omega
  have w3 : (wrV (datV m.body)).size ≤ 140737488355328 := by omega
  have gi : decide (m.id = ⟨#[]⟩) = false := decide_eq_false (fun e => hi (by rw [e]; rfl))
  have hI := right_flat (code := 115) (prp_flat p3) (by simp)
  have zI : (putS 115 [.mk 20 0 m.id []]).sz ≤ 200 := by
    have := put_sz 115 [Val.mk 20 0 m.id []]
    have e : Val.szL [Val.mk 20 0 m.id []] = m.id.size + 0 + 1 + 0 := rfl
    omega
  have wI : (putS 115 [.mk 20 0 m.id []]).wf := putS_wf 115 (by decide) ⟨⟨by decide, trivial⟩, trivial⟩
  have t2 := text_c 20 m.id
  have f2 := fput_c 115 [.mk 20 0 m.id []] (by have e : Val.szL [Val.mk 20 0 m.id []] = m.id.size + 0 + 1 + 0 := rfl; omega)
  simp only [List.map_cons, List.map_nil] at f2
  have q2 := menc_ok (putS 115 [.mk 20 0 m.id []]) (by omega) wI hI
  have v1 : ¬ (wrV (putS 115 [.mk 20 0 m.id []])).size = 0 := by have := wr_pos (putS 115 [.mk 20 0 m.id []]); omega
  have v2 : (wrV (putS 115 [.mk 20 0 m.id []])).size ≤ 2500 := by have := wr_sz (putS 115 [.mk 20 0 m.id []]); omega
  have v3 : (wrV (putS 115 [.mk 20 0 m.id []])).size ≤ 140737488355328 := by omega
  unfold hasH at hh
  simp only [Bool.or_eq_false_iff, bne_eq_false_iff_eq] at hh
  have c1 : (m.pri != 4) = false := by rw [hh.1.1]; rfl
  have c2 : (m.ttl != 0) = false := by rw [hh.1.2]; rfl
  have c3 : (m.cnt != 0) = false := by rw [hh.2]; rfl
  generalize putS 115 [.mk 20 0 m.id []] = J at *
  generalize wrV (datV m.body) = W at *
  have u5 : (wrV J).size + W.size ≤ 140737488355328 := by omega
  unfold Msg.d
  refine (ev_body ⟨[1], [(0, [5, 93, 94, 95])], [(5, [(0, 0, false), (1, 0, false), (2, 0, false), (3, 0, false), (4, 0, false), (5, 0, false), (6, 0, false), (7, 0, false), (8, 0, false), (9, 0, false), (10, 0, false), (11, 0, false), (12, 0, false), (13, 0, false), (14, 0, false), (15, 0, false), (16, 0, false), (17, 0, false), (18, 0, false), (19, 0, false), (20, 0, false), (21, 0, false), (22, 0, false), (23, 0, false), (24, 0, false), (25, 0, false), (26, 0, false), (27, 0, true), (28, 1, false)]), (8, [(0, 0, false), (1, 0, false), (2, 0, false), (3, 0, false), (4, 0, false), (5, 0, false), (6, 0, false), (7, 0, false), (8, 0, true), (9, 1, false)])], true, [], noIt⟩ [.tmp 2, .tmp 3] rfl Tryz.func13 rfl rfl rfl (by kernel_rfl) (by show 1 ≤ 112; decide) (by kernel_rfl)).trans ?_
  simp +contextual (maxSteps := 10000000) only [go_sem, g1, g2, hu, g4, gi, n1, t1, d1, t2, f2, c1, c2, c3]
  rw [lpK_go]
  simp +contextual (maxSteps := 10000000) only [go_sem, q2, v1, v3]
  rw [lpK_go]
  simp +contextual (maxSteps := 10000000) only [go_sem, q1, w1, w3, u5, bytesD_one]
  rw [lpK_go]
  simp +contextual (maxSteps := 10000000) only [go_sem]
set_option maxHeartbeats 8000000 in
theorem put_4 (m : Msg) (hm : m.ok) (h : mayM m = true) (hh : hasH m = true) (hi : ¬ m.id.size = 0) : EV 13 [m.d] [] = some (.ret (.tup [.ro false (bytesD (wrV (putS 112 (hdrL m)) ++ wrV (putS 115 [.mk 20 0 m.id []]) ++ wrV (datV m.body))), I 0]), []) := by
  obtain ⟨p1, p2, p3, p4⟩ := may_parts h
  have g1 : decide ((9 : Int) < m.pri) = false := decide_eq_false (by omega)
  have g2 : decide ((64 : Int) < m.id.size) = false := decide_eq_false (by omega)
  have g4 : decide ((2048 : Int) < m.body.size) = false := decide_eq_false (by omega)
  have hu := uright_c m.id (by omega)
  rw [p3] at hu
  have n1 := number_c 6 117
  have t1 := text_c 19 m.body
  have d1 := desc_c (.mk 6 117 ⟨#[]⟩ []) (.mk 19 0 m.body []) (by have := dat_sz0 m.body; omega)
  have q1 : EV 25 [(Val.mk 25 0 ⟨#[]⟩ [.mk 6 117 ⟨#[]⟩ [], .mk 19 0 m.body []]).d] [] = some (.ret (.tup [.ref 0 0 1 0 (wrV (datV m.body)).size, I 0]), [some ⟨0, bytesD (wrV (datV m.body))⟩]) := menc_ok (datV m.body) (by rw [dat_sz]; omega) (dat_wf _) (dat_right _)
  have w1 : ¬ (wrV (datV m.body)).size = 0 := by have := wr_pos (datV m.body); omega
  have w2 : (wrV (datV m.body)).size ≤ 25000 := by have := wr_sz (datV m.body); have := dat_sz m.body; omega
  have w3 : (wrV (datV m.body)).size ≤ 140737488355328 := by omega
  have gi : decide (m.id = ⟨#[]⟩) = false := decide_eq_false (fun e => hi (by rw [e]; rfl))
  have hI := right_flat (code := 115) (prp_flat p3) (by simp)
  have zI : (putS 115 [.mk 20 0 m.id []]).sz ≤ 200 := by
    have := put_sz 115 [Val.mk 20 0 m.id []]
    have e : Val.szL [Val.mk 20 0 m.id []] = m.id.size + 0 + 1 + 0 := rfl
    omega
  have wI : (putS 115 [.mk 20 0 m.id []]).wf := putS_wf 115 (by decide) ⟨⟨by decide, trivial⟩, trivial⟩
  have t2 := text_c 20 m.id
  have f2 := fput_c 115 [.mk 20 0 m.id []] (by have e : Val.szL [Val.mk 20 0 m.id []] = m.id.size + 0 + 1 + 0 := rfl; omega)
  simp only [List.map_cons, List.map_nil] at f2
  have q2 := menc_ok (putS 115 [.mk 20 0 m.id []]) (by omega) wI hI
  have v1 : ¬ (wrV (putS 115 [.mk 20 0 m.id []])).size = 0 := by have := wr_pos (putS 115 [.mk 20 0 m.id []]); omega
  have v2 : (wrV (putS 115 [.mk 20 0 m.id []])).size ≤ 2500 := by have := wr_sz (putS 115 [.mk 20 0 m.id []]); omega
  have v3 : (wrV (putS 115 [.mk 20 0 m.id []])).size ≤ 140737488355328 := by omega
  have hH := right_flat (code := 112) (hdr_flat m hm) (by simp [hdrL])
  have zH : (putS 112 (hdrL m)).sz ≤ 100 := by have := put_sz 112 (hdrL m); have := hdrL_sz m; omega
  have wH := putS_wf 112 (by decide) (hdrL_wf m hm)
  obtain ⟨hp, ht, hc⟩ := hm
  have x1 := wrap_u64_id (n := m.pri) (by omega) (by omega)
  have x2 := wrap_u64_id (n := m.ttl) (by omega) (by omega)
  have x3 := wrap_u64_id (n := m.cnt) (by omega) (by omega)
  have l1 := unless_c (m.pri == 4) 3 m.pri
  have l2 := unless_c (m.ttl == 0) 5 m.ttl
  have l3 := unless_c (m.cnt == 0) 5 m.cnt
  have f1 := fput_c 112 (hdrL m) (by have := hdrL_sz m; omega)
  rw [hdr_args] at f1
  have nl := null_c
  generalize (if (m.pri == 4) = true then vN else Val.mk 3 m.pri ⟨#[]⟩ []) = A at *
  generalize (if (m.ttl == 0) = true then vN else Val.mk 5 m.ttl ⟨#[]⟩ []) = B at *
  generalize (if (m.cnt == 0) = true then vN else Val.mk 5 m.cnt ⟨#[]⟩ []) = C at *
  have q0 := menc_ok (putS 112 (hdrL m)) (by omega) wH hH
  have u1 : ¬ (wrV (putS 112 (hdrL m))).size = 0 := by have := wr_pos (putS 112 (hdrL m)); omega
  have u2 : (wrV (putS 112 (hdrL m))).size ≤ 1000 := by have := wr_sz (putS 112 (hdrL m)); omega
  have u3 : (wrV (putS 112 (hdrL m))).size ≤ 140737488355328 := by omega
  generalize putS 112 (hdrL m) = H at *
  generalize putS 115 [.mk 20 0 m.id []] = J at *
  generalize wrV (datV m.body) = W at *
  have u4 : (wrV H).size + (wrV J).size ≤ 140737488355328 := by omega
  have u5 : (wrV H).size + (wrV J).size + W.size ≤ 140737488355328 := by omega
  unfold Msg.d
  refine (ev_body ⟨[1], [(0, [5, 93, 94, 95])], [(5, [(0, 0, false), (1, 0, false), (2, 0, false), (3, 0, false), (4, 0, false), (5, 0, false), (6, 0, false), (7, 0, false), (8, 0, false), (9, 0, false), (10, 0, false), (11, 0, false), (12, 0, false), (13, 0, false), (14, 0, false), (15, 0, false), (16, 0, false), (17, 0, false), (18, 0, false), (19, 0, false), (20, 0, false), (21, 0, false), (22, 0, false), (23, 0, false), (24, 0, false), (25, 0, false), (26, 0, false), (27, 0, true), (28, 1, false)]), (8, [(0, 0, false), (1, 0, false), (2, 0, false), (3, 0, false), (4, 0, false), (5, 0, false), (6, 0, false), (7, 0, false), (8, 0, true), (9, 1, false)])], true, [], noIt⟩ [.tmp 2, .tmp 3] rfl Tryz.func13 rfl rfl rfl (by kernel_rfl) (by show 1 ≤ 112; decide) (by kernel_rfl)).trans ?_
  unfold hasH at hh
  by_cases c1 : m.pri = 4
  · have d1' : (m.pri != 4) = false := by rw [c1]; rfl
    by_cases c2 : m.ttl = 0
    · have d2 : (m.ttl != 0) = false := by rw [c2]; rfl
      have d3 : (m.cnt != 0) = true := by rw [d1', d2] at hh; simpa using hh
      simp +contextual (maxSteps := 10000000) only [go_sem, g1, g2, hu, g4, gi, n1, t1, d1, t2, f2, x1, x2, x3, l1, l2, l3, nl, f1, d1', d2, d3]
      rw [lpK_go]
      simp +contextual (maxSteps := 10000000) only [go_sem, q0, u1, u3]
      rw [lpK_go]
      simp +contextual (maxSteps := 10000000) only [go_sem, q2, v1, v3, u1, u4, bytesD_one]
      rw [lpK_go]
      simp +contextual (maxSteps := 10000000) only [go_sem, q1, w1, w3, u5, bytesD_one]
      rw [lpK_go]
      simp +contextual (maxSteps := 10000000) only [go_sem]
    · have d2 : (m.ttl != 0) = true := by simpa using c2
      simp +contextual (maxSteps := 10000000) only [go_sem, g1, g2, hu, g4, gi, n1, t1, d1, t2, f2, x1, x2, x3, l1, l2, l3, nl, f1, d1', d2]
      rw [lpK_go]
      simp +contextual (maxSteps := 10000000) only [go_sem, q0, u1, u3]
      rw [lpK_go]
      simp +contextual (maxSteps := 10000000) only [go_sem, q2, v1, v3, u1, u4, bytesD_one]
      rw [lpK_go]
      simp +contextual (maxSteps := 10000000) only [go_sem, q1, w1, w3, u5, bytesD_one]
      rw [lpK_go]
      simp +contextual (maxSteps := 10000000) only [go_sem]
  · have d1' : (m.pri != 4) = true := by simpa using c1
    simp +contextual (maxSteps := 10000000) only [go_sem, g1, g2, hu, g4, gi, n1, t1, d1, t2, f2, x1, x2, x3, l1, l2, l3, nl, f1, d1']
    rw [lpK_go]
    simp +contextual (maxSteps := 10000000) only [go_sem, q0, u1, u3]
    rw [lpK_go]
    simp +contextual (maxSteps := 10000000) only [go_sem, q2, v1, v3, u1, u4, bytesD_one]
    rw [lpK_go]
    simp +contextual (maxSteps := 10000000) only [go_sem, q1, w1, w3, u5, bytesD_one]
    rw [lpK_go]
    simp +contextual (maxSteps := 10000000) only [go_sem]
end Go.Bw.R1

/- message.Put told whole; message.Get. -/
namespace Go.Bw.R1
set_option maxRecDepth 5000
open Go Go.Bw Go.Proofs
def putB (m : Msg) : ByteArray := (if hasH m = true then wrV (putS 112 (hdrL m)) else ⟨#[]⟩) ++ (if m.id.size = 0 then ⟨#[]⟩ else wrV (putS 115 [.mk 20 0 m.id []])) ++ wrV (datV m.body)
theorem toL_putB (m : Msg) : toL (putB m) = bytesM (secsS m) := by
  unfold putB secsS bytesM
  rw [toL_app, toL_app]
  by_cases h1 : hasH m = true
  · by_cases h2 : m.id.size = 0
    · simp only [if_pos h1, if_pos h2, List.append_nil, List.flatMap_append, List.flatMap_cons, List.flatMap_nil, toL_e]
    · simp only [if_pos h1, if_neg h2, List.append_nil, List.flatMap_append, List.flatMap_cons, List.flatMap_nil, toL_e]
  · by_cases h2 : m.id.size = 0
    · simp only [if_neg h1, if_pos h2, List.append_nil, List.nil_append, List.flatMap_append, List.flatMap_cons, List.flatMap_nil, toL_e]
    · simp only [if_neg h1, if_neg h2, List.append_nil, List.nil_append, List.flatMap_append, List.flatMap_cons, List.flatMap_nil, toL_e]
theorem put_ok (m : Msg) (hm : m.ok) (h : mayM m = true) : EV 13 [m.d] [] = some (.ret (.tup [.ro false (bytesD (putB m)), I 0]), []) := by
  unfold putB
  cases hh : hasH m with
  | true =>
    by_cases hi : m.id.size = 0
    · rw [put_2 m hm h hh hi, if_pos rfl, if_pos hi, ba_app_nil]
    · rw [put_4 m hm h hh hi, if_pos rfl, if_neg hi]
  | false =>
    by_cases hi : m.id.size = 0
    · rw [put_1 m hm h hh hi, if_neg (by decide), if_pos hi, ba_app_nil, ba_nil_app]
    · rw [put_3 m hm h hh hi, if_neg (by decide), if_neg hi, ba_nil_app]
def GetR (o : Option Msg) : R := match o with | some m => .ret (.tup [m.d, I 0]) | none => .ret (.tup [.agg [.sc (.int .u8 0), .sc (.int .u32 0), .sc (.int .u32 0), .sc (.string ⟨#[]⟩), .ro false []], I 6])
theorem sect_rng (v : Val) : -1 ≤ sectS v ∧ sectS v ≤ 8 := by
  unfold sectS
  split
  · split
    · split
      · have := idxB_lt (Val.text ‹_›) nmT 0 (by omega)
        have hl9 : nmT.length = 9 := rfl
        omega
      · split <;> omega
    · omega
  · omega
theorem sect_kids {v : Val} (hr : rightS v = true) (h : 0 ≤ sectS v) : ∃ d x, v.kids = [d, x] := by
  by_cases hk : v.kind = 25
  · obtain ⟨d, x, hkk, _, _⟩ := may_desc (right_may hr) hk
    exact ⟨d, x, hkk⟩
  · unfold sectS at h; rw [if_neg hk] at h; omega
theorem hdr_x {m m' : Msg} {v : Val} (h : hdrS m v = some m') : hdrX m v = m' := by
  unfold hdrS at h
  unfold hdrX
  cases hn : newS v 112 nmB0 with
  | none => rw [hn] at h; cases h
  | some l =>
    rw [hn] at h
    dsimp only at h ⊢
    split at h
    · injection h
    · cases h
theorem prp_x {m m' : Msg} {v : Val} (h : prpS m v = some m') : prpX m v = m' := by
  unfold prpS at h
  unfold prpX
  cases hn : newS v 115 nmB3 with
  | none => rw [hn] at h; cases h
  | some l =>
    rw [hn] at h
    dsimp only at h ⊢
    split at h
    · injection h
    · cases h
theorem take_x {m m' : Msg} {c : Int} {v : Val} (h : takeS m c v = some m') : takeX m c v = m' := by
  unfold takeS at h
  unfold takeX
  by_cases h0 : c = 0
  · rw [if_pos h0] at h ⊢; exact hdr_x h
  rw [if_neg h0] at h ⊢
  by_cases h3 : c = 3
  · rw [if_pos h3] at h ⊢; exact prp_x h
  rw [if_neg h3] at h ⊢
  by_cases h5 : c = 5
  · rw [if_pos h5] at h ⊢
    split at h
    · injection h
    · cases h
  rw [if_neg h5] at h ⊢
  split at h
  · cases h
  · split at h
    · injection h
    · cases h
theorem takeX_body (m : Msg) (c : Int) (v : Val) : (takeX m c v).body = if c = 5 then m.body ++ (snd' v).text else m.body := by
  unfold takeX
  by_cases h0 : c = 0
  · rw [if_pos h0, hdrX_body, if_neg (by omega)]
  rw [if_neg h0]
  by_cases h3 : c = 3
  · rw [if_pos h3, prpX_body, if_neg (by omega)]
  rw [if_neg h3]
  by_cases h5 : c = 5
  · rw [if_pos h5, if_pos h5]
  · rw [if_neg h5, if_neg h5]
theorem snd_tsz (v : Val) : (snd' v).text.size ≤ v.sz := by
  unfold snd'
  have h1 := sz_kids v
  split
  · rename_i d x hk
    rw [hk] at h1
    simp only [Val.szL] at h1
    have h2 : x.text.size ≤ x.sz := by cases x with | mk k n t l => simp only [Val.text, Val.sz]; omega
    omega
  · cases v with | mk k n t l => simp only [Val.text, Val.sz]; omega
def zM : Option En := some ⟨0, [.sc (.int .u8 0), .sc (.int .u32 0), .sc (.int .u32 0), .sc (.string ⟨#[]⟩), .nils]⟩
def mT (m : Msg) (w : Nat) : Sto := if m.body.size = 0 then [zM, mR m .nils] else [zM, mR m (.ref 2 w 1 0 m.body.size), some ⟨w, bytesD m.body⟩]
theorem mT_nil {m : Msg} {w : Nat} (h : m.body.size = 0) : mT m w = [zM, mR m .nils] := if_pos h
theorem mT_row {m : Msg} {w : Nat} (h : ¬ m.body.size = 0) : mT m w = [zM, mR m (.ref 2 w 1 0 m.body.size), some ⟨w, bytesD m.body⟩] := if_neg h
def frG (b : ByteArray) (last : Int) (bd : Bool) : Fr := [(0, .ro false (bytesD b)), (2, .ptr 0 0 0), (4, .ptr 1 0 0), (5, I last), (6, B bd)]
def PG (s : ByteArray) (m0 : Nat) (f : Fr) (es : Sto) : Prop := ∃ (b : ByteArray) (mm : Msg) (last : Int) (bd : Bool) (w n : Nat), b.size ≤ m0 ∧ (-1 ≤ last ∧ last ≤ 8) ∧ mm.body.size + 1100 * b.size ≤ 39600000000 ∧ b.size < n ∧ getM (toL s) = getF n mm last bd (toL b) ∧ f = frG b last bd ∧ es = mT mm w
set_option maxHeartbeats 8000000 in
theorem get_c (s : ByteArray) (hs : s.size ≤ 36000000) : EM 18 [.ro false (bytesD s)] [] = some (GetR (getM (toL s)), []) := by
  refine (ev_body ⟨[], [(0, [0, 2, 4, 5, 6]), (1000000, [0, 2, 4, 5, 6])], [(15, [(0, 0, false), (1, 0, false), (2, 0, false), (3, 0, false), (4, 0, false), (5, 0, false)])], true, [], noIt⟩ [.cell 2 25, .tmp 3] rfl Tryz.func18 rfl rfl rfl (by kernel_rfl) (by show 1 ≤ 69; decide) (by kernel_rfl)).trans ?_
  simp +contextual (maxSteps := 10000000) only [go_sem]
  rw [run_scope 0 rfl rfl]
  simp +contextual (maxSteps := 10000000) only [go_sem]
  refine lpK_inv (PG s) s.size ⟨s, m0S, -1, false, 0, (toL s).length + 1, Nat.le_refl _, by omega, by show 0 + _ ≤ _; omega, by rw [toL_len]; omega, rfl, rfl, rfl⟩ ?_
  rintro m0 _ _ ⟨b, mm, last, bd, w, n, hbm, hlast, hB, hn, hg, rfl, rfl⟩ ih
  obtain ⟨n, rfl⟩ : ∃ k, n = k + 1 := ⟨n - 1, by omega⟩
  have hg0 := hg
  rw [hg]
  clear hg
  rw [getF]
  unfold frG
  by_cases hb : b.size = 0
  · have g0 : decide ((0 : Int) < b.size) = false := decide_eq_false (by omega)
    have ge : (toL b).isEmpty = true := by
      have := toL_len b
      cases h : toL b with
      | nil => rfl
      | cons x t => rw [h] at this; simp at this; omega
    rw [if_pos ge]
    by_cases hr : mm.body.size = 0
    · have hbn : bytesD mm.body = [] := by rw [show mm.body = e0 from ByteArray.ext (Array.eq_empty_of_size_eq_zero hr)]; rfl
      cases bd with
      | false =>
        rw [mT_nil hr, if_neg (fun h => Bool.false_ne_true h.1)]
        unfold mR zM
        simp +contextual (maxSteps := 10000000) only [go_sem, g0]
        rfl
      | true =>
        rw [mT_nil hr, if_pos ⟨rfl, by omega⟩]
        unfold mR zM GetR Msg.d
        dsimp only
        rw [hbn]
        simp +contextual (maxSteps := 10000000) only [go_sem, g0]
    · cases bd with
      | false =>
        rw [mT_row hr, if_neg (fun h => Bool.false_ne_true h.1)]
        unfold mR zM
        simp +contextual (maxSteps := 10000000) only [go_sem, g0]
        rfl
      | true =>
        rw [mT_row hr]
        by_cases hm : mm.body.size ≤ 2048
        · have g1 : decide ((2048 : Int) < mm.body.size) = false := decide_eq_false (by omega)
          rw [if_pos ⟨rfl, hm⟩]
          unfold mR zM GetR Msg.d
          simp +contextual (maxSteps := 10000000) only [go_sem, g0, g1]
        · have g1 : decide ((2048 : Int) < mm.body.size) = true := decide_eq_true (by omega)
          rw [if_neg (fun h => hm h.2)]
          unfold mR zM
          simp +contextual (maxSteps := 10000000) only [go_sem, g0, g1]
          rfl
  · have g0 : decide ((0 : Int) < b.size) = true := decide_eq_true (by omega)
    have ge : ¬ (toL b).isEmpty = true := by
      have := toL_len b
      cases h : toL b with
      | nil => rw [h] at this; simp at this; omega
      | cons x t => simp
    rw [if_neg ge]
    have q1 := em_of (f := 31) rfl (decode_c b (by omega))
    cases hd : decS (toL b) with
    | error e =>
      rw [hd] at q1
      unfold decR at q1
      have he : (e != 0) = true := by have := decS_e hd; simpa using this
      by_cases hr : mm.body.size = 0
      · rw [mT_nil hr]
        unfold mR zM
        simp +contextual (maxSteps := 10000000) only [go_sem, g0, q1, he]
        rfl
      · rw [mT_row hr]
        unfold mR zM
        simp +contextual (maxSteps := 10000000) only [go_sem, g0, q1, he]
        rfl
    | ok p =>
      obtain ⟨v, k⟩ := p
      rw [hd] at q1
      unfold decR at q1
      dsimp only at q1 ⊢
      obtain ⟨k1, k2, _, _, _, hright⟩ := own_ok hd
      obtain ⟨hwf, hsz, _⟩ := decS_val hd
      have q2 := em_ev (f := 43) rfl rfl (section_c v hright hwf)
      rw [toL_len] at k2
      have hrng := sect_rng v
      have hk2 : (k ≤ b.size) = True := eq_true k2
      have hall : ((bytesD b).all fun e => e.cells.length == 1) = true := List.all_eq_true.2 fun x hx => by
        unfold bytesD at hx
        obtain ⟨y, _, rfl⟩ := List.mem_map.1 hx
        rfl
      have htk : List.take b.size (bytesD b) = bytesD b := List.take_of_length_le (by rw [bytesD_len]; omega)
      have hdr : List.drop k (bytesD b) = bytesD (b.extract k b.size) := by
        have := bytesD_part b k (b.size - k)
        rw [show k + (b.size - k) = b.size by omega, List.take_of_length_le (by rw [List.length_drop, bytesD_len]; omega)] at this
        exact this
      have hdl : toL (b.extract k b.size) = (toL b).drop k := by rw [toL_ext]; exact List.take_of_length_le (by rw [List.length_drop, toL_len]; omega)
      have wc : IntKind.i64.wrap (sectS v + 112) = sectS v + 112 := wrap_i64 (by omega) (by omega)
      unfold stepM
      by_cases hc : last < sectS v ∨ (sectS v = last ∧ sectS v = 5)
      · rw [if_pos hc]
        obtain ⟨d, x, hk⟩ := sect_kids hright (by omega)
        have hsnd : snd' v = x := by unfold snd'; rw [hk]
        have hsx := snd_tsz v
        have t1 := take_c mm (sectS v) v d x hk hwf (by omega) (by omega) (by omega) (by rw [hsnd] at hsx; omega)
        have hY := takeX_body mm (sectS v) v
        have hX := fun m' => @take_x mm m' (sectS v) v
        generalize takeX mm (sectS v) v = Y at *
        generalize takeW mm (sectS v) v = tw at *
        have h13 : (decide (last < sectS v) = true ∧ (sectS v == last) = false) ∨ (decide (last < sectS v) = false ∧ (sectS v == last) = true ∧ (sectS v + 112 == 117) = true) := by
          rcases hc with hc | ⟨hc, hc'⟩
          · exact .inl ⟨decide_eq_true hc, by rw [beq_eq_false_iff_ne]; omega⟩
          · exact .inr ⟨decide_eq_false (by omega), by rw [beq_iff_eq]; exact hc, by rw [hc']; rfl⟩
        cases hT : takeS mm (sectS v) v with
        | none =>
          rw [hT] at t1
          dsimp only
          rw [Option.isSome_none] at t1
          by_cases hr : mm.body.size = 0
          · rw [mT_nil hr]
            rw [mS_nil hr] at t1
            by_cases hy : Y.body.size = 0
            · rw [mS_nil hy] at t1
              unfold mR at t1 ⊢
              unfold zM
              rcases h13 with ⟨h1, h3⟩ | ⟨h1, h3, h4⟩
              · simp +contextual (maxSteps := 10000000) only [go_sem, g0, q1, q2, wc, h1, h3, t1]
                rfl
              · simp +contextual (maxSteps := 10000000) only [go_sem, g0, q1, q2, wc, h1, h3, h4, t1]
                rfl
            · rw [mS_row hy] at t1
              unfold mR at t1 ⊢
              unfold zM
              rcases h13 with ⟨h1, h3⟩ | ⟨h1, h3, h4⟩
              · simp +contextual (maxSteps := 10000000) only [go_sem, g0, q1, q2, wc, h1, h3, t1]
                rfl
              · simp +contextual (maxSteps := 10000000) only [go_sem, g0, q1, q2, wc, h1, h3, h4, t1]
                rfl
          · have hy : ¬ Y.body.size = 0 := by
              rw [hY]
              split
              · rw [ByteArray.size_append]; omega
              · exact hr
            rw [mT_row hr]
            rw [mS_row hr, mS_row hy] at t1
            unfold mR at t1 ⊢
            unfold zM
            rcases h13 with ⟨h1, h3⟩ | ⟨h1, h3, h4⟩
            · simp +contextual (maxSteps := 10000000) only [go_sem, g0, q1, q2, wc, h1, h3, t1]
              rfl
            · simp +contextual (maxSteps := 10000000) only [go_sem, g0, q1, q2, wc, h1, h3, h4, t1]
              rfl
        | some m' =>
          rw [hT] at t1
          obtain rfl := hX m' hT
          dsimp only
          rw [Option.isSome_some] at t1
          have hg2 : getM (toL s) = getF n Y (sectS v) (bd || (sectS v == 5)) (List.drop k (toL b)) := by
            rw [hg0, getF, if_neg ge, hd]
            dsimp only
            unfold stepM
            rw [if_pos hc, hT]
          rw [← hg2]
          rw [← hdl] at hg2
          have hz1 : (b.extract k b.size).size = b.size - k := by rw [ByteArray.size_extract]; omega
          have hzY : Y.body.size + 1100 * (b.extract k b.size).size ≤ 39600000000 := by
            rw [hz1, hY]
            split
            · rw [ByteArray.size_append]; omega
            · omega
          have hq : (sectS v + 112 == 117) = (sectS v == 5) := by
            by_cases h : sectS v = 5
            · rw [h]; rfl
            · rw [beq_eq_false_iff_ne.2 h, beq_eq_false_iff_ne]; omega
          by_cases hr : mm.body.size = 0
          · rw [mT_nil hr]
            rw [mS_nil hr] at t1
            by_cases hy : Y.body.size = 0
            · rw [mS_nil hy] at t1
              unfold mR at t1 ⊢
              unfold zM
              rcases h13 with ⟨h1, h3⟩ | ⟨h1, h3, h4⟩
              · simp +contextual (maxSteps := 10000000) only [go_sem, g0, q1, q2, wc, h1, h3, t1, hk2, hall, htk, hdr, hq]
                exact ih (b.extract k b.size).size _ _ (by omega) ⟨b.extract k b.size, Y, sectS v, (bd || (sectS v == 5)), 0, n, Nat.le_refl _, hrng, hzY, by omega, hg2, rfl, (mT_nil hy).symm⟩
              · simp +contextual (maxSteps := 10000000) only [go_sem, g0, q1, q2, wc, h1, h3, h4, t1, hk2, hall, htk, hdr, hq]
                have hq5 : (sectS v == 5) = true := by rw [← hq]; exact h4
                exact ih (b.extract k b.size).size _ _ (by omega) ⟨b.extract k b.size, Y, sectS v, (bd || (sectS v == 5)), 0, n, Nat.le_refl _, hrng, hzY, by omega, hg2, (by unfold frG; rw [hq5, Bool.or_true]; rfl), (mT_nil hy).symm⟩
            · rw [mS_row hy] at t1
              unfold mR at t1 ⊢
              unfold zM
              rcases h13 with ⟨h1, h3⟩ | ⟨h1, h3, h4⟩
              · simp +contextual (maxSteps := 10000000) only [go_sem, g0, q1, q2, wc, h1, h3, t1, hk2, hall, htk, hdr, hq]
                exact ih (b.extract k b.size).size _ _ (by omega) ⟨b.extract k b.size, Y, sectS v, (bd || (sectS v == 5)), 0, n, Nat.le_refl _, hrng, hzY, by omega, hg2, rfl, (mT_row hy).symm⟩
              · simp +contextual (maxSteps := 10000000) only [go_sem, g0, q1, q2, wc, h1, h3, h4, t1, hk2, hall, htk, hdr, hq]
                have hq5 : (sectS v == 5) = true := by rw [← hq]; exact h4
                exact ih (b.extract k b.size).size _ _ (by omega) ⟨b.extract k b.size, Y, sectS v, (bd || (sectS v == 5)), 0, n, Nat.le_refl _, hrng, hzY, by omega, hg2, (by unfold frG; rw [hq5, Bool.or_true]; rfl), (mT_row hy).symm⟩
          · have hy : ¬ Y.body.size = 0 := by
              rw [hY]
              split
              · rw [ByteArray.size_append]; omega
              · exact hr
            rw [mT_row hr]
            rw [mS_row hr, mS_row hy] at t1
            unfold mR at t1 ⊢
            unfold zM
            rcases h13 with ⟨h1, h3⟩ | ⟨h1, h3, h4⟩
            · simp +contextual (maxSteps := 10000000) only [go_sem, g0, q1, q2, wc, h1, h3, t1, hk2, hall, htk, hdr, hq]
              exact ih (b.extract k b.size).size _ _ (by omega) ⟨b.extract k b.size, Y, sectS v, (bd || (sectS v == 5)), 0, n, Nat.le_refl _, hrng, hzY, by omega, hg2, rfl, (mT_row hy).symm⟩
            · simp +contextual (maxSteps := 10000000) only [go_sem, g0, q1, q2, wc, h1, h3, h4, t1, hk2, hall, htk, hdr, hq]
              have hq5 : (sectS v == 5) = true := by rw [← hq]; exact h4
              exact ih (b.extract k b.size).size _ _ (by omega) ⟨b.extract k b.size, Y, sectS v, (bd || (sectS v == 5)), 0, n, Nat.le_refl _, hrng, hzY, by omega, hg2, (by unfold frG; rw [hq5, Bool.or_true]; rfl), (mT_row hy).symm⟩
      · rw [if_neg hc]
        have h1 : decide (last < sectS v) = false := decide_eq_false (by omega)
        by_cases h2 : sectS v = last
        · have h3 : (sectS v == last) = true := by simpa using h2
          have h4 : (sectS v + 112 == 117) = false := by rw [beq_eq_false_iff_ne]; omega
          by_cases hr : mm.body.size = 0
          · rw [mT_nil hr]
            unfold mR zM
            simp +contextual (maxSteps := 10000000) only [go_sem, g0, q1, q2, wc, h1, h3, h4]
            rfl
          · rw [mT_row hr]
            unfold mR zM
            simp +contextual (maxSteps := 10000000) only [go_sem, g0, q1, q2, wc, h1, h3, h4]
            rfl
        · have h3 : (sectS v == last) = false := by simpa using h2
          by_cases hr : mm.body.size = 0
          · rw [mT_nil hr]
            unfold mR zM
            simp +contextual (maxSteps := 10000000) only [go_sem, g0, q1, q2, wc, h1, h3]
            rfl
          · rw [mT_row hr]
            unfold mR zM
            simp +contextual (maxSteps := 10000000) only [go_sem, g0, q1, q2, wc, h1, h3]
            rfl
end Go.Bw.R1

/- law10: same, works. -/
namespace Go.Bw.R1
set_option maxRecDepth 5000
open Go Go.Bw Go.Proofs
theorem eqb_ll (a b : ByteArray) : EV 15 [.ro false (bytesD a), .ro false (bytesD b)] [] = some (.ret (B (decide (a = b))), []) := by
  refine (ev_body ⟨[], [], [], false, [], noIt⟩ [.tmp 4] rfl Tryz.func15 rfl rfl rfl (by kernel_rfl) (by show 2 ≤ 17; decide) (by kernel_rfl)).trans ?_
  simp +contextual (maxSteps := 10000000) only [go_sem, txtLe_eq]
def sameM (a b : Msg) : Bool := a.pri == b.pri && a.ttl == b.ttl && a.cnt == b.cnt && decide (a.id = b.id) && decide (a.body = b.body)
theorem sameM_self (a : Msg) : sameM a a = true := by unfold sameM; simp
theorem same_m (a b : Msg) : EV 20 [a.d, b.d] [] = some (.ret (B (sameM a b)), []) := by
  unfold Msg.d sameM
  refine (ev_body ⟨[2, 3], [], [], false, [], noIt⟩ [.tmp 4] rfl Tryz.func20 rfl rfl rfl (by kernel_rfl) (by show 2 ≤ 38; decide) (by kernel_rfl)).trans ?_
  simp +contextual (maxSteps := 10000000) only [go_sem, eqb_ll]
abbrev M9 : Msg := ⟨9, 0, 0, ⟨#[109]⟩, ⟨#[104, 105]⟩⟩
theorem ok9 : M9.ok := ⟨by decide, by decide, by decide⟩
theorem put9 : putB M9 = ⟨#[0, 83, 112, 192, 4, 2, 64, 80, 9, 0, 83, 115, 192, 4, 1, 161, 1, 109, 0, 83, 117, 160, 2, 104, 105]⟩ := by kernel_rfl
theorem b9_2 : (bytesD (⟨#[0, 83, 112, 192, 4, 2, 64, 80, 9, 0, 83, 115, 192, 4, 1, 161, 1, 109, 0, 83, 117, 160, 2, 104, 105]⟩ : ByteArray))[2]? = some (.sc (.int .u8 112)) := rfl
theorem get9 : getM (toL (putB M9)) = some M9 := by rw [toL_putB]; exact get_put M9 ok9 (by kernel_rfl)
theorem get_nil : EM 18 [.nils] [] = some (GetR none, []) := by
  refine (ev_body ⟨[], [(0, [0, 2, 4, 5, 6]), (1000000, [0, 2, 4, 5, 6])], [(15, [(0, 0, false), (1, 0, false), (2, 0, false), (3, 0, false), (4, 0, false), (5, 0, false)])], true, [], noIt⟩ [.cell 2 25, .tmp 3] rfl Tryz.func18 rfl rfl rfl (by kernel_rfl) (by show 1 ≤ 69; decide) (by kernel_rfl)).trans ?_
  simp +contextual (maxSteps := 10000000) only [go_sem]
  rw [run_scope 0 rfl rfl]
  simp +contextual (maxSteps := 10000000) only [go_sem]
  rw [lpK_go]
  simp +contextual (maxSteps := 10000000) only [go_sem]
  rfl
def HI : ByteArray := ⟨#[104, 105]⟩
theorem hi_row : bsRowD Tryz.prog (stL []) 23 2 [(0, .sc (.int .u8 104)), (1, .sc (.int .u8 105))] = some (.ref 0 0 1 0 HI.size, stL [some ⟨0, bytesD HI⟩]) := by
  unfold bsRowD
  rw [show elOf Tryz.prog 23 = some (5, 1) by kernel_rfl]
  dsimp only
  rw [show zeroD Tryz.prog 5 = some [.sc (.int .u8 0)] by kernel_rfl]
  dsimp only
  rw [if_pos (by decide)]
  rw [show layD (fun i => some (i * 1, 1)) (repD [D.sc (.int .u8 0)] 2) [(0, D.sc (.int .u8 104)), (1, D.sc (.int .u8 105))] = some [.sc (.int .u8 104), .sc (.int .u8 105)] by rfl]
  dsimp only
  rw [if_pos (by rfl), stL_new]
  rfl
theorem hi_conv : cvRowD Tryz.prog (stL [some ⟨0, bytesD HI⟩]) 23 23 (.ref 0 0 1 0 HI.size) = some (.ref 0 0 1 0 HI.size) := by
  unfold cvRowD
  dsimp only
  rw [Tryz.underlying23, show (stL [some ⟨0, bytesD HI⟩]).tab 0 = some ⟨0, bytesD HI⟩ by rfl]
  dsimp only
  rw [Tryz.underlying5]
  dsimp only
  rw [if_pos ⟨rfl, rfl⟩]
set_option maxHeartbeats 2000000 in
theorem works10 : EM 11 [] [] = some (.ret (B true), []) := by
  have p1 : EM 13 [.agg [.sc (.int .u8 9), .sc (.int .u32 0), .sc (.int .u32 0), .sc (.string ⟨#[109]⟩), .ro false (bytesD HI)]] [] = some (.ret (.tup [.ro false (bytesD (putB M9)), I 0]), []) := em_ev (f := 13) rfl rfl (put_ok M9 ok9 (by kernel_rfl))
  have g1 : EM 18 [.ro false (bytesD (putB M9))] [] = some (.ret (.tup [.agg [.sc (.int .u8 9), .sc (.int .u32 0), .sc (.int .u32 0), .sc (.string ⟨#[109]⟩), .ro false (bytesD HI)], I 0]), []) := by
    have := get_c (putB M9) (by rw [put9]; decide)
    rw [get9] at this
    exact this
  have g0 : EM 18 [.nils] [] = some (.ret (.tup [.agg [.sc (.int .u8 0), .sc (.int .u32 0), .sc (.int .u32 0), .sc (.string ⟨#[]⟩), .ro false []], I 6]), []) := get_nil
  have s1 : EM 20 [.agg [.sc (.int .u8 9), .sc (.int .u32 0), .sc (.int .u32 0), .sc (.string ⟨#[109]⟩), .ro false (bytesD HI)], .agg [.sc (.int .u8 9), .sc (.int .u32 0), .sc (.int .u32 0), .sc (.string ⟨#[109]⟩), .ro false (bytesD HI)]] [] = some (.ret (B true), []) := em_ev (f := 20) rfl rfl (same_m M9 M9)
  rw [put9] at p1 g1
  refine (ev_body ⟨[8, 9], [], [], false, [(3000002, [9])], noIt⟩ [.tmp 0] rfl Tryz.func11 rfl rfl rfl (by kernel_rfl) (by show 0 ≤ 51; decide) (by kernel_rfl)).trans ?_
  simp +contextual (maxSteps := 10000000) only [go_sem, hi_row, hi_conv, p1, g1, g0, s1, b9_2]
end Go.Bw.R1

/- law10: what Put made Get tells as it was. -/
namespace Go.Bw.R1
set_option maxRecDepth 5000
open Go Go.Bw Go.Proofs
theorem large_c (m : Msg) : EV 10 [m.d] [] = some (.ret (B (decide ((4096 : Int) < m.id.size) || decide ((8192 : Int) < m.body.size))), []) := by
  unfold Msg.d
  refine (ev_body ⟨[1], [], [], false, [], noIt⟩ [.tmp 2] rfl Tryz.func10 rfl rfl rfl (by kernel_rfl) (by show 1 ≤ 13; decide) (by kernel_rfl)).trans ?_
  by_cases h : (4096 : Int) < m.id.size
  · have g1 : decide ((4096 : Int) < m.id.size) = true := decide_eq_true h
    rw [g1]
    simp +contextual (maxSteps := 10000000) only [go_sem, g1]
  · have g1 : decide ((4096 : Int) < m.id.size) = false := decide_eq_false h
    rw [g1]
    simp +contextual (maxSteps := 10000000) only [go_sem, g1]
abbrev mZ : Msg := ⟨0, 0, 0, ⟨#[]⟩, ⟨#[]⟩⟩
theorem get_r (s : ByteArray) (hs : s.size ≤ 36000000) : EM 18 [.ro false (bytesD s)] [] = some (match getM (toL s) with
    | some m => .ret (.tup [m.d, I 0])
    | none => .ret (.tup [mZ.d, I 6]), []) := by
  rw [get_c s hs]
  cases getM (toL s) <;> rfl
theorem putB_sz (m : Msg) (h : mayM m = true) : (putB m).size ≤ 36000 := by
  obtain ⟨_, p2, _, p4⟩ := may_parts h
  have h1 := wr_sz (datV m.body)
  rw [dat_sz] at h1
  have h2 := wr_sz (putS 112 (hdrL m))
  have h3 := put_sz 112 (hdrL m)
  have h4 := hdrL_sz m
  have h5 := wr_sz (putS 115 [.mk 20 0 m.id []])
  have h6 := put_sz 115 [Val.mk 20 0 m.id []]
  have e : Val.szL [Val.mk 20 0 m.id []] = m.id.size + 0 + 1 + 0 := rfl
  have e0 : (⟨#[]⟩ : ByteArray).size = 0 := rfl
  unfold putB
  rw [ByteArray.size_append, ByteArray.size_append]
  split <;> split <;> omega
end Go.Bw.R1

/- Own: a law over laid tables that reads messages. -/
namespace Go.Bw.R1
set_option maxRecDepth 5000
open Go Go.Bw Go.Proofs
theorem msg_arg {d : D} (h : Arg Tryz.prog 25 d) : ∃ m : Msg, m.ok ∧ Wk d m.d := by
  obtain ⟨x, hx, hw⟩ := MsgG.of_arg h
  exact ⟨⟨x.priority, x.ttl, x.count, x.id, x.body⟩, ⟨by have := hx.priority; dsimp only; omega, by have := hx.ttl; dsimp only; omega, by have := hx.count; dsimp only; omega⟩, hw⟩
end Go.Bw.R1

/- law10: data may be cut into sections. -/
namespace Go.Bw.R1
set_option maxRecDepth 5000
open Go Go.Bw Go.Proofs
/-- the laws' own table -/
def lawF (f : FuncId) : Bool := f == 6 || f == 7 || f == 8 || f == 9
def AnL (f : FuncId) : Ann := if f = 6 then ⟨[], [(0, [0, 1, 5, 6, 7])], [], false, [(3000011, [5, 6])], noIt⟩ else if f = 7 then ⟨[1], [(0, [1, 3, 4, 5, 6, 7]), (3, [1, 3, 4, 5, 12, 13])], [(22, [(0, 0, false), (1, 0, false), (2, 0, false), (3, 0, false), (4, 0, false), (5, 0, false), (6, 0, true), (7, 1, false), (8, 0, false), (9, 0, false), (10, 1, false), (11, 1, false)])], false, [(3000033, [3, 4])], noIt⟩ else if f = 8 then ⟨[2], [(0, [1, 2, 11, 12, 13])], [(6, [(0, 0, false), (1, 0, false), (2, 0, false), (3, 0, false), (4, 0, false), (5, 0, false), (6, 0, false), (7, 0, false), (8, 0, false), (9, 0, false), (10, 0, false), (11, 0, false), (12, 0, false), (13, 0, false), (14, 0, false), (15, 0, false)]), (12, [(0, 0, false), (1, 0, false), (5, 0, false), (8, 0, false), (9, 0, false), (11, 0, false), (2, 0, false), (3, 0, false), (4, 0, false), (6, 0, false), (7, 0, false), (10, 0, false), (12, 0, false), (13, 0, false), (14, 0, true), (15, 1, false)])], false, [(3000023, [11])], noIt⟩ else ⟨[3], [(0, [2, 7, 9, 10, 11])], [], false, [(3000020, [20])], noIt⟩
noncomputable def X4 : Orc := fun f ds es => if lawF f = true then none else EM f ds es
noncomputable abbrev EL : Orc := ev Tryz.prog gl0 AnL [] X4
theorem soundX4 (hm : Tryz.prog.follows .mixedOrders = true) : SoundO Tryz.prog gl0 X4 := by
  intro f ds es r ts h
  unfold X4 at h
  split at h
  · cases h
  · exact ev_sound an1_its (soundX3 hm) hm f ds es r ts h
theorem anl_its : ∀ f, SoundI Tryz.prog (AnL f).its := by
  intro f
  unfold AnL
  split
  · exact soundI_no
  · split
    · exact soundI_no
    · split <;> exact soundI_no
theorem el_of {f : FuncId} {ds : List D} {es : Sto} {r : R × Sto} (hf : lawF f = false) (h : EM f ds es = some r) : EL f ds es = some r := by
  refine ev_x ?_
  unfold X4
  rw [if_neg (by rw [hf]; decide)]
  exact h
theorem el_ev {f : FuncId} {ds : List D} {es : Sto} {r : R × Sto} (hf : lawF f = false) (h1 : own3 f = false) (hf2 : (own2 f || f == 54) = false) (h : EV f ds es = some r) : EL f ds es = some r := el_of hf (em_ev h1 hf2 h)
theorem worksL : EL 11 [] [] = some (.ret (B true), []) := el_of (f := 11) rfl works10
theorem getL_r (s : ByteArray) (hs : s.size ≤ 36000000) : EL 18 [.ro false (bytesD s)] [] = some (match getM (toL s) with
    | some m => .ret (.tup [m.d, I 0])
    | none => .ret (.tup [mZ.d, I 6]), []) := el_of (f := 18) rfl (get_r s hs)
theorem getL_nil : EL 18 [.nils] [] = some (.ret (.tup [mZ.d, I 6]), []) := el_of (f := 18) rfl get_nil
theorem sameEL (a b : Msg) : EL 20 [a.d, b.d] [] = some (.ret (B (sameM a b)), []) := el_ev (f := 20) rfl rfl rfl (same_m a b)
set_option maxHeartbeats 1000000 in
theorem mdata_c (b : ByteArray) (hb : b.size ≤ 30000000) : EV 21 [.ro false (bytesD b)] [] = some (.ret (.ro false (bytesD (wrV (datV b)))), []) := by
  have n1 := number_c 6 117
  have t1 := text_c 19 b
  have d1 := desc_c (.mk 6 117 ⟨#[]⟩ []) (.mk 19 0 b []) (by have := dat_sz0 b; omega)
  have q1 : EV 25 [(Val.mk 25 0 ⟨#[]⟩ [.mk 6 117 ⟨#[]⟩ [], .mk 19 0 b []]).d] [] = some (.ret (.tup [.ref 0 0 1 0 (wrV (datV b)).size, I 0]), [some ⟨0, bytesD (wrV (datV b))⟩]) := menc_ok (datV b) (by rw [dat_sz]; omega) (dat_wf _) (dat_right _)
  generalize wrV (datV b) = W at *
  refine (ev_body ⟨[], [], [(1, [(0, 0, false), (1, 0, false), (2, 0, false), (3, 0, false), (4, 0, false), (5, 0, true), (6, 1, false), (7, 0, false), (8, 0, false), (9, 1, false), (10, 1, false)])], true, [], noIt⟩ [.tmp 2] rfl Tryz.func21 rfl rfl rfl (by kernel_rfl) (by show 1 ≤ 15; decide) (by kernel_rfl)).trans ?_
  simp +contextual (maxSteps := 10000000) only [go_sem, n1, t1, d1, q1]
set_option maxHeartbeats 1000000 in
theorem mdata_row (n : Nat) (hb : n ≤ 30000000) : EV 21 [.ref 0 0 1 0 n] [some ⟨0, bytesD (zs n)⟩] = some (.ret (.ro false (bytesD (wrV (datV (zs n))))), [some ⟨0, bytesD (zs n)⟩]) := by
  have n1 := number_c 6 117
  have t1 := text_c 19 (zs n)
  have hz := zs_size n
  have d1 := desc_c (.mk 6 117 ⟨#[]⟩ []) (.mk 19 0 (zs n) []) (by have := dat_sz0 (zs n); omega)
  have q1 : EV 25 [(Val.mk 25 0 ⟨#[]⟩ [.mk 6 117 ⟨#[]⟩ [], .mk 19 0 (zs n) []]).d] [] = some (.ret (.tup [.ref 0 0 1 0 (wrV (datV (zs n))).size, I 0]), [some ⟨0, bytesD (wrV (datV (zs n)))⟩]) := menc_ok (datV (zs n)) (by rw [dat_sz]; omega) (dat_wf _) (dat_right _)
  generalize wrV (datV (zs n)) = W at *
  refine (ev_body ⟨[], [], [(1, [(0, 0, false), (1, 0, false), (2, 0, false), (3, 0, false), (4, 0, false), (5, 0, true), (6, 1, false), (7, 0, false), (8, 0, false), (9, 1, false), (10, 1, false)])], true, [], noIt⟩ [.tmp 2] rfl Tryz.func21 rfl rfl rfl (by kernel_rfl) (by show 1 ≤ 15; decide) (by kernel_rfl)).trans ?_
  simp +contextual (maxSteps := 10000000) only [go_sem, n1, t1, d1, q1, hz, cv_refn hz.symm]
theorem joinB_snoc : ∀ (l : List ByteArray) (p : ByteArray), joinB (l ++ [p]) = joinB l ++ p
  | [], p => by show p ++ joinB [] = joinB [] ++ p; rw [show joinB [] = e0 by rfl, ba_e0, e0_app]
  | b :: l, p => by show b ++ joinB (l ++ [p]) = (b ++ joinB l) ++ p; rw [joinB_snoc l p, ByteArray.append_assoc]
theorem joinB_size {B : Nat} : ∀ (l : List ByteArray), (∀ p ∈ l, p.size ≤ B) → (joinB l).size ≤ B * l.length
  | [], _ => by simp [show (joinB []).size = 0 by rfl]
  | b :: l, h => by
    have h1 := h b (by simp)
    have h2 := joinB_size l fun p hp => h p (by simp [hp])
    show (b ++ joinB l).size ≤ _
    rw [ByteArray.size_append, List.length_cons, Nat.mul_add]; omega
abbrev encD (p : ByteArray) : ByteArray := wrV (datV p)
def datB (l : List ByteArray) : ByteArray := joinB (l.map encD)
theorem datB_snoc (l : List ByteArray) (p : ByteArray) : datB (l ++ [p]) = datB l ++ wrV (datV p) := by
  unfold datB; rw [List.map_append]; exact joinB_snoc _ _
theorem toL_join : ∀ l : List ByteArray, toL (joinB l) = l.flatMap toL
  | [] => toL_e
  | b :: l => by show toL (b ++ joinB l) = _; rw [toL_app, toL_join l]; rfl
theorem toL_datB (l : List ByteArray) : toL (datB l) = bytesM (l.map datV) := by
  unfold datB bytesM
  rw [toL_join, List.flatMap_map, List.flatMap_map]
theorem datB_pos : ∀ (l : List ByteArray), l.length ≤ (datB l).size
  | [] => Nat.zero_le _
  | b :: l => by
    have := datB_pos l
    have h1 := wr_pos (datV b)
    show _ ≤ (wrV (datV b) ++ datB l).size
    rw [ByteArray.size_append, List.length_cons]; omega
theorem datB_size {l : List ByteArray} (h : ∀ p ∈ l, p.size ≤ 4096) : (datB l).size ≤ 41000 * l.length := by
  have := joinB_size (B := 41000) (l.map encD) (fun p hp => by
    obtain ⟨q, hq, rfl⟩ := List.mem_map.1 hp
    have h1 := h q hq
    have h2 := wr_sz (datV q)
    have h3 := dat_sz q
    show (wrV (datV q)).size ≤ 41000
    omega)
  rw [List.length_map] at this
  exact this
theorem getM_datB (l : List ByteArray) (h : ∀ p ∈ l, p.size ≤ 30000000) : getM (toL (datB l)) = if l ≠ [] ∧ (joinB l).size ≤ 2048 then some (plainM (joinB l)) else none := by
  have hp := datB_pos l
  have hl := toL_len (datB l)
  obtain ⟨k, hk⟩ : ∃ k, (toL (datB l)).length = l.length + k := ⟨(datB l).size - l.length, by omega⟩
  unfold getM
  rw [hk, toL_datB, getF_dats l k m0S (-1) false (by omega) h]
  have e : m0S.body ++ joinB l = joinB l := e0_app _
  rw [e]
  simp only [Bool.false_eq_true, false_or]
  rfl
def bytessD (l : List ByteArray) : List D := l.map fun p => .ro false (bytesD p)
theorem bytess_refs (l : List ByteArray) : D.refsL (bytessD l) = [] := refsL_all fun d hd => by
  obtain ⟨p, _, rfl⟩ := List.mem_map.1 hd
  exact refsL_bytesD p
theorem bytess_can (l : List ByteArray) : D.canL (bytessD l) = bytessD l := by
  rw [D.canL_map]; unfold bytessD; rw [List.map_map]
  exact List.map_congr_left fun p _ => by show (D.ro false (bytesD p)).can = _; simp only [D.can, canL_bytesD]
theorem bytess_len (l : List ByteArray) : (bytessD l).length = l.length := by unfold bytessD; rw [List.length_map]
attribute [go_sem] bytess_refs bytess_can bytess_len
abbrev cutF (ps : List ByteArray) (more : Int) (x y : D) (j : Int) : Fr := [(0, .ro false (bytessD ps)), (1, I more), (5, x), (6, y), (7, I j)]
end Go.Bw.R1

/- Own: the laws of messages by their own table; their arguments. -/
namespace Go.Bw.R1
set_option maxRecDepth 5000
open Go Go.Bw Go.Proofs
theorem law_runL {f : FuncId} {ds ds' : List D} {ts : Sto} (hw : WkL ds ds') (h : EL f ds' [] = some (.ret (B true), ts)) : CallT Tryz.prog gl0 f ds St.empty (fun r _ => r = .ret (.sc (.bool true))) :=
  law_ev anl_its (soundX4 mixed) mixed hw h
theorem Rd.slice_cell {P : Program} {t e : TypeId} {ds : List D} (hu : P.underlying t = some (.slice e)) (h : Rd P t ds) : ∀ d, ds = [d] → d.cells = [d] := by
  intro d hd
  cases h with
  | nils h => simp only [List.cons.injEq, and_true] at hd; subst hd; rfl
  | ro h dss hl k => simp only [List.cons.injEq, and_true] at hd; subst hd; rfl
  | veil h n => unfold Bw.veil at h; rw [hu] at h; cases h
  | _ h => rw [hu] at h; simp at h
theorem bytess_arg {d : D} (h : Arg Tryz.prog 34 d) : ∃ l : List ByteArray, Wk d (.ro false (bytessD l)) := by
  obtain ⟨l, _, hw⟩ := Arg.one (by kernel_rfl) (fun _ : List ByteArray => True) (fun l => .ro false (bytessD l)) (fun ds hd => by
    obtain ⟨l, _, h⟩ := Rd.slice_one (α := ByteArray) Tryz.underlying34 (by kernel_rfl) (fun _ => True) (fun s => .ro false (bytesD s)) (fun _ => rfl) (fun ds hd => by
      obtain ⟨s, h⟩ := Rd.bytes_inv Tryz.underlying23 Tryz.underlying5 hd
      exact ⟨s, trivial, h, Rd.slice_cell Tryz.underlying23 hd⟩) hd
    exact ⟨l, trivial, h⟩) h
  exact ⟨l, hw⟩
theorem u16_argL {d : D} (h : Arg Tryz.prog 60 d) : ∃ n : Nat, n < 65536 ∧ Wk d (.sc (.int .u16 (n : Nat))) := by
  obtain ⟨n, h, hw⟩ := Arg.one (by kernel_rfl) (fun n : Int => IntKind.u16.min ≤ n ∧ n ≤ IntKind.u16.max) (fun n => .sc (.int .u16 n)) (fun ds hd => by
    obtain ⟨n, rfl, h1, h2⟩ := Rd.int_inv Tryz.underlying60 hd
    exact ⟨n, ⟨h1, h2⟩, .refl _⟩) h
  simp [IntKind.min, IntKind.max, IntKind.signed, IntKind.bits] at h
  refine ⟨n.toNat, by omega, ?_⟩
  rw [Int.toNat_of_nonneg h.1]
  exact hw
theorem some_arg {d : D} (h : Arg Tryz.prog 42 d) : ∃ (a b : ByteArray) (c : Bool), Wk d (.agg [.ro false (bytesD a), .ro false (bytesD b), B c]) := by
  obtain ⟨⟨a, b, c⟩, _, hw⟩ := Arg.agg (by kernel_rfl) (fun _ : ByteArray × ByteArray × Bool => True) (fun x => [.ro false (bytesD x.1), .ro false (bytesD x.2.1), B x.2.2]) (fun ds h => by
    have h := Rd.fields Tryz.underlying42 h
    obtain ⟨a0, b0, rfl, h0, h⟩ := h
    obtain ⟨a1, b1, rfl, h1, h⟩ := h
    obtain ⟨a2, b2, rfl, h2, h⟩ := h
    have h : _ = _ := h
    subst h
    obtain ⟨x0, w0⟩ := h0.bytes_inv Tryz.underlying23 Tryz.underlying5
    obtain ⟨x1, w1⟩ := h1.bytes_inv Tryz.underlying23 Tryz.underlying5
    obtain ⟨x2, rfl⟩ := h2.bool_inv Tryz.underlying4
    exact ⟨(x0, x1, x2), trivial, WkL.append w0 (WkL.append w1 (.refl _))⟩) h
  exact ⟨a, b, c, hw⟩
end Go.Bw.R1
