/- What the functions answer. -/
import Derived.Test.YtffifncopceefaaGreatDoorWalk1
import Derived.Recover
set_option linter.unusedSimpArgs false
set_option linter.unusedVariables false
/- decode.read, of any code. -/
namespace Go.Bw.R1
set_option maxRecDepth 5000
open Go Go.Bw Go.Proofs
set_option maxHeartbeats 1000000 in
theorem read_192 (d : ByteArray) (x : Except Int Val) (hw : EV 128 [.sc (.int .u8 192), .ro false (bytesD d)] [] = some (rdR x)) : EV 95 [.sc (.int .u8 192), .ro false (bytesD d)] [] = some (rdR x) := by
  have hk : kindC 192 = 22 := by decide
  refine (ev_body ⟨[], [], [], true, [], noIt⟩ [.cell 4 46] rfl Tryz.func95 rfl rfl rfl (by kernel_rfl) (by show 2 ≤ 75; decide) (by kernel_rfl)).trans ?_
  unfold rdR at hw ⊢
  cases x with
  | error e => simp +contextual (maxSteps := 10000000) only [go_sem, look_kinds mapTk, gl_kinds, hk, show (Int.fdiv 192 16 == 9) = false from rfl, hw]
  | ok v => simp +contextual (maxSteps := 10000000) only [go_sem, look_kinds mapTk, gl_kinds, hk, show (Int.fdiv 192 16 == 9) = false from rfl, hw]
set_option maxHeartbeats 1000000 in
theorem read_193 (d : ByteArray) (x : Except Int Val) (hw : EV 128 [.sc (.int .u8 193), .ro false (bytesD d)] [] = some (rdR x)) : EV 95 [.sc (.int .u8 193), .ro false (bytesD d)] [] = some (rdR x) := by
  have hk : kindC 193 = 23 := by decide
  refine (ev_body ⟨[], [], [], true, [], noIt⟩ [.cell 4 46] rfl Tryz.func95 rfl rfl rfl (by kernel_rfl) (by show 2 ≤ 75; decide) (by kernel_rfl)).trans ?_
  unfold rdR at hw ⊢
  cases x with
  | error e => simp +contextual (maxSteps := 10000000) only [go_sem, look_kinds mapTk, gl_kinds, hk, show (Int.fdiv 193 16 == 9) = false from rfl, hw]
  | ok v => simp +contextual (maxSteps := 10000000) only [go_sem, look_kinds mapTk, gl_kinds, hk, show (Int.fdiv 193 16 == 9) = false from rfl, hw]
set_option maxHeartbeats 1000000 in
theorem read_208 (d : ByteArray) (x : Except Int Val) (hw : EV 128 [.sc (.int .u8 208), .ro false (bytesD d)] [] = some (rdR x)) : EV 95 [.sc (.int .u8 208), .ro false (bytesD d)] [] = some (rdR x) := by
  have hk : kindC 208 = 22 := by decide
  refine (ev_body ⟨[], [], [], true, [], noIt⟩ [.cell 4 46] rfl Tryz.func95 rfl rfl rfl (by kernel_rfl) (by show 2 ≤ 75; decide) (by kernel_rfl)).trans ?_
  unfold rdR at hw ⊢
  cases x with
  | error e => simp +contextual (maxSteps := 10000000) only [go_sem, look_kinds mapTk, gl_kinds, hk, show (Int.fdiv 208 16 == 9) = false from rfl, hw]
  | ok v => simp +contextual (maxSteps := 10000000) only [go_sem, look_kinds mapTk, gl_kinds, hk, show (Int.fdiv 208 16 == 9) = false from rfl, hw]
set_option maxHeartbeats 1000000 in
theorem read_209 (d : ByteArray) (x : Except Int Val) (hw : EV 128 [.sc (.int .u8 209), .ro false (bytesD d)] [] = some (rdR x)) : EV 95 [.sc (.int .u8 209), .ro false (bytesD d)] [] = some (rdR x) := by
  have hk : kindC 209 = 23 := by decide
  refine (ev_body ⟨[], [], [], true, [], noIt⟩ [.cell 4 46] rfl Tryz.func95 rfl rfl rfl (by kernel_rfl) (by show 2 ≤ 75; decide) (by kernel_rfl)).trans ?_
  unfold rdR at hw ⊢
  cases x with
  | error e => simp +contextual (maxSteps := 10000000) only [go_sem, look_kinds mapTk, gl_kinds, hk, show (Int.fdiv 209 16 == 9) = false from rfl, hw]
  | ok v => simp +contextual (maxSteps := 10000000) only [go_sem, look_kinds mapTk, gl_kinds, hk, show (Int.fdiv 209 16 == 9) = false from rfl, hw]
set_option maxHeartbeats 1000000 in
theorem read_224 (d : ByteArray) (x : Except Int Val) (hw : EV 128 [.sc (.int .u8 224), .ro false (bytesD d)] [] = some (rdR x)) : EV 95 [.sc (.int .u8 224), .ro false (bytesD d)] [] = some (rdR x) := by
  have hk : kindC 224 = 24 := by decide
  refine (ev_body ⟨[], [], [], true, [], noIt⟩ [.cell 4 46] rfl Tryz.func95 rfl rfl rfl (by kernel_rfl) (by show 2 ≤ 75; decide) (by kernel_rfl)).trans ?_
  unfold rdR at hw ⊢
  cases x with
  | error e => simp +contextual (maxSteps := 10000000) only [go_sem, look_kinds mapTk, gl_kinds, hk, show (Int.fdiv 224 16 == 9) = false from rfl, hw]
  | ok v => simp +contextual (maxSteps := 10000000) only [go_sem, look_kinds mapTk, gl_kinds, hk, show (Int.fdiv 224 16 == 9) = false from rfl, hw]
set_option maxHeartbeats 1000000 in
theorem read_240 (d : ByteArray) (x : Except Int Val) (hw : EV 128 [.sc (.int .u8 240), .ro false (bytesD d)] [] = some (rdR x)) : EV 95 [.sc (.int .u8 240), .ro false (bytesD d)] [] = some (rdR x) := by
  have hk : kindC 240 = 24 := by decide
  refine (ev_body ⟨[], [], [], true, [], noIt⟩ [.cell 4 46] rfl Tryz.func95 rfl rfl rfl (by kernel_rfl) (by show 2 ≤ 75; decide) (by kernel_rfl)).trans ?_
  unfold rdR at hw ⊢
  cases x with
  | error e => simp +contextual (maxSteps := 10000000) only [go_sem, look_kinds mapTk, gl_kinds, hk, show (Int.fdiv 240 16 == 9) = false from rfl, hw]
  | ok v => simp +contextual (maxSteps := 10000000) only [go_sem, look_kinds mapTk, gl_kinds, hk, show (Int.fdiv 240 16 == 9) = false from rfl, hw]
theorem read_comp {c : Int} (h : kindC c ≠ 0) (hc : ¬ c < 192) (d : ByteArray) (x : Except Int Val) (hw : EV 128 [.sc (.int .u8 c), .ro false (bytesD d)] [] = some (rdR x)) : EV 95 [.sc (.int .u8 c), .ro false (bytesD d)] [] = some (rdR x) := by
  have hin := code_in h
  have : ∀ c ∈ ([64, 65, 66, 67, 68, 69, 80, 81, 82, 83, 84, 85, 86, 96, 97, 112, 113, 114, 115, 116, 128, 129, 130, 131, 132, 148, 152, 160, 161, 163, 176, 177, 179, 192, 193, 208, 209, 224, 240] : List Int), ¬ c < 192 → c = 192 ∨ c = 193 ∨ c = 208 ∨ c = 209 ∨ c = 224 ∨ c = 240 := by decide
  rcases this c hin hc with rfl | rfl | rfl | rfl | rfl | rfl
  · exact read_192 d x hw
  · exact read_193 d x hw
  · exact read_208 d x hw
  · exact read_209 d x hw
  · exact read_224 d x hw
  · exact read_240 d x hw
theorem read_step' {N : Nat} (hR : RdE N) : RdE (N + 1) := by
  intro c d hk hd hd2 h1 h2
  rw [readF_fuel (d.size + 1) (N + 1) c (toL d) (by rw [toL_len]; omega) (by rw [toL_len]; omega), readF_succ]
  by_cases hc : c < 192
  · have hl := read_leaf hk hc d h1 h2 (by omega)
    rw [hl]
    unfold readS
    rw [if_pos hc]; rfl
  · exact read_comp hk hc d _ (within_step hR c d hc hk (by omega) hd2)
/-- WHAT decode.read ANSWERS -/
theorem read_c : ∀ N, RdE N
  | 0 => fun c d _ h => absurd h (Nat.not_lt_zero _)
  | N + 1 => read_step' (read_c N)
/-- WHAT reader.value ANSWERS -/
theorem value_c (s : ByteArray) (at_ : Nat) (ha : at_ ≤ s.size) (hs2 : s.size ≤ 36000000) : EV 59 [.ptr 0 0 0] [some ⟨0, rdr s at_⟩] = some (valR s (valF (readF s.size) ((toL s).drop at_))) :=
  value_step (read_c s.size) s at_ ha (Nat.le_refl _) hs2
end Go.Bw.R1

/- Plain: decoded values are well formed. -/
namespace Go.Bw.R1
set_option maxRecDepth 5000
open Go Go.Bw
theorem kind_rng {c : Int} (h : kindC c ≠ 0) : 0 ≤ kindC c ∧ kindC c < 256 := by
  have : ∀ c ∈ ([64, 65, 66, 67, 68, 69, 80, 81, 82, 83, 84, 85, 86, 96, 97, 112, 113, 114, 115, 116, 128, 129, 130, 131, 132, 148, 152, 160, 161, 163, 176, 177, 179, 192, 193, 208, 209, 224, 240] : List Int), 0 ≤ kindC c ∧ kindC c < 256 := by decide
  exact this c (code_in h)
theorem fix_small {c : Int} (h : kindC c ≠ 0) (h9 : ¬ c / 16 = 9) (hc : c < 160) : fixC c = 0 ∨ fixC c = 1 ∨ fixC c = 2 ∨ fixC c = 4 ∨ fixC c = 8 := by
  obtain ⟨a, b⟩ := code_byte h
  unfold fixC
  rcases (show c / 16 = 4 ∨ c / 16 = 5 ∨ c / 16 = 6 ∨ c / 16 = 7 ∨ c / 16 = 8 by omega) with h | h | h | h | h <;> rw [h] <;> simp
theorem beN_64 {l : List UInt8} (h : l.length = 0 ∨ l.length = 1 ∨ l.length = 2 ∨ l.length = 4 ∨ l.length = 8) : beN l < 18446744073709551616 := by
  have := beN_lt _ l rfl
  rcases h with h | h | h | h | h <;> rw [h] at this <;> omega
theorem sgnX_64 {l : List UInt8} (h : l.length = 0 ∨ l.length = 1 ∨ l.length = 2 ∨ l.length = 4 ∨ l.length = 8) : 0 ≤ sgnX (beN l) l.length ∧ sgnX (beN l) l.length < 18446744073709551616 := by
  have hb := beN_lt _ l rfl
  have h64 := beN_64 h
  unfold sgnX
  rcases h with h | h | h | h | h <;> rw [h] at hb ⊢
  · rw [if_pos (by decide)]; omega
  · rw [if_neg (by decide), show (2 : Int) ^ (8 * 1 - 1) = 128 from rfl, show (2 : Int) ^ 64 - 2 ^ (8 * 1) = 18446744073709551360 from rfl]
    split <;> omega
  · rw [if_neg (by decide), show (2 : Int) ^ (8 * 2 - 1) = 32768 from rfl, show (2 : Int) ^ 64 - 2 ^ (8 * 2) = 18446744073709486080 from rfl]
    split <;> omega
  · rw [if_neg (by decide), show (2 : Int) ^ (8 * 4 - 1) = 2147483648 from rfl, show (2 : Int) ^ 64 - 2 ^ (8 * 4) = 18446744069414584320 from rfl]
    split <;> omega
  · rw [if_pos (by decide)]; omega
theorem leafV_wf {c : Int} (h : kindC c ≠ 0) (d : List UInt8) (hd : c < 160 → d.length = fixC c) : (leafV c d).wf := by
  obtain ⟨k0, k1⟩ := kind_rng h
  unfold leafV
  split
  · exact ⟨⟨by decide, by decide, by decide, by decide⟩, trivial⟩
  · split
    · exact ⟨⟨k0, k1, by decide, by decide⟩, trivial⟩
    · split
      · exact ⟨⟨k0, k1, by decide, by decide⟩, trivial⟩
      · rename_i h9
        split
        · exact ⟨⟨k0, k1, by decide, by decide⟩, trivial⟩
        · rename_i hc
          have hs : d.length = 0 ∨ d.length = 1 ∨ d.length = 2 ∨ d.length = 4 ∨ d.length = 8 := by
            rw [hd (by omega)]; exact fix_small h (fun e => h9 (.inl e)) (by omega)
          split
          · obtain ⟨a, b⟩ := sgnX_64 hs
            exact ⟨⟨k0, k1, a, b⟩, trivial⟩
          · have := beN_64 hs
            exact ⟨⟨k0, k1, by omega, by omega⟩, trivial⟩
theorem callV_wf {v : Val} (hv : v.wf) : ∀ {ns : List Val}, (∀ n ∈ ns, n.wf) → (callV ns v).wf
  | [], _ => hv
  | n :: ns, h => ⟨⟨by decide, by decide, by decide, by decide⟩, h n (by simp), callV_wf hv fun x hx => h x (by simp [hx]), trivial⟩
theorem consL_wf : ∀ (n : Nat) (l : List UInt8) (ns : List Val) (C : Int) (r : List UInt8), consL n l = .ok ((ns, C), r) → ∀ x ∈ ns, x.wf
  | 0, _, _, _, _, h => by cases h
  | n + 1, l, ns, C, r, h => by
    rw [consL_succ] at h
    unfold consS at h
    match l, h with
    | [], h => cases h
    | c :: [], h =>
      dsimp only at h
      split at h
      · cases h
      · split at h
        · cases h
        · injection h with h
          injection h with h1 h2
          injection h1 with h1 h3
          subst h1
          intro x hx; cases hx
    | c :: k :: r2, h =>
      dsimp only at h
      split at h
      · unfold nameS at h
        split at h
        · cases h
        · rename_i hk
          cases hd : dataL (u8I k) r2 with
          | error e => rw [hd] at h; cases h
          | ok y =>
            obtain ⟨d, r3⟩ := y
            rw [hd] at h
            dsimp only at h
            cases hc : consL n r3 with
            | error e => rw [hc] at h; cases h
            | ok z =>
              obtain ⟨⟨ms, D⟩, r4⟩ := z
              rw [hc] at h
              dsimp only at h
              injection h with h
              injection h with h1 h2
              injection h1 with h1 h3
              subst h1
              intro x hx
              rcases List.mem_cons.1 hx with rfl | hx
              · exact leafV_wf (by omega) d (dataL_len hd).1
              · exact consL_wf n r3 ms D r4 hc x hx
      · split at h
        · cases h
        · injection h with h
          injection h with h1 h2
          injection h1 with h1 h3
          subst h1
          intro x hx; cases hx
theorem manyF_wf {st : List UInt8 → Except Int (Val × List UInt8)} (h : ∀ l v r, st l = .ok (v, r) → v.wf) : ∀ (n : Nat) (l : List UInt8) (vs : List Val) (r : List UInt8), manyF st n l = .ok (vs, r) → Val.wfL vs
  | 0, l, vs, r, hh => by
    injection hh with hh
    injection hh with h1 h2
    subst h1
    trivial
  | n + 1, l, vs, r, hh => by
    simp only [manyF] at hh
    cases hs : st l with
    | error e => rw [hs] at hh; cases hh
    | ok y =>
      obtain ⟨v, l1⟩ := y
      rw [hs] at hh
      dsimp only at hh
      cases hm : manyF st n l1 with
      | error e => rw [hm] at hh; cases hh
      | ok z =>
        obtain ⟨ws, l2⟩ := z
        rw [hm] at hh
        dsimp only at hh
        injection hh with hh
        injection hh with h1 h2
        subst h1
        exact ⟨h l v l1 hs, manyF_wf h n l1 ws l2 hm⟩
theorem itemF_wf {rd : Int → List UInt8 → Except Int Val} (hrd : ∀ c d v, kindC c ≠ 0 → (c < 160 → d.length = fixC c) → rd c d = .ok v → v.wf) {ns : List Val} {C : Int} (hC : kindC C ≠ 0) (hn : ∀ x ∈ ns, x.wf) (l : List UInt8) (v : Val) (r : List UInt8) (h : itemF rd ns C l = .ok (v, r)) : v.wf := by
  obtain ⟨d, w, h1, h2, rfl⟩ := itemF_len h
  exact callV_wf (hrd C d w hC (dataL_len h1).1 h2) hn
theorem valF_wf {rd : Int → List UInt8 → Except Int Val} (hrd : ∀ c d v, kindC c ≠ 0 → (c < 160 → d.length = fixC c) → rd c d = .ok v → v.wf) (l : List UInt8) (v : Val) (r : List UInt8) (h : valF rd l = .ok (v, r)) : v.wf := by
  unfold valF at h
  cases hc : consL (l.length + 1) l with
  | error e => rw [hc] at h; cases h
  | ok y =>
    obtain ⟨⟨ns, C⟩, r2⟩ := y
    rw [hc] at h
    exact itemF_wf hrd (consL_len _ _ _ _ _ hc).2 (consL_wf _ _ _ _ _ hc) r2 v r h
theorem readF_wf : ∀ (n : Nat) (c : Int) (d : List UInt8) (v : Val), kindC c ≠ 0 → (c < 160 → d.length = fixC c) → readF n c d = .ok v → v.wf
  | 0, _, _, _, _, _, h => by cases h
  | n + 1, c, d, v, hk, hd, h => by
    have ih := readF_wf n
    rw [readF_succ] at h
    unfold readS at h
    split at h
    · injection h with h
      subst h
      exact leafV_wf hk d hd
    · unfold takeL at h
      by_cases ha : d.length < wideC c
      · rw [if_pos ha] at h; cases h
      · rw [if_neg ha] at h
        dsimp only at h
        by_cases hb : (d.drop (wideC c)).length < wideC c
        · rw [if_pos hb] at h; cases h
        · rw [if_neg hb] at h
          dsimp only at h
          generalize beN ((d.drop (wideC c)).take (wideC c)) = m at h
          generalize (d.drop (wideC c)).drop (wideC c) = r at h
          have fin : ∀ {x : Except Int (List Val × List UInt8)}, endF (kindC c) x = .ok v → (∀ vs r', x = .ok (vs, r') → Val.wfL vs) → v.wf := fun {x} he hx => by
            cases x with
            | error e => cases he
            | ok y =>
              obtain ⟨vs, r'⟩ := y
              have he2 := endF_ok he
              subst he2
              exact ⟨⟨(kind_rng hk).1, (kind_rng hk).2, by decide, by decide⟩, hx vs r' rfl⟩
          unfold bodyF at h
          split at h
          · cases h
          · split at h
            · cases hc : consL (r.length + 1) r with
              | error e => rw [hc] at h; cases h
              | ok y =>
                obtain ⟨⟨ns, C⟩, r2⟩ := y
                rw [hc] at h
                dsimp only at h
                exact fin h fun vs r' hx => manyF_wf (fun l v r hh => itemF_wf ih (consL_len _ _ _ _ _ hc).2 (consL_wf _ _ _ _ _ hc) l v r hh) m r2 vs r' hx
            · exact fin h fun vs r' hx => manyF_wf (fun l v r hh => valF_wf ih l v r hh) m r vs r' hx
/-- a head and its data: how many bytes they have -/
def headL (l : List UInt8) : Except Int (List UInt8) :=
  match consL (l.length + 1) l with
  | .error e => .error e
  | .ok ((_, C), r) => match dataL C r with
    | .error e => .error e
    | .ok (_, r2) => .ok r2
def decS (l : List UInt8) : Except Int (Val × Nat) :=
  match headL l with
  | .error e => .error e
  | .ok r => match valF (readF (l.length - r.length)) (l.take (l.length - r.length)) with
    | .error _ => .error 6
    | .ok (v, _) => if rightS v = true then .ok (v, l.length - r.length) else .error 6
theorem head_of_val {rd : Int → List UInt8 → Except Int Val} {l r : List UInt8} {v : Val} (h : valF rd l = .ok (v, r)) : headL l = .ok r := by
  unfold valF at h
  unfold headL
  cases hc : consL (l.length + 1) l with
  | error e => rw [hc] at h; cases h
  | ok y =>
    obtain ⟨⟨ns, C⟩, r2⟩ := y
    rw [hc] at h
    obtain ⟨d, w, h1, _, _⟩ := itemF_len h
    dsimp only
    rw [h1]
theorem valF_fuel (n m : Nat) (l : List UInt8) (h1 : l.length ≤ n) (h2 : l.length ≤ m) : valF (readF n) l = valF (readF m) l :=
  valF_congr (N := l.length) (fun c d hd => readF_fuel n m c d (by omega) (by omega)) l (Nat.le_refl _)
end Go.Bw.R1

/- decode.Value's closures. -/
namespace Go.Bw.R1
set_option maxRecDepth 5000
open Go Go.Bw Go.Proofs
def v1R (s : ByteArray) (x : Except Int (List UInt8)) : R × Sto := match x with
  | .error e => (thr e, [some ⟨0, [.undef]⟩, some ⟨0, [.undef, .undef]⟩])
  | .ok r => (.ret (.tup []), [some ⟨0, [.ptr 1 0 0]⟩, some ⟨0, rdr s (s.size - r.length)⟩])
set_option maxHeartbeats 4000000 in
theorem v1_c (s : ByteArray) (hs2 : s.size ≤ 36000000) : EV 55 [.ptr 0 0 0] [some ⟨0, [.ptr 1 0 0]⟩, some ⟨0, rdr s 0⟩] = some (v1R s (headL (toL s))) := by
  have hc := cons_c' s 0 (Nat.zero_le _) (by omega)
  refine (ev_body ⟨[], [], [(0, [(1, 0, false), (2, 0, true), (0, 0, false), (3, 1, false), (4, 0, true)]), (4000000, [(2, 0, false), (0, 0, false), (1, 0, false)]), (5000000, [(4, 0, false), (1, 0, false), (2, 0, true), (0, 0, false), (3, 1, false)])], false, [], noIt⟩ [] rfl Tryz.func55 rfl rfl rfl (by kernel_rfl) (by show 1 ≤ 6; decide) (by kernel_rfl)).trans ?_
  unfold headL
  rw [Nat.sub_zero, drop0] at hc
  rw [toL_len]
  cases hcon : consL (s.size + 1) (toL s) with
  | error e =>
    rw [hcon] at hc
    unfold conR at hc
    simp only [rdr, Int.cast_ofNat_Int] at hc
    simp +contextual (maxSteps := 10000000) only [go_sem, hc]
    rfl
  | ok y =>
    obtain ⟨⟨ns, C⟩, r⟩ := y
    obtain ⟨p, hp⟩ := consL_suf _ _ _ _ _ hcon
    obtain ⟨e1, e2⟩ := suf_drop (s := s) (at_ := 0) (Nat.zero_le _) (by rw [drop0]; exact hp)
    obtain ⟨z3, hC⟩ := consL_len _ _ _ _ _ hcon
    obtain ⟨C0, C1⟩ := code_byte hC
    rw [hcon] at hc
    unfold conR at hc
    dsimp only at hc ⊢
    generalize hq : 0 + p.length = q at *
    subst e1
    rw [left_at s q e2] at hc
    have hdat := data_c' C s q e2 (by omega) C0 C1
    unfold datR at hdat
    simp only [rdr, Int.cast_ofNat_Int] at hc hdat
    cases hd : dataL C ((toL s).drop q) with
    | error e =>
      rw [hd] at hdat
      dsimp only at hdat
      simp +contextual (maxSteps := 10000000) only [go_sem, hc, hdat]
      rfl
    | ok y =>
      obtain ⟨d, r⟩ := y
      rw [hd] at hdat
      dsimp only at hdat ⊢
      simp +contextual (maxSteps := 10000000) only [go_sem, hc, hdat]
      rfl
def v2R (s : ByteArray) (x : Except Int (Val × List UInt8)) : R × Sto := match x with
  | .error e => (thr e, [some ⟨0, [.undef]⟩, some ⟨0, [.undef, .undef]⟩, some ⟨0, [.undef, .undef, .undef, .undef]⟩])
  | .ok (v, r) => (.ret (.tup []), [some ⟨0, [.ptr 1 0 0]⟩, some ⟨0, rdr s (s.size - r.length)⟩, some ⟨0, v.cs⟩])
abbrev zeC : List D := [.sc (.int .u8 0), .sc (.int .u64 0), .sc (.string ⟨#[]⟩), .ro false []]
set_option maxHeartbeats 4000000 in
theorem v2_c (s : ByteArray) (hs2 : s.size ≤ 36000000) : EV 58 [.ptr 0 0 0, .ptr 2 0 0] [some ⟨0, [.ptr 1 0 0]⟩, some ⟨0, rdr s 0⟩, some ⟨0, zeC⟩] = some (v2R s (valF (readF s.size) (toL s))) := by
  have hc := value_c s 0 (Nat.zero_le _) hs2
  rw [drop0] at hc
  refine (ev_body ⟨[], [], [], false, [], noIt⟩ [] rfl Tryz.func58 rfl rfl rfl (by kernel_rfl) (by show 2 ≤ 4; decide) (by kernel_rfl)).trans ?_
  cases hcon : valF (readF s.size) (toL s) with
  | error e =>
    rw [hcon] at hc
    unfold valR at hc
    simp only [rdr, Int.cast_ofNat_Int] at hc
    simp +contextual (maxSteps := 10000000) only [go_sem, hc]
    rfl
  | ok y =>
    obtain ⟨v, r⟩ := y
    rw [hcon] at hc
    unfold valR at hc
    simp only [rdr, Int.cast_ofNat_Int] at hc
    simp +contextual (maxSteps := 10000000) only [go_sem, hc]
    rfl
end Go.Bw.R1

/- decode.try: what is thrown is told. -/
namespace Go.Bw.R1
set_option maxRecDepth 5000
open Go Go.Bw Go.Proofs
section
variable {P : Program} {GL : Nat → D}
/-- a state behind some steps -/
def At0 (n : Nat) (g0 : G) (w0 : World) (ds : List Deferred) (E : Nat → D) (S : St) (a : Act) (w : World) : Prop :=
  ∃ g, Keep g0 g w0 w ∧ Sim g S w ∧ Env g E a ∧ a.tmps.size = n ∧ a.defers = ds
theorem op_at0 {n : Nat} {g0 : G} {w0 : World} {ds : List Deferred} {E : Nat → D} {S S' : St} {d : D} {o : Oper} {a : Act} {w : World} (hG : Glob g0 GL) (hd : ∀ t, o.dst = some t → t < n) (h : opD P E GL S o = some (d, S')) (hst : At0 n g0 w0 ds E S a w) :
    ∃ nx a' w', (execOp a.eval o).run P w = .ok nx w' ∧ ((∃ v, nx = .value v ∧ a' = a.put o.dst v) ∨ (nx = .skip ∧ a' = a.put o.dst undef)) ∧ At0 n g0 w0 ds (updO E o.dst d) S' a' w' := by
  obtain ⟨g, k1, k2, k3, k4, k5⟩ := hst
  obtain ⟨g', w', nx, q1, q2, q3, q4⟩ := op_does h k2 k3 (hG.mono k1.le)
  have hdo : ∀ t, o.dst = some t → t < a.tmps.size := fun t ht => by rw [k4]; exact hd t ht
  rcases q2 with ⟨v, rfl, hv⟩ | ⟨rfl, rfl⟩
  · exact ⟨_, _, w', q1, .inl ⟨v, rfl, rfl⟩, g', k1.trans q4, q3, (k3.mono q4.le).put hv hdo, by rw [put_size]; exact k4, by rw [put_defers]; exact k5⟩
  · exact ⟨_, _, w', q1, .inr ⟨rfl, rfl⟩, g', k1.trans q4, q3, (k3.mono q4.le).put .undef hdo, by rw [put_size]; exact k4, by rw [put_defers]; exact k5⟩
theorem wanted_none {o : Oper} (h : o.guard = none) (f : Nat → Option Bool) : Region.wanted o f = true := by unfold Region.wanted; rw [h]
theorem ops_at0 {n : Nat} {g0 : G} {w0 : World} {ds : List Deferred} {E : Nat → D} {S S' : St} {d : D} {o : Oper} {a : Act} {w : World} {ops : Array Oper} {i : Nat} {rest : List Nat} {Q : Exit → Act → World → Prop} (hG : Glob g0 GL) (ho : ops[i]? = some o) (hgu : o.guard = none) (hd : ∀ t, o.dst = some t → t < n)
    (h : opD P E GL S o = some (d, S')) (hst : At0 n g0 w0 ds E S a w) (K : ∀ a' w', At0 n g0 w0 ds (updO E o.dst d) S' a' w' → wpOps P ops Q rest a' w') : wpOps P ops Q (i :: rest) a w := by
  obtain ⟨nx, a', w', q1, q2, q3⟩ := op_at0 hG hd h hst
  unfold wpOps
  simp only [ho]
  rw [if_pos (wanted_none hgu _)]
  refine .inl ?_
  unfold Oper.wp
  rw [q1]
  rcases q2 with ⟨v, rfl, rfl⟩ | ⟨rfl, rfl⟩
  · exact K _ _ q3
  · exact K _ _ q3
theorem opsS_at0 {n : Nat} {g0 : G} {w0 : World} {ds : List Deferred} {E : Nat → D} {S S' : St} {d : D} {o : Oper} {a : Act} {cs : List Frame} {w : World} {ops : Array Oper} {i : Nat} {rest : List Nat} {Q : Exit → Act → List Frame → World → Prop} (hG : Glob g0 GL) (ho : ops[i]? = some o) (hgu : o.guard = none) (hd : ∀ t, o.dst = some t → t < n)
    (h : opD P E GL S o = some (d, S')) (hst : At0 n g0 w0 ds E S a w) (K : ∀ a' w', At0 n g0 w0 ds (updO E o.dst d) S' a' w' → wpOpsS P ops Q rest a' cs w') : wpOpsS P ops Q (i :: rest) a cs w := by
  obtain ⟨nx, a', w', q1, q2, q3⟩ := op_at0 hG hd h hst
  unfold wpOpsS
  simp only [ho]
  rw [if_pos (wanted_none hgu _), q1]
  rcases q2 with ⟨v, rfl, rfl⟩ | ⟨rfl, rfl⟩
  · exact K _ _ q3
  · exact K _ _ q3
/-- operations that call nobody, one behind the other -/
def opsN (P : Program) (GL : Nat → D) : List Oper → (Nat → D) → St → ((Nat → D) → St → Prop) → Prop
  | [], E, S, K => K E S
  | o :: r, E, S, K => o.guard = none ∧ match opD P E GL S o with
    | some (d, S') => opsN P GL r (updO E o.dst d) S' K
    | none => False
theorem dst_lt {n : Nat} {ops : Array Oper} (hdst : dstOk n ops = true) {k : Nat} {o : Oper} (ho : ops[k]? = some o) : ∀ t, o.dst = some t → t < n := by
  intro t ht
  unfold dstOk at hdst
  rw [Array.all_eq_true_iff_forall_mem] at hdst
  have := hdst o (Array.mem_of_getElem? ho)
  rw [ht] at this
  simpa using this
theorem dropA_at {ops : Array Oper} {k : Nat} {o : Oper} {l : List Oper} (hl : ops.toList.drop k = o :: l) : ops[k]? = some o ∧ ops.toList.drop (k + 1) = l := by
  refine ⟨?_, by rw [← List.drop_drop, hl]; rfl⟩
  have : (ops.toList.drop k)[0]? = some o := by rw [hl]; rfl
  rw [List.getElem?_drop] at this
  simpa using this
theorem opsN_wp {n : Nat} {g0 : G} {w0 : World} {ds : List Deferred} {ops : Array Oper} {Q : Exit → Act → World → Prop} {K : (Nat → D) → St → Prop} (hG : Glob g0 GL) (hdst : dstOk n ops = true) (hQ : ∀ E S a w, K E S → At0 n g0 w0 ds E S a w → Q .normal a w) :
    ∀ (l : List Oper) (k : Nat), ops.toList.drop k = l → ∀ (E : Nat → D) (S : St) (a : Act) (w : World), opsN P GL l E S K → At0 n g0 w0 ds E S a w → wpOps P ops Q (List.range' k l.length) a w
  | [], k, _, E, S, a, w, h, hst => hQ E S a w h hst
  | o :: l, k, hl, E, S, a, w, h, hst => by
    obtain ⟨ho, hl'⟩ := dropA_at hl
    obtain ⟨hg, h⟩ := h
    cases hop : opD P E GL S o with
    | none => rw [hop] at h; exact h.elim
    | some y =>
      obtain ⟨d, S'⟩ := y
      rw [hop] at h
      simp only [List.length_cons, List.range'_succ]
      exact ops_at0 hG ho hg (dst_lt hdst ho) hop hst fun a' w' hs => opsN_wp hG hdst hQ l (k + 1) hl' _ _ a' w' h hs
theorem reg_at0 {n : Nat} {g0 : G} {w0 : World} {ds : List Deferred} {id : Nat} {ops : Array Oper} {Q : Exit → Act → World → Prop} {E : Nat → D} {S : St} {a : Act} {w : World} (K : (Nat → D) → St → Prop) (hG : Glob g0 GL) (hst : At0 n g0 w0 ds E S a w) (hdst : dstOk n ops = true) (h : opsN P GL ops.toList E S K)
    (hQ : ∀ E S a w, K E S → At0 n g0 w0 ds E S a w → Q .normal a w) : (Code.region id ops false).wp P Q a w := by
  refine wp_region ?_
  have := opsN_wp hG hdst hQ ops.toList 0 rfl E S a w h hst
  rw [List.range_eq_range']
  simpa using this
theorem eval_at0 {n : Nat} {g0 : G} {w0 : World} {ds : List Deferred} {E : Nat → D} {S : St} {a : Act} {w : World} {o : Operand} {b : Bool} (hG : Glob g0 GL) (hst : At0 n g0 w0 ds E S a w) (h : rhoD E GL o = B b) : a.eval o = .bool b := by
  obtain ⟨g, k1, k2, k3, k4, k5⟩ := hst
  have := rho_V k3 (hG.mono k1.le) o
  rw [h] at this
  exact (V_sc_inv this).1
end

def sndC : Code → Code
  | .seq _ b => b
  | c => c
def bodyC (fn : Func) : Code := fn.body.getD .skip
theorem ne_ifc {xo yo : Operand} {x : Int} : binD Tryz.prog .neq 20 xo yo (.ifc 29 (I x)) .nilifc = some (B true) := by
  simp only [binD, toVal, toVal1, Option.map_some]
  cases xo <;> cases yo <;> rfl
theorem ne_nil {xo yo : Operand} : binD Tryz.prog .neq 20 xo yo .nilifc .nilifc = some (B false) := by
  simp only [binD, toVal, toVal1]
  cases xo <;> cases yo <;> rfl
theorem zs_err : zeroShape Tryz.prog 29 = true := by kernel_rfl
theorem as_err {x : Int} : assertD Tryz.prog 29 true (.ifc 29 (I x)) = some (.tup [I x, B true]) := by
  unfold assertD
  rw [if_pos (by kernel_rfl)]
  simp only [if_true]
theorem ex_fst {a b : D} : exD (.tup [a, b]) 0 = some a := rfl
theorem ex_snd {a b : D} : exD (.tup [a, b]) 1 = some b := rfl
theorem un_not' {b : Bool} : unD Tryz.prog .not (.sc (.bool b)) = some (B (!b)) := by cases b <;> rfl
theorem sz_err : szOf Tryz.prog 29 = some 1 := by kernel_rfl
set_option maxHeartbeats 1000000 in
/-- what try$1 does with what is thrown, behind 'recover' -/
theorem dfr_code {m : Nat} {y : D} {x : Int} {S : St} (hrow : S.tab m = some ⟨0, [y]⟩) {E : Nat → D} (h0 : E 0 = .ptr m 0 0) (h1 : E 1 = .ifc 29 (I x)) {g : G} {w0 w : World} {a' : Act} (hG : Glob g gl0) (hs : At0 16 g w0 [] E S a' w) :
    (sndC (bodyC Tryz.f91)).wp Tryz.prog (fun e a2 w2 => e = .normal ∧ ∃ E2, At0 16 g w0 [] E2 (S.put m (some ⟨0, [I x]⟩)) a2 w2) a' w := by
  refine wp_seq (reg_at0 (fun E2 S2 => S2 = S ∧ E2 0 = .ptr m 0 0 ∧ E2 1 = .ifc 29 (I x) ∧ E2 6 = B true) hG hs (by kernel_rfl) ?_ ?_)
  · simp only [opsN, go_sem, h0, h1, ne_ifc, Nat.reduceEqDiff, Nat.reduceAdd, Nat.reduceLeDiff, Option.map_some, true_and, and_true]
  rintro E1 S1 a1 w1 ⟨rfl, p0, p1, p6⟩ hs1
  change (Code.cond (.tmp 6) _ _).wp _ _ _ _
  refine wp_cond_true (eval_at0 hG hs1 p6) ?_
  refine wp_seq (reg_at0 (fun E2 S2 => S2 = S1 ∧ E2 0 = .ptr m 0 0 ∧ E2 2 = I x ∧ E2 3 = B true) hG hs1 (by kernel_rfl) ?_ ?_)
  · simp only [opsN, go_sem, p0, p1, zs_err, as_err, ex_fst, ex_snd, Nat.reduceEqDiff, Nat.reduceAdd, Nat.reduceLeDiff, Option.map_some, if_true, true_and, and_true]
  rintro E2 S2 a2 w2 ⟨rfl, q0, q2, q3⟩ hs2
  refine wp_seq (wp_seq (reg_at0 (fun E2 S3 => S3 = S2 ∧ E2 0 = .ptr m 0 0 ∧ E2 2 = I x ∧ E2 13 = B false) hG hs2 (by kernel_rfl) ?_ ?_))
  · simp only [opsN, go_sem, q0, q2, q3, un_not', Nat.reduceEqDiff, Nat.reduceAdd, Nat.reduceLeDiff, Option.map_some, Bool.not_true, true_and, and_true]
  rintro E3 S3 a3 w3 ⟨rfl, r0, r2, r13⟩ hs3
  change (Code.cond (.tmp 13) _ _).wp _ _ _ _
  refine wp_cond_false (eval_at0 hG hs3 r13) ?_
  refine wp_skip ?_
  refine reg_at0 (fun E2 S4 => S4 = S3.put m (some ⟨0, [I x]⟩)) hG hs3 (by kernel_rfl) ?_ ?_
  · simp only [opsN, go_sem, r0, r2, hrow, List.length_singleton, Nat.le_refl, and_self, if_true, List.drop_one, List.tail_cons, Option.map_some, Nat.reduceEqDiff, Nat.reduceAdd, Nat.reduceLeDiff, true_and]
  rintro E4 S4 a4 w4 rfl hs4
  exact ⟨rfl, E4, hs4⟩
theorem at0_put {n : Nat} {g0 : G} {w0 : World} {ds : List Deferred} {E : Nat → D} {S : St} {a : Act} {w : World} (hst : At0 n g0 w0 ds E S a w) {t : Nat} {d : D} {v : Value} (ht : t < n) (hv : V g0 d v) : At0 n g0 w0 ds (updO E (some t) d) S (a.put (some t) v) w := by
  obtain ⟨g, k1, k2, k3, k4, k5⟩ := hst
  exact ⟨g, k1, k2, k3.put (hv.mono k1.le) (fun t' h => by cases h; rw [k4]; exact ht), by rw [put_size]; exact k4, by rw [put_defers]; exact k5⟩
theorem at0_start {n : Nat} {g : G} {w : World} {d : D} {v : Value} {S : St} (hs : Sim g S w) (hv : V g d v) (h : n = 1 + (n - 1)) : At0 n g w [] (argsE [d]) S { tmps := #[v] ++ Array.replicate (n - 1) undef, defers := [] } w :=
  ⟨g, .refl _ _, hs, args_env ⟨rfl, fun j d' hd => by
    cases j with
    | zero => simp only [List.getElem?_cons_zero, Option.some.injEq] at hd; subst hd; exact hv
    | succ j => simp at hd⟩, by simp; omega, rfl⟩
theorem no_res (t : Array Value) (w : World) : (results Tryz.f91 t).run Tryz.prog w = .ok (.tuple #[]) w := by rw [results_eq, show Tryz.f91.results = #[] from rfl, Array.mapM_eq_mapM_toList]; rfl
/-- nothing was thrown -/
theorem dfr_quiet {m : Nat} {S : St} {g : G} {w : World} {pv : Value} (hs : Sim g S w) (hv : V g (.ptr m 0 0) pv) (hG : Glob g gl0) :
    CallsD Tryz.prog 91 #[pv] .returning w (fun e u' w' => (∃ v, e = .returned v) ∧ u' = .returning ∧ ∃ g', Keep g g' w w' ∧ Sim g' S w') := by
  refine callsD_of_wpS Tryz.func91 rfl fun c0 cs hc0 => ?_
  have h0 := at0_start (n := 16) hs hv rfl
  have hrec : recoverD (c0 :: cs) = none := by simp [recoverD, hc0]
  refine wpS_seq (wpS_region ?_)
  show wpOpsS _ _ _ [0, 1] _ _ _
  unfold wpOpsS
  show (match recoverD (c0 :: cs) with | some (v, cs') => _ | none => _)
  rw [hrec]
  refine opsS_at0 hG rfl rfl (fun t h => by cases h; decide) rfl (at0_put h0 (t := 4) (by decide) .nilifc) fun a1 w1 hs1 => ?_
  refine wpS_of_wp ?_
  have e1 : updO (updO (argsE [D.ptr m 0 0]) (some 4) D.nilifc) (some 1) .nilifc 1 = .nilifc := rfl
  refine wp_seq (reg_at0 (fun E2 S2 => S2 = S ∧ E2 6 = B false) hG (show At0 16 g w [] (updO (updO (argsE [D.ptr m 0 0]) (some 4) D.nilifc) (some 1) .nilifc) S a1 w1 from hs1) (by kernel_rfl) ?_ ?_)
  · revert e1
    generalize updO (updO (argsE [D.ptr m 0 0]) (some 4) D.nilifc) (some 1) .nilifc = E1
    intro e1
    simp only [opsN, go_sem, e1, ne_nil, Nat.reduceEqDiff, Nat.reduceAdd, Nat.reduceLeDiff, Option.map_some, true_and, and_true]
  rintro E2 S2 a2 w2 ⟨rfl, q6⟩ hs2
  change (Code.cond (.tmp 6) _ _).wp _ _ _ _
  refine wp_cond_false (eval_at0 hG hs2 q6) ?_
  refine wp_skip ?_
  obtain ⟨g', k1, k2, k3, k4, k5⟩ := hs2
  exact ⟨k5, .returning, by rw [← hc0], _, no_res _ _, ⟨_, rfl⟩, rfl, g', k1, k2⟩
/-- what was thrown is told -/
theorem dfr_caught {m : Nat} {y : D} {x : Int} {S : St} (hrow : S.tab m = some ⟨0, [y]⟩) {g : G} {w : World} {pv v : Value} (hs : Sim g S w) (hp : V g (.ptr m 0 0) pv) (hv : V g (.ifc 29 (I x)) v) (hG : Glob g gl0) :
    CallsD Tryz.prog 91 #[pv] (.panicking [{ v, recovered := false }]) w (fun e u' w' => (∃ v, e = .returned v) ∧ u' = .panicking [{ v, recovered := true }] ∧ ∃ g', Keep g g' w w' ∧ Sim g' (S.put m (some ⟨0, [I x]⟩)) w') := by
  refine callsD_of_wpS Tryz.func91 rfl fun c0 cs hc0 => ?_
  have h0 := at0_start (n := 16) hs hp rfl
  have hrec : recoverD (c0 :: cs) = some (v, { c0 with mode := .panicking [{ v, recovered := true }] } :: cs) := by simp [recoverD, hc0]
  refine wpS_seq (wpS_region ?_)
  show wpOpsS _ _ _ [0, 1] _ _ _
  unfold wpOpsS
  show (match recoverD (c0 :: cs) with | some (v, cs') => _ | none => _)
  rw [hrec]
  refine opsS_at0 hG rfl rfl (fun t h => by cases h; decide) rfl (at0_put h0 (t := 4) (by decide) hv) fun a1 w1 hs1 => ?_
  refine wpS_of_wp ?_
  refine wp_mono (dfr_code hrow (x := x) (E := updO (updO (argsE [D.ptr m 0 0]) (some 4) (.ifc 29 (I x))) (some 1) (.ifc 29 (I x))) rfl rfl hG (show At0 16 g w [] (updO (updO (argsE [D.ptr m 0 0]) (some 4) (.ifc 29 (I x))) (some 1) (.ifc 29 (I x))) S a1 w1 from hs1)) ?_
  rintro e a2 w2 ⟨rfl, E2, g', k1, k2, k3, k4, k5⟩
  exact ⟨k5, _, rfl, _, no_res _ _, ⟨_, rfl⟩, rfl, g', k1, k2⟩
theorem V_fn_inv {g : G} {f : Fn} {a b : List D} {v : Value} (h : V g (.fn f a b) v) : ∃ vs us, v = .func f vs us ∧ VL g a vs ∧ VL g b us := by
  cases h with
  | fn h1 h2 k1 k2 => exact ⟨_, _, rfl, ⟨h1, k1⟩, ⟨h2, k2⟩⟩
theorem VL_nil_inv {g : G} {vs : Array Value} (h : VL g [] vs) : vs = #[] := Array.eq_empty_of_size_eq_zero (by simpa using h.1)
theorem VL_one_inv {g : G} {d : D} {vs : Array Value} (h : VL g [d] vs) : ∃ v, vs = #[v] ∧ V g d v := by
  obtain ⟨v, rfl⟩ := Array.size_eq_one_iff.1 (by simpa using h.1)
  exact ⟨v, rfl, by simpa using h.2 0 d rfl⟩
theorem ld_err {S : St} {m : Nat} {x : Int} (hrow : S.tab m = some ⟨0, [I x]⟩) : ldD Tryz.prog S 29 (.ptr m 0 0) = some (I x) := by
  have hz : aggB Tryz.prog 29 = some false := by kernel_rfl
  simp [ldD, hrow, sz_err, hz, whole]
/-- the end of 'try' -/
theorem try_end {g g' : G} {w w' : World} {m : Nat} {e : Int} {es2 : Sto} {acc : List Nat} {d2 : D} {ts' : Sto} {tmps : Array Value} (h0 : ∀ i v, m ≤ i → g.r i v = none) (hk : Keep g g' w w') (hs : Sim g' (stL es2) w') (hrow : rowOf es2 m = some ⟨0, [I e]⟩) (hp : V g' (.ptr m 0 0) (tmps.getD 2 undef))
    (hgc : gcA m [I e] es2 = some (acc, [d2], ts')) : ∃ v, (results Tryz.f54 tmps).run Tryz.prog w' = .ok v w' ∧ Lands g w (fun r' s => r' = .ret d2 ∧ s = stL ts') (.returned v) w' := by
  have he : Env g' (fun t => if t = 2 then .ptr m 0 0 else .undef) { tmps, defers := [] } := fun t => by
    by_cases h : t = 2
    · subst h; simpa using hp
    · simp only [if_neg h]; exact .undef
  obtain ⟨v, p1, p2⟩ := results_run (P := Tryz.prog) (fn := Tryz.f54) (ds := [I e]) hs he (by
    show resultsD _ _ _ [.cell 2 29] = _
    simp only [resultsD, if_true]
    rw [ld_err (by rw [stL_row]; exact hrow)])
  obtain ⟨s1, s2⟩ := hs.gc hgc
  have hv2 := s2 #[v] ⟨rfl, fun j d hd => by
    cases j with
    | zero => simp only [List.getElem?_cons_zero, Option.some.injEq] at hd; subst hd; exact p2
    | succ j => simp at hd⟩
  exact ⟨v, p1, _, _, hk.gc h0, s1, _, by simpa using hv2.2 0 _ rfl, rfl, rfl⟩
theorem zero_err : zeroD Tryz.prog 29 = some [I 0] := by kernel_rfl
theorem inv_try {w : World} {us : Array Value} : (invoke (.fn (.func 91) us) (#[] ++ #[])).run Tryz.prog w = .ok (.enter 91 us) w := by
  have h : ((#[] : Array Value) ++ #[]) ++ us = us := by simp
  simp only [invoke, callFunc, run_program, Sem.run_bind, Tryz.func91, h]
  rfl
theorem put_row {ts : Sto} {m : Nat} (h : m < ts.length) (e : En) : rowOf (Bw.toL ((stL ts).put m (some e))) m = some e ∧ stL (Bw.toL ((stL ts).put m (some e))) = (stL ts).put m (some e) := by
  have hwf : ((stL ts).put m (some e)).wf := by
    intro i hi
    rw [St.put_tab]
    rw [St.put_next, stL_next] at hi
    rw [if_neg (by omega)]
    exact wf_stL ts i (by rw [stL_next]; exact hi)
  have := hwf.stL_toL
  refine ⟨?_, this⟩
  rw [← stL_row, this, St.put_tab, if_pos rfl]
theorem ops_defer {P : Program} {a : Act} {w : World} {ops : Array Oper} {i : Nat} {rest : List Nat} {Q : Exit → Act → World → Prop} {o : Oper} {t : Tmp} {f : Fn} {vs us : Array Value} (ho : ops[i]? = some o) (hg : o.guard = none) (hd : o.dst = none) (hop : o.op = .defer ⟨.value (.tmp t), #[], #[]⟩) (h : a.eval (.tmp t) = .func f vs us)
    (K : wpOps P ops Q rest { a with defers := { target := .fn f us, args := vs ++ #[] } :: a.defers } w) : wpOps P ops Q (i :: rest) a w := by
  unfold wpOps
  simp only [ho]
  rw [if_pos (wanted_none hg _)]
  refine .inl ?_
  unfold Oper.wp
  have : (execOp a.eval o).run P w = .ok (.defer { target := .fn f us, args := vs ++ #[] }) w := by
    simp only [execOp, hop, resolve, h, Deferred.ofValue, Sem.run_bind, Sem.run_pure, Result.andThen_ok, Array.map_empty, List.map_toArray, List.map_nil]
  rw [this, Oper.upon_defer, hd]
  exact K
theorem ops_call {P : Program} {GL : Nat → D} {n : Nat} {g0 : G} {w0 : World} {ds : List Deferred} {E : Nat → D} {S : St} {a : Act} {w : World} {ops : Array Oper} {i : Nat} {rest : List Nat} {Q : Exit → Act → World → Prop} {o : Oper} {fo : Operand} {d : D} {Pst : R → St → Prop} (hG : Glob g0 GL) (ho : ops[i]? = some o) (hg : o.guard = none) (hc : calleeOf o = some (fo, []))
    (hfd : rhoD E GL fo = d) (hdst : ∀ t, o.dst = some t → t < n) (hst : At0 n g0 w0 ds E S a w) (hcall : CallV P GL d [] S Pst)
    (hret : ∀ g' a' w' d' S', Pst (.ret d') S' → Keep g0 g' w0 w' → Sim g' S' w' → Env g' (updO E o.dst d') a' → a'.tmps.size = n → a'.defers = ds → wpOps P ops Q rest a' w')
    (hpan : ∀ g' w' d' v S', Pst (.pan d') S' → Keep g0 g' w0 w' → Sim g' S' w' → V g' d' v → Env g' E a → a.defers = ds → Q (.panic [{ v, recovered := false }]) a w') : wpOps P ops Q (i :: rest) a w := by
  obtain ⟨g, k1, k2, k3, k4, k5⟩ := hst
  unfold wpOps
  simp only [ho]
  rw [if_pos (wanted_none hg _)]
  refine .inl ?_
  have hfv := rho_V k3 (hG.mono k1.le) fo
  rw [hfd] at hfv
  unfold CallV at hcall
  split at hcall
  · rename_i fi first caps
    obtain ⟨vs, us, hev, h1, h2⟩ := V_fn_inv hfv
    unfold Oper.wp
    rw [exec_call hc hev hcall.1, Oper.upon_enter]
    refine (hcall.2 g w _ k2 (VL_append (VL_append h1 ⟨rfl, fun j d hd => by simp at hd⟩) h2) (hG.mono k1.le)).mono fun e w' ⟨g', S', l1, l2, l3⟩ => ?_
    cases e with
    | returned v =>
      obtain ⟨d', q1, q2⟩ := l3
      exact hret g' _ w' d' S' q2 (k1.trans l1) l2 ((k3.mono l1.le).put q1 (fun t ht => by rw [k4]; exact hdst t ht)) (by rw [put_size]; exact k4) (by rw [put_defers]; exact k5)
    | panicked c =>
      obtain ⟨v, d', rfl, q2, q3⟩ := l3
      exact hpan g' w' d' v S' q3 (k1.trans l1) l2 q2 (k3.mono l1.le) k5
    | outgrown => exact l3.elim
  · exact hcall.elim
set_option maxHeartbeats 1000000 in
theorem try_call {C : Orc} (hC : SoundO Tryz.prog gl0 C) {f : FuncId} {first caps : List D} {es ts ts' : Sto} {r : R} {y d2 : D} {e : Int} {acc : List Nat} (hcall : Bw.callV C (.fn (.func f) first caps) [] (es ++ [some ⟨0, [I 0]⟩]) = some (r, ts)) (hrow : rowOf ts es.length = some ⟨0, [y]⟩)
    (hr : (∃ d', r = .ret d' ∧ e = 0) ∨ r = .pan (.ifc 29 (I e))) (hgc : gcA es.length [I e] (Bw.toL ((stL ts).put es.length (some ⟨0, [I e]⟩))) = some (acc, [d2], ts')) :
    CallT Tryz.prog gl0 54 [.fn (.func f) first caps] (stL es) (fun r' s => r' = .ret d2 ∧ s = stL ts') := by
  refine ⟨by kernel_rfl, fun g w vs hs hv hG => ?_⟩
  obtain ⟨v0, rfl, hv0⟩ := VL_one_inv hv
  refine calls_of_wp_defers Tryz.func54 rfl ?_
  have hlt := rowOf_lt hrow
  have hnew : (stL es).new [I 0] = stL (es ++ [some ⟨0, [I 0]⟩]) := by rw [stL_new]
  have hrg : ∀ i v, es.length ≤ i → g.r i v = none := fun i v hi => hs.fresh i v (by rw [stL_next]; exact hi)
  have h0 := at0_start (n := 6) hs hv0 rfl
  refine wp_seq (reg_at0 (fun E S => E 0 = .fn (.func f) first caps ∧ E 2 = .ptr es.length 0 0 ∧ S = (stL es).new [I 0]) hG h0 (by kernel_rfl) ?_ ?_)
  · simp only [opsN, opD, zero_err, updO, upd, argsE, stL_next, true_and]
    exact ⟨rfl, rfl, trivial⟩
  rintro E1 S1 a1 w1 ⟨p0, p2, rfl⟩ hs1
  refine wp_seq (wp_region ?_)
  show wpOps _ _ _ [0, 1] _ _
  refine ops_at0 hG rfl rfl (fun t h => by cases h; decide) rfl hs1 fun a2 w2 hs2 => ?_
  obtain ⟨g2, k1, k2, (k3 : Env g2 (updO E1 (some 3) (.fn (.func 91) [] [E1 2])) a2), k4, k5⟩ := hs2
  have hv3 := k3 3
  rw [show updO E1 (some 3) (.fn (.func 91) [] [E1 2]) 3 = .fn (.func 91) [] [E1 2] from rfl, p2] at hv3
  obtain ⟨vs3, us3, hev3, h31, h32⟩ := V_fn_inv hv3
  obtain rfl := VL_nil_inv h31
  obtain ⟨pv, rfl, hpv⟩ := VL_one_inv h32
  refine ops_defer (t := 3) rfl rfl rfl rfl hev3 ?_
  have hK1 := k1
  have hG2 := hG.mono k1.le
  have hs3 : At0 6 g2 w2 [{ target := .fn (.func 91) #[pv], args := #[] ++ #[] }] (updO E1 (some 3) (.fn (.func 91) [] [E1 2])) ((stL es).new [I 0]) { a2 with defers := { target := .fn (.func 91) #[pv], args := #[] ++ #[] } :: a2.defers } w2 := ⟨g2, .refl _ _, k2, k3, k4, by simp only [k5]⟩
  have r0 : updO E1 (some 3) (.fn (.func 91) [] [E1 2]) 0 = .fn (.func f) first caps := p0
  have r2 : updO E1 (some 3) (.fn (.func 91) [] [E1 2]) 2 = .ptr es.length 0 0 := p2
  revert hs3 r0 r2
  generalize updO E1 (some 3) (.fn (.func 91) [] [E1 2]) = E2
  show At0 _ _ _ _ _ _ ?a3 _ → _ → _ → Code.wp _ _ _ ?a3 _
  generalize (Act.mk a2.tmps ({ target := .fn (.func 91) #[pv], args := #[] ++ #[] } :: a2.defers)) = a3
  intro hs3 r0 r2
  -- region 2: the call
  refine wp_seq (wp_region ?_)
  show wpOps _ _ _ [0, 1] _ _
  refine ops_at0 hG2 rfl rfl (fun t h => by cases h; decide) rfl hs3 fun a4 w4 (hs4 : At0 6 g2 w2 _ (updO E2 (some 4) (E2 0)) _ a4 w4) => ?_
  refine ops_call (o := ⟨some 5, .call ⟨.value (.tmp 4), #[], #[]⟩, 0, _, _, none⟩) (d := .fn (.func f) first caps) hG2 rfl rfl rfl (by exact r0) (by decide) hs4 (by rw [hnew]; exact callV_sound hC hcall) ?_ ?_
  · -- it came back
    rintro g5 a5 w5 d5 S5 ⟨rfl, rfl⟩ q1 q2 q3 q4 q5
    have he0 : e = 0 := by
      rcases hr with ⟨_, _, h⟩ | h
      · exact h
      · cases h
    subst he0
    refine wp_seq (reg_at0 (fun E S => E 2 = .ptr es.length 0 0 ∧ S = (stL ts).put es.length (some ⟨0, [I 0]⟩)) hG2 ⟨g5, q1, q2, q3, q4, q5⟩ (by kernel_rfl) ?_ ?_)
    · have e2 : updO (updO E2 (some 4) (E2 0)) (some 5) d5 2 = .ptr es.length 0 0 := r2
      have hr2 : (stL ts).tab es.length = some ⟨0, [y]⟩ := hrow
      revert e2
      show updO (updO E2 (some 4) (E2 0)) _ d5 2 = _ → _
      generalize updO (updO E2 (some 4) (E2 0)) _ d5 = E5
      intro e2
      simp only [opsN, go_sem, e2, hr2, sz_err, List.length_singleton, Nat.le_refl, and_self, if_true, List.drop_one, List.tail_cons, Option.map_some, Nat.reduceEqDiff, Nat.reduceAdd, Nat.reduceLeDiff, true_and]
    rintro E6 S6 a6 w6 ⟨t2, rfl⟩ ⟨g6, k1, k2, k3, k4, k5⟩
    refine wp_ret ?_
    show Leaves _ _ a6.tmps _ a6.defers .returning w6
    rw [k5]
    have hp6 := k3 2
    rw [t2] at hp6
    obtain ⟨hrw, hst⟩ := put_row hlt ⟨0, [I 0]⟩
    have hpv6 := hpv.mono k1.le
    refine leaves_cons (by simp) inv_try (CallsD.mono (dfr_quiet k2 hpv6 (hG2.mono k1.le)) ?_)
    rintro x u' w' ⟨⟨v, rfl⟩, rfl, g7, l1, l2⟩
    show Leaves _ _ _ _ [] (settle .returning) w'
    exact try_end hrg (hK1.trans (k1.trans l1)) (by rw [hst]; exact l2) hrw (hp6.mono l1.le) hgc
  · rintro g5 w5 d5 v5 S5 ⟨rfl, rfl⟩ q1 q2 q3 q4 q5
    obtain rfl : d5 = .ifc 29 (I e) := by
      rcases hr with ⟨_, h, _⟩ | h
      · cases h
      · injection h
    show Leaves _ _ a4.tmps _ a4.defers (.panicking _) w5
    rw [q5]
    have hp6 := q4 2
    rw [show updO E2 (some 4) (E2 0) 2 = .ptr es.length 0 0 from r2] at hp6
    obtain ⟨hrw, hst⟩ := put_row hlt ⟨0, [I e]⟩
    have hpv6 := hpv.mono q1.le
    refine leaves_cons (by simp) inv_try (CallsD.mono (dfr_caught (x := e) hrow q2 hpv6 q3 (hG2.mono q1.le)) ?_)
    rintro x u' w' ⟨⟨v, rfl⟩, rfl, g7, l1, l2⟩
    show Leaves _ _ _ _ [] (settle (.panicking _)) w'
    exact try_end hrg (hK1.trans (q1.trans l1)) (by rw [hst]; exact l2) hrw (hp6.mono l1.le) hgc
end Go.Bw.R1

/- Plain: a head hangs on its own bytes alone; cut, it is short. -/
namespace Go.Bw.R1
set_option maxRecDepth 5000
open Go Go.Bw
theorem take_app' {a b : List UInt8} {n : Nat} (h : a.length = n) : takeL n (a ++ b) = .ok (a, b) := by
  unfold takeL
  rw [if_neg (by rw [List.length_append]; omega), List.take_left' h, List.drop_left' h]
theorem takeL_inv {n : Nat} {l a b : List UInt8} (h : takeL n l = .ok (a, b)) : a.length = n ∧ l = a ++ b := by
  unfold takeL at h
  split at h
  · cases h
  · injection h with h
    injection h with h1 h2
    subst h1 h2
    exact ⟨by rw [List.length_take]; omega, (List.take_append_drop _ _).symm⟩
theorem takeL_short {n : Nat} {l : List UInt8} (h : l.length < n) : takeL n l = .error 7 := by unfold takeL; rw [if_pos h]
theorem dataL_pre {c : Int} {l d r : List UInt8} (h : dataL c l = .ok (d, r)) : (∀ r', dataL c (d ++ r') = .ok (d, r')) ∧ ∀ k, k < d.length → dataL c (d.take k) = .error 7 := by
  unfold dataL at h
  by_cases hc : c < 160
  · rw [if_pos hc] at h
    obtain ⟨a, b⟩ := takeL_inv h
    refine ⟨fun r' => by unfold dataL; rw [if_pos hc]; exact take_app' a, fun k hk => by unfold dataL; rw [if_pos hc]; exact takeL_short (by rw [List.length_take]; omega)⟩
  · rw [if_neg hc] at h
    cases h1 : takeL (wideC c) l with
    | error e => rw [h1] at h; cases h
    | ok y =>
      obtain ⟨hh, l1⟩ := y
      rw [h1] at h
      dsimp only at h
      cases h2 : takeL (beN hh) l1 with
      | error e => rw [h2] at h; cases h
      | ok z =>
        obtain ⟨d', l2⟩ := z
        rw [h2] at h
        dsimp only at h
        injection h with h
        injection h with e1 e2
        subst e1 e2
        obtain ⟨a1, b1⟩ := takeL_inv h1
        obtain ⟨a2, b2⟩ := takeL_inv h2
        refine ⟨fun r' => ?_, fun k hk => ?_⟩
        · unfold dataL
          rw [if_neg hc, List.append_assoc, take_app' a1]
          dsimp only
          rw [take_app' a2]
        · unfold dataL
          rw [if_neg hc]
          by_cases hkw : k < wideC c
          · rw [takeL_short (by rw [List.length_take]; omega)]
          · have e : (hh ++ d').take k = hh ++ d'.take (k - hh.length) := by rw [List.take_append, List.take_of_length_le (by omega)]
            rw [e, take_app' a1]
            dsimp only
            rw [List.length_append] at hk
            rw [takeL_short (by rw [List.length_take]; omega)]
theorem consL_pre : ∀ (n : Nat) (l : List UInt8) (ns : List Val) (C : Int) (r : List UInt8), consL n l = .ok ((ns, C), r) → ∃ p, l = p ++ r ∧ 0 < p.length ∧ (∀ r' m, (p ++ r').length < m → consL m (p ++ r') = .ok ((ns, C), r')) ∧ ∀ k m, k < p.length → k < m → consL m (p.take k) = .error 7
  | 0, _, _, _, _, h => by cases h
  | n + 1, l, ns, C, r, h => by
    rw [consL_succ] at h
    unfold consS at h
    have one : ∀ (c : UInt8) (r : List UInt8), ¬ u8I c = 0 → ¬ kindC (u8I c) = 0 → ∃ p, c :: r = p ++ r ∧ 0 < p.length ∧ (∀ r' m, (p ++ r').length < m → consL m (p ++ r') = .ok (([], u8I c), r')) ∧ ∀ k m, k < p.length → k < m → consL m (p.take k) = .error 7 := fun c r h0 hk => by
      refine ⟨[c], rfl, by simp, fun r' m hm => ?_, fun k m hk hm => ?_⟩
      · obtain ⟨m, rfl⟩ : ∃ q, m = q + 1 := ⟨m - 1, by omega⟩
        exact consL_code' h0 hk
      · obtain ⟨m, rfl⟩ : ∃ q, m = q + 1 := ⟨m - 1, by omega⟩
        obtain rfl : k = 0 := by simpa using hk
        rfl
    match l, h with
    | [], h => cases h
    | c :: [], h =>
      dsimp only at h
      split at h
      · cases h
      · rename_i h0
        split at h
        · cases h
        · rename_i hk
          injection h with h
          injection h with h1 h2
          injection h1 with h1 h3
          subst h1 h2 h3
          exact one c [] h0 hk
    | c :: k :: r2, h =>
      dsimp only at h
      split at h
      · rename_i h0
        unfold nameS at h
        split at h
        · cases h
        · rename_i hk
          cases hd : dataL (u8I k) r2 with
          | error e => rw [hd] at h; cases h
          | ok y =>
            obtain ⟨d, r3⟩ := y
            rw [hd] at h
            dsimp only at h
            cases hc : consL n r3 with
            | error e => rw [hc] at h; cases h
            | ok z =>
              obtain ⟨⟨ms, D⟩, r4⟩ := z
              rw [hc] at h
              dsimp only at h
              injection h with h
              injection h with h1 h2
              injection h1 with h1 h3
              subst h1 h2 h3
              obtain ⟨p, p1, p2, p3, p4⟩ := consL_pre n r3 ms D r4 hc
              obtain ⟨q1, q2⟩ := dataL_pre hd
              refine ⟨c :: k :: (d ++ p), by rw [(dataL_len hd).2.2.2, p1]; simp, by simp, fun r' m hm => ?_, fun j m hj hm => ?_⟩
              · obtain ⟨m, rfl⟩ : ∃ q, m = q + 1 := ⟨m - 1, by omega⟩
                rw [consL_succ]
                simp only [List.cons_append, List.append_assoc]
                unfold consS
                dsimp only
                rw [if_pos h0]
                unfold nameS
                rw [if_neg hk, q1]
                dsimp only
                rw [p3 r' m (by simp only [List.cons_append, List.length_cons, List.length_append] at hm ⊢; omega)]
              · obtain ⟨m, rfl⟩ : ∃ q, m = q + 1 := ⟨m - 1, by omega⟩
                rw [consL_succ]
                match j, hj, hm with
                | 0, _, _ => rfl
                | 1, _, _ =>
                  show consS (consL m) [c] = _
                  unfold consS
                  dsimp only
                  rw [if_pos h0]
                | j + 2, hj, hm =>
                  show consS (consL m) (c :: k :: (d ++ p).take j) = _
                  unfold consS
                  dsimp only
                  rw [if_pos h0]
                  unfold nameS
                  rw [if_neg hk]
                  simp only [List.length_cons, List.length_append] at hj
                  by_cases hjd : j < d.length
                  · have e : (d ++ p).take j = d.take j := by rw [List.take_append, show j - d.length = 0 by omega, List.take_zero, List.append_nil]
                    rw [e, q2 j hjd]
                  · have e : (d ++ p).take j = d ++ p.take (j - d.length) := by rw [List.take_append, List.take_of_length_le (by omega)]
                    rw [e, q1]
                    dsimp only
                    rw [p4 (j - d.length) m (by omega) (by omega)]
      · rename_i h0
        split at h
        · cases h
        · rename_i hk
          injection h with h
          injection h with h1 h2
          injection h1 with h1 h3
          subst h1 h2 h3
          exact one c (k :: r2) h0 hk
theorem headL_pre {l r : List UInt8} (h : headL l = .ok r) : ∃ p, l = p ++ r ∧ 0 < p.length ∧ (∀ r', headL (p ++ r') = .ok r') ∧ ∀ k, k < p.length → headL (p.take k) = .error 7 := by
  unfold headL at h
  cases hc : consL (l.length + 1) l with
  | error e => rw [hc] at h; cases h
  | ok y =>
    obtain ⟨⟨ns, C⟩, r1⟩ := y
    rw [hc] at h
    dsimp only at h
    cases hd : dataL C r1 with
    | error e => rw [hd] at h; cases h
    | ok z =>
      obtain ⟨d, r2⟩ := z
      rw [hd] at h
      dsimp only at h
      injection h with h
      subst h
      obtain ⟨p, p1, p2, p3, p4⟩ := consL_pre _ _ _ _ _ hc
      obtain ⟨q1, q2⟩ := dataL_pre hd
      refine ⟨p ++ d, by rw [p1, (dataL_len hd).2.2.2, List.append_assoc], by rw [List.length_append]; omega, fun r' => ?_, fun k hk => ?_⟩
      · unfold headL
        rw [List.append_assoc, p3 (d ++ r') _ (by omega)]
        dsimp only
        rw [q1]
      · unfold headL
        rw [List.length_append] at hk
        by_cases hkp : k < p.length
        · have e : (p ++ d).take k = p.take k := by rw [List.take_append, show k - p.length = 0 by omega, List.take_zero, List.append_nil]
          rw [e, p4 k _ hkp (by rw [List.length_take]; omega)]
        · have e : (p ++ d).take k = p ++ d.take (k - p.length) := by rw [List.take_append, List.take_of_length_le (by omega)]
          rw [e, p3 _ _ (by omega)]
          dsimp only
          rw [q2 _ (by omega)]
/-- what is wrong at the beginning stays so -/
theorem consL_form : ∀ (n : Nat) (l : List UInt8) (e : Int), consL n l = .error e → l.length < n → e = 7 ∨ e = 6 ∧ ∀ r' m, (l ++ r').length < m → consL m (l ++ r') = .error 6
  | 0, _, _, _, h => by omega
  | n + 1, l, e, h, hn => by
    rw [consL_succ] at h
    unfold consS at h
    have wrong : ∀ (c : UInt8) (r : List UInt8), ¬ u8I c = 0 → kindC (u8I c) = 0 → ∀ r' m, ((c :: r) ++ r').length < m → consL m ((c :: r) ++ r') = .error 6 := fun c r h0 hk r' m hm => by
      obtain ⟨m, rfl⟩ : ∃ q, m = q + 1 := ⟨m - 1, by omega⟩
      rw [consL_succ, List.cons_append]; unfold consS; dsimp only; rw [if_neg h0, if_pos hk]
    match l, h, hn with
    | [], h, _ => injection h with h; exact .inl h.symm
    | c :: [], h, hn =>
      dsimp only at h
      split at h
      · injection h with h; exact .inl h.symm
      · rename_i h0
        split at h
        · rename_i hk
          injection h with h
          exact .inr ⟨h.symm, wrong c [] h0 hk⟩
        · cases h
    | c :: k :: r2, h, hn =>
      dsimp only at h
      split at h
      · rename_i h0
        unfold nameS at h
        split at h
        · rename_i hk
          injection h with h
          refine .inr ⟨h.symm, fun r' m hm => ?_⟩
          obtain ⟨m, rfl⟩ : ∃ q, m = q + 1 := ⟨m - 1, by omega⟩
          rw [consL_succ, List.cons_append, List.cons_append]; unfold consS; dsimp only; rw [if_pos h0]; unfold nameS; rw [if_pos hk]
        · rename_i hk
          cases hd : dataL (u8I k) r2 with
          | error e' =>
            rw [hd] at h
            injection h with h
            left
            rw [← h]
            unfold dataL takeL at hd
            split at hd
            · split at hd
              · injection hd with hd; exact hd.symm
              · cases hd
            · split at hd
              · rename_i e1 h1
                split at h1
                · injection h1 with h1; injection hd with hd; omega
                · cases h1
              · split at hd
                · rename_i e1 h1
                  split at h1
                  · injection h1 with h1; injection hd with hd; omega
                  · cases h1
                · cases hd
          | ok y =>
            obtain ⟨d, r3⟩ := y
            rw [hd] at h
            dsimp only at h
            obtain ⟨q1, q2⟩ := dataL_pre hd
            have hl := (dataL_len hd).2.2
            simp only [List.length_cons] at hn
            cases hc : consL n r3 with
            | error e' =>
              rw [hc] at h
              dsimp only at h
              injection h with h
              rcases consL_form n r3 e' hc (by omega) with h7 | ⟨h6, hh⟩
              · exact .inl (by omega)
              · refine .inr ⟨by omega, fun r' m hm => ?_⟩
                obtain ⟨m, rfl⟩ : ∃ q, m = q + 1 := ⟨m - 1, by omega⟩
                rw [consL_succ, List.cons_append, List.cons_append]; unfold consS; dsimp only; rw [if_pos h0]; unfold nameS
                rw [if_neg hk, hl.2, List.append_assoc, q1]
                dsimp only
                rw [hh r' m (by rw [hl.2] at hm; simp only [List.cons_append, List.length_cons, List.length_append] at hm ⊢; omega)]
            | ok z =>
              obtain ⟨⟨ms, D⟩, r4⟩ := z
              rw [hc] at h
              cases h
      · rename_i h0
        split at h
        · rename_i hk
          injection h with h
          exact .inr ⟨h.symm, wrong c (k :: r2) h0 hk⟩
        · cases h
end Go.Bw.R1

/- Plain: a value hangs on its own bytes alone. -/
namespace Go.Bw.R1
set_option maxRecDepth 5000
open Go Go.Bw
/-- decode.Value, behind its head -/
def tailS (q : List UInt8) : Except Int (Val × Nat) :=
  match valF (readF q.length) q with
  | .error _ => .error 6
  | .ok (v, _) => if rightS v = true then .ok (v, q.length) else .error 6
theorem decS_ok {l r p : List UInt8} (h : headL l = .ok r) (hp : l = p ++ r) : decS l = tailS p := by
  have hn : l.length - r.length = p.length := by rw [hp, List.length_append]; omega
  unfold decS tailS
  rw [h]
  dsimp only
  rw [hn, hp, List.take_left' rfl]
  all_goals (cases valF (readF p.length) p <;> rfl)
theorem decS_err {l : List UInt8} {e : Int} (h : headL l = .error e) : decS l = .error e := by unfold decS; rw [h]
theorem headL_err {l : List UInt8} {e : Int} (h : headL l = .error e) : e = 7 ∨ e = 6 ∧ ∀ r', headL (l ++ r') = .error 6 := by
  unfold headL at h
  cases hc : consL (l.length + 1) l with
  | error e' =>
    rw [hc] at h
    injection h with h
    rcases consL_form _ l e' hc (by omega) with h7 | ⟨h6, hh⟩
    · exact .inl (by omega)
    · refine .inr ⟨by omega, fun r' => ?_⟩
      unfold headL
      rw [hh r' _ (by omega)]
  | ok y =>
    obtain ⟨⟨ns, C⟩, r⟩ := y
    rw [hc] at h
    dsimp only at h
    cases hd : dataL C r with
    | ok z => rw [hd] at h; cases h
    | error e' =>
      rw [hd] at h
      injection h with h
      left
      rw [← h]
      unfold dataL takeL at hd
      split at hd
      · split at hd
        · injection hd with hd; exact hd.symm
        · cases hd
      · split at hd
        · rename_i e1 h1
          split at h1
          · injection h1 with h1; injection hd with hd; omega
          · cases h1
        · split at hd
          · rename_i e1 h1
            split at h1
            · injection h1 with h1; injection hd with hd; omega
            · cases h1
          · cases hd
theorem own_ok {b : List UInt8} {v : Val} {n : Nat} (h : decS b = .ok (v, n)) : 1 ≤ n ∧ n ≤ b.length ∧ (∀ more, decS (b ++ more) = .ok (v, n)) ∧ decS (b.take (n - 1)) = .error 7 ∧ decS (b.take n) = .ok (v, n) ∧ rightS v = true := by
  cases hh : headL b with
  | error e => rw [decS_err hh] at h; cases h
  | ok r =>
    obtain ⟨p, p1, p2, p3, p4⟩ := headL_pre hh
    rw [decS_ok hh p1] at h
    have hn : n = p.length ∧ rightS v = true := by
      unfold tailS at h
      split at h
      · cases h
      · split at h
        · rename_i hr
          injection h with h
          injection h with h1 h2
          subst h1
          exact ⟨h2.symm, hr⟩
        · cases h
    obtain ⟨rfl, hr⟩ := hn
    refine ⟨p2, by rw [p1, List.length_append]; omega, fun more => ?_, ?_, ?_, hr⟩
    · rw [p1, List.append_assoc, decS_ok (p3 (r ++ more)) rfl]; exact h
    · have e : b.take (p.length - 1) = p.take (p.length - 1) := by rw [p1, List.take_append, show p.length - 1 - p.length = 0 by omega, List.take_zero, List.append_nil]
      rw [e]; exact decS_err (p4 _ (by omega))
    · have e : b.take p.length = p ++ [] := by rw [p1, List.take_left' rfl, List.append_nil]
      rw [e, decS_ok (p3 []) rfl]; exact h
theorem own_err {b : List UInt8} {e : Int} (h : decS b = .error e) : (e = 6 ∧ ∀ more, decS (b ++ more) = .error 6) ∨ (e = 7 ∧ ∀ more w m, decS (b ++ more) = .ok (w, m) → b.length < m) := by
  cases hh : headL b with
  | error e' =>
    rw [decS_err hh] at h
    injection h with h
    rcases headL_err hh with h7 | ⟨h6, h2⟩
    · refine .inr ⟨by omega, fun more w m hm => ?_⟩
      obtain ⟨a1, a2, _, _, a3, _⟩ := own_ok hm
      rcases Nat.lt_or_ge b.length m with hlt | hge
      · exact hlt
      · exfalso
        have e1 : (b ++ more).take m = b.take m := by rw [List.take_append, show m - b.length = 0 by omega, List.take_zero, List.append_nil]
        rw [e1] at a3
        obtain ⟨_, _, b3, _⟩ := own_ok a3
        have b4 := b3 (b.drop m)
        rw [List.take_append_drop, decS_err hh] at b4
        cases b4
    · exact .inl ⟨by omega, fun more => decS_err (h2 more)⟩
  | ok r =>
    obtain ⟨p, p1, p2, p3, p4⟩ := headL_pre hh
    rw [decS_ok hh p1] at h
    have h6 : e = 6 := by
      unfold tailS at h
      split at h
      · injection h with h; exact h.symm
      · split at h
        · cases h
        · injection h with h; exact h.symm
    subst h6
    exact .inl ⟨rfl, fun more => by rw [p1, List.append_assoc, decS_ok (p3 (r ++ more)) rfl]; exact h⟩
end Go.Bw.R1

/- decode.Value. -/
namespace Go.Bw.R1
set_option maxRecDepth 5000
open Go Go.Bw Go.Proofs
theorem takeL_e {n : Nat} {l : List UInt8} {e : Int} (h : takeL n l = .error e) : e ≠ 0 := by
  unfold takeL at h
  split at h
  · injection h with h; omega
  · cases h
theorem dataL_e {c : Int} {l : List UInt8} {e : Int} (h : dataL c l = .error e) : e ≠ 0 := by
  unfold dataL at h
  split at h
  · exact takeL_e h
  · split at h
    · rename_i e1 h1; injection h with h; subst h; exact takeL_e h1
    · split at h
      · rename_i e1 h1; injection h with h; subst h; exact takeL_e h1
      · cases h
theorem consL_e : ∀ (n : Nat) {l : List UInt8} {e : Int}, consL n l = .error e → e ≠ 0
  | 0, l, e, h => by injection h with h; omega
  | n + 1, l, e, h => by
    rw [consL_succ] at h
    unfold consS at h
    split at h
    · injection h with h; omega
    · split at h
      · split at h
        · injection h with h; omega
        · unfold nameS at h
          split at h
          · injection h with h; omega
          · split at h
            · rename_i e1 h1; injection h with h; subst h; exact dataL_e h1
            · split at h
              · rename_i e1 h1; injection h with h; subst h; exact consL_e n h1
              · cases h
      · split at h
        · injection h with h; omega
        · cases h
theorem headL_e {l : List UInt8} {e : Int} (h : headL l = .error e) : e ≠ 0 := by
  rcases headL_err h with h | ⟨h, _⟩ <;> omega
theorem itemF_e {rd : Int → List UInt8 → Except Int Val} (hr : ∀ c d e, rd c d = .error e → e ≠ 0) {ns : List Val} {c : Int} {l : List UInt8} {e : Int} (h : itemF rd ns c l = .error e) : e ≠ 0 := by
  unfold itemF at h
  split at h
  · rename_i e1 h1; injection h with h; subst h; exact dataL_e h1
  · split at h
    · rename_i e1 h1; injection h with h; subst h; exact hr _ _ _ h1
    · cases h
theorem valF_e {rd : Int → List UInt8 → Except Int Val} (hr : ∀ c d e, rd c d = .error e → e ≠ 0) {l : List UInt8} {e : Int} (h : valF rd l = .error e) : e ≠ 0 := by
  unfold valF at h
  split at h
  · rename_i e1 h1; injection h with h; subst h; exact consL_e _ h1
  · exact itemF_e hr h
theorem manyF_e {st : List UInt8 → Except Int (Val × List UInt8)} (hs : ∀ l e, st l = .error e → e ≠ 0) : ∀ (n : Nat) {l : List UInt8} {e : Int}, manyF st n l = .error e → e ≠ 0
  | 0, _, _, h => by cases h
  | n + 1, l, e, h => by
    simp only [manyF] at h
    split at h
    · rename_i e1 h1; injection h with h; subst h; exact hs _ _ h1
    · split at h
      · rename_i e1 h1; injection h with h; subst h; exact manyF_e hs n h1
      · cases h
theorem endF_e {k : Int} {x : Except Int (List Val × List UInt8)} (hx : ∀ e, x = .error e → e ≠ 0) {e : Int} (h : endF k x = .error e) : e ≠ 0 := by
  unfold endF at h
  split at h
  · injection h with h; subst h; exact hx _ rfl
  · split at h
    · cases h
    · injection h with h; omega
theorem readF_e : ∀ (n : Nat) (c : Int) (d : List UInt8) (e : Int), readF n c d = .error e → e ≠ 0
  | 0, _, _, _, h => by injection h with h; omega
  | n + 1, c, d, e, h => by
    rw [readF_succ] at h
    unfold readS at h
    split at h
    · cases h
    · split at h
      · rename_i e1 h1; injection h with h; subst h; exact takeL_e h1
      · split at h
        · rename_i e1 h1; injection h with h; subst h; exact takeL_e h1
        · unfold bodyF at h
          split at h
          · injection h with h; omega
          · split at h
            · split at h
              · rename_i e1 h1; injection h with h; subst h; exact consL_e _ h1
              · exact endF_e (fun e he => manyF_e (fun l e h => itemF_e (readF_e n) h) _ he) h
            · exact endF_e (fun e he => manyF_e (fun l e h => valF_e (readF_e n) h) _ he) h

def tryG (o : Option En) (m : Nat) (e : Int) (ts : Sto) : Option (R × Sto) := match o with
  | some ⟨0, [_]⟩ => finR .ret (gcA m [I e] (Bw.toL ((stL ts).put m (some ⟨0, [I e]⟩))))
  | _ => none
def tryP (m : Nat) (ts : Sto) : D → Option (R × Sto)
  | .ifc t (.sc (.int .i64 e)) => if t = 29 then tryG (rowOf ts m) m e ts else none
  | _ => none
def tryR (m : Nat) : Option (R × Sto) → Option (R × Sto)
  | some (.ret _, ts) => tryG (rowOf ts m) m 0 ts
  | some (.pan d, ts) => tryP m ts d
  | _ => none
def tryO (C : Orc) (ds : List D) (es : Sto) : Option (R × Sto) := match ds with
  | [.fn (.func f) a b] => tryR es.length (Bw.callV C (.fn (.func f) a b) [] (es ++ [some ⟨0, [I 0]⟩]))
  | _ => none
theorem tryG_some {y : D} {m : Nat} {e : Int} {ts : Sto} : tryG (some ⟨0, [y]⟩) m e ts = finR .ret (gcA m [I e] (Bw.toL ((stL ts).put m (some ⟨0, [I e]⟩)))) := nr rfl
theorem tryP_some {m : Nat} {ts : Sto} {e : Int} : tryP m ts (.ifc 29 (I e)) = tryG (rowOf ts m) m e ts := nr rfl
theorem tryR_ret {m : Nat} {ts : Sto} {d : D} : tryR m (some (.ret d, ts)) = tryG (rowOf ts m) m 0 ts := nr rfl
theorem tryR_pan {m : Nat} {ts : Sto} {d : D} : tryR m (some (.pan d, ts)) = tryP m ts d := nr rfl
theorem tryO_one {C : Orc} {f : FuncId} {a b : List D} {es : Sto} : tryO C [.fn (.func f) a b] es = tryR es.length (Bw.callV C (.fn (.func f) a b) [] (es ++ [some ⟨0, [I 0]⟩])) := nr rfl
theorem finR_inv {mk : D → R} {x : Option (List Nat × List D × Sto)} {r : R} {ts : Sto} (h : finR mk x = some (r, ts)) : ∃ acc ds, x = some (acc, ds, ts) ∧ r = mk (ds.headD .undef) := by
  unfold finR at h
  split at h
  · rename_i acc ds es
    simp only [Option.some.injEq, Prod.mk.injEq] at h
    obtain ⟨rfl, rfl⟩ := h
    exact ⟨acc, ds, rfl, rfl⟩
  · cases h
theorem tryG_inv {o : Option En} {m : Nat} {e : Int} {ts ts' : Sto} {r : R} (h : tryG o m e ts = some (r, ts')) : ∃ y acc d2, o = some ⟨0, [y]⟩ ∧ gcA m [I e] (Bw.toL ((stL ts).put m (some ⟨0, [I e]⟩))) = some (acc, [d2], ts') ∧ r = .ret d2 := by
  unfold tryG at h
  split at h
  · rename_i y
    obtain ⟨acc, ds, h1, h2⟩ := finR_inv h
    obtain ⟨_, h3, _⟩ := gcA_spec h1
    simp only [D.renL] at h3
    subst h3
    exact ⟨y, acc, _, rfl, h1, h2⟩
  · cases h
def own2 (f : FuncId) : Bool := [3, 4, 5, 6, 7, 8, 9, 11, 18, 31].contains f
noncomputable def X2 : Orc := fun f ds es => if own2 f = true then none else if f = 54 then tryO EV ds es else EV f ds es
noncomputable abbrev EW : Orc := ev Tryz.prog gl0 An1 [] X2
theorem soundX2 (hm : Tryz.prog.follows .mixedOrders = true) : SoundO Tryz.prog gl0 X2 := by
  intro f ds es r ts h
  have hEV := ev_sound (P := Tryz.prog) (GL := gl0) (nc := []) an1_its soundX hm
  unfold X2 at h
  split at h
  · cases h
  split at h
  · rename_i hf
    subst hf
    unfold tryO at h
    split at h
    · rename_i f a b
      cases hc : Bw.callV EV (.fn (.func f) a b) [] (es ++ [some ⟨0, [I 0]⟩]) with
      | none => rw [hc] at h; cases h
      | some y =>
        obtain ⟨r1, ts1⟩ := y
        rw [hc] at h
        cases r1 with
        | ret d =>
          rw [tryR_ret] at h
          obtain ⟨y, acc, d2, h1, h2, rfl⟩ := tryG_inv h
          exact try_call hEV hc h1 (.inl ⟨d, rfl, rfl⟩) h2
        | pan d =>
          rw [tryR_pan] at h
          unfold tryP at h
          split at h
          · split at h
            · rename_i e ht
              subst ht
              obtain ⟨y, acc, d2, h1, h2, rfl⟩ := tryG_inv h
              exact try_call hEV hc h1 (.inr rfl) h2
            · cases h
          · cases h
    · cases h
  · exact hEV f ds es r ts h
theorem ew_of {f : FuncId} {ds : List D} {es : Sto} {r : R × Sto} (hf : (own2 f || f == 54) = false) (h : EV f ds es = some r) : EW f ds es = some r := by
  simp only [Bool.or_eq_false_iff] at hf
  refine ev_x ?_
  unfold X2
  rw [if_neg (by rw [hf.1]; decide), if_neg (by simpa using hf.2)]
  exact h
theorem ew_try {ds : List D} {es : Sto} {r : R × Sto} (h : tryO EV ds es = some r) : EW 54 ds es = some r := by
  refine ev_x ?_
  unfold X2
  rw [if_neg (by decide), if_pos rfl]
  exact h
def decR (x : Except Int (Val × Nat)) : R × Sto := match x with
  | .error e => (.ret (.tup [(Val.mk 0 0 e0 []).d, I 0, I e]), [])
  | .ok (v, n) => (.ret (.tup [v.d, I n, I 0]), [])
theorem try1_c (s : ByteArray) (hs2 : s.size ≤ 36000000) (x : Except Int (List UInt8)) (hx : headL (toL s) = x) : EW 54 [.fn (.func 55) [] [.ptr 0 0 0]] [some ⟨0, [.ptr 1 0 0]⟩, some ⟨0, rdr s 0⟩] =
    some (match x with
      | .error e => (.ret (I e), [some ⟨0, [.undef]⟩, some ⟨0, [.undef, .undef]⟩])
      | .ok r => (.ret (I 0), [some ⟨0, [.ptr 1 0 0]⟩, some ⟨0, rdr s (s.size - r.length)⟩])) := by
  have hv := v1_c s hs2
  rw [hx] at hv
  unfold v1R at hv
  refine ew_try ?_
  rw [tryO_one]
  cases x with
  | error e =>
    simp only [rdr, Int.cast_ofNat_Int] at hv ⊢
    simp +contextual (maxSteps := 10000000) only [go_sem, hv, tryR_pan, tryP_some, tryG_some]
  | ok r =>
    simp only [rdr, Int.cast_ofNat_Int] at hv ⊢
    simp +contextual (maxSteps := 10000000) only [go_sem, hv, tryR_ret, tryG_some]
theorem try2_c (s : ByteArray) (hs2 : s.size ≤ 36000000) (x : Except Int (Val × List UInt8)) (hx : valF (readF s.size) (toL s) = x) : EW 54 [.fn (.func 58) [] [.ptr 0 0 0, .ptr 2 0 0]] [some ⟨0, [.ptr 1 0 0]⟩, some ⟨0, rdr s 0⟩, some ⟨0, zeC⟩] =
    some (match x with
      | .error e => (.ret (I e), [some ⟨0, [.undef]⟩, some ⟨0, [.undef, .undef]⟩, some ⟨0, [.undef, .undef, .undef, .undef]⟩])
      | .ok (v, r) => (.ret (I 0), [some ⟨0, [.ptr 1 0 0]⟩, some ⟨0, rdr s (s.size - r.length)⟩, some ⟨0, v.cs⟩])) := by
  have hv := v2_c s hs2
  rw [hx] at hv
  unfold v2R at hv
  refine ew_try ?_
  rw [tryO_one]
  cases x with
  | error e =>
    simp only [rdr, Int.cast_ofNat_Int] at hv ⊢
    simp +contextual (maxSteps := 10000000) only [go_sem, hv, tryR_pan, tryP_some, tryG_some]
  | ok y =>
    obtain ⟨v, r⟩ := y
    simp only [rdr, Int.cast_ofNat_Int] at hv ⊢
    simp +contextual (maxSteps := 10000000) only [go_sem, hv, tryR_ret, tryG_some]
theorem takeB (s : ByteArray) (b : Nat) : List.take b (bytesD s) = bytesD (s.extract 0 b) := by
  have := cutB s 0 b
  rwa [List.drop_zero] at this
theorem valF_sz {n : Nat} {l r : List UInt8} {v : Val} (h : valF (readF n) l = .ok (v, r)) : v.sz ≤ 1100 * l.length := by
  unfold valF at h
  cases hc : consL (l.length + 1) l with
  | error e => rw [hc] at h; cases h
  | ok y =>
    obtain ⟨⟨ns, C⟩, r2⟩ := y
    rw [hc] at h
    obtain ⟨d, w, h1, h2, rfl⟩ := itemF_len h
    have h3 := readF_sz n C d w h2
    have h4 := (consL_sz _ _ _ _ _ hc).1
    have h5 := (dataL_len h1).2.2.1
    rw [callV_size]
    omega
set_option maxHeartbeats 2000000 in
theorem decode_c (s : ByteArray) (hs2 : s.size ≤ 36000000) : EW 31 [.ro false (bytesD s)] [] = some (decR (decS (toL s))) := by
  refine (ev_body ⟨[], [], [(9, [(0, 0, false), (5, 0, true), (1, 0, false), (2, 0, false), (3, 0, false), (4, 0, false), (6, 1, false), (7, 1, false)])], true, [], noIt⟩ [.cell 2 46, .tmp 3, .tmp 4] rfl Tryz.func31 rfl rfl rfl (by kernel_rfl) (by show 1 ≤ 41; decide) (by kernel_rfl)).trans ?_
  cases hh : headL (toL s) with
  | error e =>
    have h1 := try1_c s hs2 _ hh
    dsimp only at h1
    simp only [rdr, Int.cast_ofNat_Int] at h1
    have he : (e != 0) = true := by have := headL_e hh; simpa using this
    rw [decS_err hh]
    simp +contextual (maxSteps := 10000000) only [go_sem, h1, he]
    rfl
  | ok r =>
    have h1 := try1_c s hs2 _ hh
    dsimp only at h1
    obtain ⟨p, hp, hp0, _, _⟩ := headL_pre hh
    rw [decS_ok hh hp]
    have hn : s.size - r.length = p.length := by rw [← toL_len, hp, List.length_append]; omega
    have hle : p.length ≤ s.size := by rw [← toL_len, hp, List.length_append]; omega
    rw [hn] at h1
    have hq : toL (s.extract 0 p.length) = p := by rw [toL_ext, hp, List.drop_zero, Nat.sub_zero, List.take_left' rfl]
    have hqs : (s.extract 0 p.length).size = p.length := by rw [← toL_len, hq]
    simp only [rdr, Int.cast_ofNat_Int] at h1
    unfold tailS
    cases hv : valF (readF p.length) p with
    | error e =>
      have h2 := try2_c (s.extract 0 p.length) (by omega) (.error e) (by rw [hqs, hq]; exact hv)
      dsimp only at h2
      simp only [rdr, Int.cast_ofNat_Int] at h2
      have he : (e != 0) = true := by have := valF_e (readF_e _) hv; simpa using this
      simp +contextual (maxSteps := 10000000) only [go_sem, h1, h2, he, show (p.length ≤ s.size) = True from eq_true hle, all1, takeB, Bool.false_and]
      rfl
    | ok y =>
      obtain ⟨v, r'⟩ := y
      have h2 := try2_c (s.extract 0 p.length) (by omega) (.ok (v, r')) (by rw [hqs, hq]; exact hv)
      dsimp only at h2
      simp only [rdr, Int.cast_ofNat_Int] at h2
      have hsz : v.sz ≤ 40000000000 := by have := valF_sz hv; omega
      have hwf : v.wf := valF_wf (readF_wf _) p v r' hv
      have hr := ew_of rfl (right_c v hsz hwf)
      simp +contextual (maxSteps := 10000000) only [go_sem, h1, h2, hr, show (p.length ≤ s.size) = True from eq_true hle, all1, takeB, Bool.false_and]
      cases rightS v <;> rfl
end Go.Bw.R1

/- Own: a law over laid tables that decodes. -/
namespace Go.Bw.R1
set_option maxRecDepth 5000
open Go Go.Bw Go.Proofs
theorem bytes_arg {d : D} (h : Arg Tryz.prog 23 d) : ∃ s : ByteArray, Wk d (.ro false (bytesD s)) := by
  obtain ⟨s, _, hw⟩ := Arg.one (by kernel_rfl) (fun _ : ByteArray => True) (fun s => .ro false (bytesD s)) (fun ds hd => by
    obtain ⟨s, h⟩ := Rd.bytes_inv Tryz.underlying23 Tryz.underlying5 hd
    exact ⟨s, trivial, h⟩) h
  exact ⟨s, hw⟩
end Go.Bw.R1

/- law06: works; a value hangs on its own bytes. -/
namespace Go.Bw.R1
set_option maxRecDepth 5000
open Go Go.Bw Go.Proofs
theorem decS_e {l : List UInt8} {e : Int} (h : decS l = .error e) : e ≠ 0 := by
  rcases own_err h with ⟨h, _⟩ | ⟨h, _⟩ <;> omega
theorem size0 {b : ByteArray} (h : b.size = 0) : b = ⟨#[]⟩ := ByteArray.ext (Array.eq_empty_of_size_eq_zero h)
theorem ba_nil_app (b : ByteArray) : (⟨#[]⟩ : ByteArray) ++ b = b := toL_inj (by rw [toL_app]; rfl)
theorem ba_app_nil (b : ByteArray) : b ++ (⟨#[]⟩ : ByteArray) = b := toL_inj (by rw [toL_app, toL_e, List.append_nil])
/-- decS is well formed, and no larger than its bytes are -/
theorem decS_val {l : List UInt8} {v : Val} {n : Nat} (h : decS l = .ok (v, n)) : v.wf ∧ v.sz ≤ 1100 * n ∧ rightS v = true := by
  obtain ⟨_, _, _, _, _, hr⟩ := own_ok h
  cases hh : headL l with
  | error e => rw [decS_err hh] at h; cases h
  | ok r =>
    obtain ⟨p, p1, _⟩ := headL_pre hh
    rw [decS_ok hh p1] at h
    unfold tailS at h
    split at h
    · cases h
    · rename_i w r' hv
      rw [if_pos (by
        split at h
        · assumption
        · cases h)] at h
      injection h with h
      injection h with h1 h2
      subst h1 h2
      exact ⟨valF_wf (readF_wf _) _ _ _ hv, valF_sz hv, hr⟩
end Go.Bw.R1

namespace Go.Bw.R1
set_option maxRecDepth 5000
open Go Go.Bw Go.Proofs
abbrev U8 (n : Int) : D := .sc (.int .u8 n)
abbrev U64 (n : Int) : D := .sc (.int .u64 n)
abbrev Sx (t : ByteArray) : D := .sc (.string t)
abbrev u8L (ks : List Int) : List D := ks.map fun n => D.sc (.int .u8 n)
theorem u8L_refs (l : List Int) : D.refsL (l.map fun n => D.sc (.int .u8 n)) = [] := nums_refsL .u8 l
theorem u8L_can (l : List Int) : D.canL (l.map fun n => D.sc (.int .u8 n)) = l.map fun n => D.sc (.int .u8 n) := nums_canL .u8 l
attribute [go_sem] u8L_refs u8L_can
/-- where a number stands first -/
def idxF (k : Int) : List Int → Int → Int
  | [], _ => -1
  | x :: r, i => if k = x then i else idxF k r (i + 1)
theorem idxF_mem (k : Int) : ∀ (l : List Int) (i : Int), 0 ≤ i → decide (0 ≤ idxF k l i) = decide (k ∈ l)
  | [], i, h => by simp [idxF]
  | x :: r, i, h => by
    simp only [idxF]
    split
    · rename_i e; subst e; simp [h]
    · rename_i e
      rw [idxF_mem k r (i + 1) (by omega)]
      simp [e]
set_option maxHeartbeats 1000000 in
theorem index_c (ks : List Int) (k : Int) (hl : ks.length ≤ 40000000000) : EV 182 [.ro false (u8L ks), U8 k] [] = some (.ret (I (idxF k ks 0)), []) := by
  refine (ev_body ⟨[], [(0, [0, 1, 7, 8])], [], false, [], noIt⟩ [.tmp 4] rfl Tryz.func182 rfl rfl rfl (by kernel_rfl) (by show 2 ≤ 19; decide) (by kernel_rfl)).trans ?_
  simp +contextual (maxSteps := 10000000) only [go_sem]
  refine lpK_inv (fun m0 f es => ∃ (i : Nat) (j : Int), j = i ∧ i + m0 = ks.length ∧ idxF k ks 0 = idxF k (ks.drop i) j ∧ f = [(0, .ro false (u8L ks)), (1, U8 k), (7, I ks.length), (8, I j)] ∧ es = []) ks.length ⟨0, 0, rfl, by omega, rfl, rfl, rfl⟩ ?_
  rintro m0 _ _ ⟨i, j, hj, hi, hd, rfl, rfl⟩ ih
  rcases Nat.lt_or_ge i ks.length with hlt | hge
  · obtain ⟨x, hx⟩ := get_lt hlt
    have hlt' : decide (j < ks.length) = true := by simp <;> omega
    have g1 : ks[j.toNat]? = some x := by rw [show j.toNat = i by omega]; exact hx
    obtain ⟨p1, q1⟩ := List.getElem?_eq_some_iff.1 hx
    rw [List.drop_eq_getElem_cons p1, q1, idxF] at hd
    simp +contextual (maxSteps := 10000000) only [go_sem, hlt', g1, show 0 ≤ j by omega, show j < ks.length by omega, wrap_i64 (n := j + 1) (by omega) (by omega)]
    refine ite_intro (fun h => ?_) (fun h => ?_)
    · rw [hd, if_pos (by simpa using h)]
    · rw [if_neg (by simpa using h)] at hd
      exact ih (m0 - 1) _ _ (by omega) ⟨i + 1, _, by omega, by omega, hd, rfl, rfl⟩
  · have hlt' : decide (j < ks.length) = false := by simp <;> omega
    rw [List.drop_eq_nil_of_le hge, idxF] at hd
    simp +contextual (maxSteps := 10000000) only [go_sem, hlt', hd]
theorem contains_c (ks : List Int) (k : Int) (hl : ks.length ≤ 40000000000) : EV 176 [.ro false (u8L ks), U8 k] [] = some (.ret (B (decide (k ∈ ks))), []) := by
  refine (ev_body ⟨[], [], [], false, [], noIt⟩ [.tmp 4] rfl Tryz.func176 rfl rfl rfl (by kernel_rfl) (by show 2 ≤ 9; decide) (by kernel_rfl)).trans ?_
  have h := index_c ks k hl
  simp +contextual (maxSteps := 10000000) only [go_sem, h]
  rw [idxF_mem k ks 0 (Int.le_refl _)]
theorem fof_c (ks : List Int) : EV 146 [.ro false (u8L ks)] [] = some (.ret (.fn (.func 175) [] [.rp [.ro false (u8L ks)]]), []) := by
  refine (ev_body ⟨[1], [], [], true, [], noIt⟩ [.tmp 2] rfl Tryz.func146 rfl rfl rfl (by kernel_rfl) (by show 1 ≤ 4; decide) (by kernel_rfl)).trans ?_
  simp +contextual (maxSteps := 10000000) only [go_sem]
theorem of1_c (ks : List Int) (v : Val) (hl : ks.length ≤ 40000000000) : EV 175 [v.d, .rp [.ro false (u8L ks)]] [] = some (.ret (B (decide (v.kind ∈ ks))), []) := by
  refine (ev_body ⟨[2], [], [], false, [], noIt⟩ [.tmp 3] rfl Tryz.func175 rfl rfl rfl (by kernel_rfl) (by show 2 ≤ 8; decide) (by kernel_rfl)).trans ?_
  have h := contains_c ks v.kind hl
  simp +contextual (maxSteps := 10000000) only [go_sem, h]
end Go.Bw.R1

namespace Go.Bw.R1
set_option maxRecDepth 5000
open Go Go.Bw Go.Proofs
/-- what stands at a place of fields -/
def atS (l : List Val) (i : Int) : Option Val := if i < 0 then none else match l[i.toNat]? with | some x => if x.kind = 1 then none else some x | none => none
abbrev vN : Val := .mk 1 0 ⟨#[]⟩ []
abbrev fRow (l : List Val) (sp : Bool) : Option En := some ⟨0, [.ro false (l.map Val.d), B sp]⟩
theorem atS_len {l : List Val} {i : Int} {x : Val} (h : atS l i = some x) : 0 ≤ i ∧ i < l.length ∧ l[i.toNat]? = some x ∧ x.kind ≠ 1 := by
  unfold atS at h
  split at h
  · cases h
  · split at h
    · rename_i y hy
      split at h
      · cases h
      · rename_i hk
        simp only [Option.some.injEq] at h
        subst h
        have := (List.getElem?_eq_some_iff.1 hy).1
        exact ⟨by omega, by omega, hy, hk⟩
    · cases h
set_option maxHeartbeats 1000000 in
theorem at_some (l : List Val) (sp : Bool) (i : Int) (x : Val) (h : atS l i = some x) : EV 173 [.ptr 0 0 0, I i] [fRow l sp] = some (.ret (.tup [x.d, B true]), [fRow l sp]) := by
  obtain ⟨h1, h2, h3, h4⟩ := atS_len h
  have e1 : decide (i < 0) = false := by simp; omega
  have e2 : decide ((l.length : Int) ≤ i) = false := by simp; omega
  have e3 : (x.kind == 1) = false := by simpa using h4
  refine (ev_body ⟨[], [], [], true, [], noIt⟩ [.cell 4 46, .tmp 5] rfl Tryz.func173 rfl rfl rfl (by kernel_rfl) (by show 2 ≤ 40; decide) (by kernel_rfl)).trans ?_
  simp +contextual (maxSteps := 10000000) only [go_sem, e1, e2, e3, h3, h1, h2]
set_option maxHeartbeats 1000000 in
theorem at_none (l : List Val) (sp : Bool) (i : Int) (h : atS l i = none) : EV 173 [.ptr 0 0 0, I i] [fRow l sp] = some (.ret (.tup [vN.d, B false]), [fRow l sp]) := by
  refine (ev_body ⟨[], [], [], true, [], noIt⟩ [.cell 4 46, .tmp 5] rfl Tryz.func173 rfl rfl rfl (by kernel_rfl) (by show 2 ≤ 40; decide) (by kernel_rfl)).trans ?_
  rcases Int.lt_or_le i 0 with hi | hi
  · have e1 : decide (i < 0) = true := by simpa using hi
    simp +contextual (maxSteps := 10000000) only [go_sem, e1, null_c]
  · have e1 : decide (i < 0) = false := by simp; omega
    unfold atS at h
    rw [if_neg (by omega)] at h
    split at h
    · rename_i y hy
      split at h
      · rename_i hk
        have := (List.getElem?_eq_some_iff.1 hy).1
        have e2 : decide ((l.length : Int) ≤ i) = false := by simp; omega
        have e3 : (y.kind == 1) = true := by simpa using hk
        simp +contextual (maxSteps := 10000000) only [go_sem, e1, e2, e3, hy, hi, show i < l.length by omega, null_c]
      · cases h
    · rename_i hn
      have := List.getElem?_eq_none_iff.1 hn
      have e2 : decide ((l.length : Int) ≤ i) = true := by simp; omega
      simp +contextual (maxSteps := 10000000) only [go_sem, e1, e2, null_c]
theorem spoil_c (l : List Val) (sp : Bool) : EV 174 [.ptr 0 0 0] [fRow l sp] = some (.ret (.tup []), [fRow l true]) := by
  refine (ev_body ⟨[], [], [], false, [], noIt⟩ [] rfl Tryz.func174 rfl rfl rfl (by kernel_rfl) (by show 1 ≤ 7; decide) (by kernel_rfl)).trans ?_
  simp +contextual (maxSteps := 10000000) only [go_sem]
theorem done_c (l : List Val) (sp : Bool) (n : Int) : EV 109 [.ptr 0 0 0, I n] [fRow l sp] = some (.ret (I (if sp || decide (n < l.length) then 6 else 0)), [fRow l sp]) := by
  refine (ev_body ⟨[], [], [], false, [], noIt⟩ [.tmp 4] rfl Tryz.func109 rfl rfl rfl (by kernel_rfl) (by show 2 ≤ 22; decide) (by kernel_rfl)).trans ?_
  cases sp
  · simp +contextual (maxSteps := 10000000) only [go_sem]
    cases decide (n < l.length) <;> rfl
  · simp +contextual (maxSteps := 10000000) only [go_sem]
def calledS (d : Val) (code : Int) (name : ByteArray) : Bool := (d.kind == 6 && d.num == code) || (d.kind == 21 && decide (d.text = name))
theorem fcalled_c (d : Val) (code : Int) (name : ByteArray) : EV 144 [d.d, U64 code, Sx name] [] = some (.ret (B (calledS d code name)), []) := by
  refine (ev_body ⟨[3], [], [], false, [], noIt⟩ [.tmp 6] rfl Tryz.func144 rfl rfl rfl (by kernel_rfl) (by show 3 ≤ 27; decide) (by kernel_rfl)).trans ?_
  simp +contextual (maxSteps := 10000000) only [go_sem]
  unfold calledS
  cases d.kind == 6 <;> cases d.num == code <;> cases d.kind == 21 <;> rfl
end Go.Bw.R1

namespace Go.Bw.R1
set_option maxRecDepth 5000
open Go Go.Bw Go.Proofs
theorem strs_refs (l : List ByteArray) : D.refsL (l.map fun s => D.sc (.string s)) = [] := by
  induction l with
  | nil => rfl
  | cons a l ih => simp only [List.map_cons, D.refsL, D.refs, ih, List.nil_append]
theorem strs_can (l : List ByteArray) : D.canL (l.map fun s => D.sc (.string s)) = l.map fun s => D.sc (.string s) := by
  rw [D.canL_map, List.map_map]; rfl
attribute [go_sem] strs_refs strs_can
set_option maxHeartbeats 1000000 in
theorem tell_num_none (nn rr : Int) (l : List Val) (sp must : Bool) (i : Int) (fF tF : FuncId) (fc tc : List D) (f1 : D.refsL fc = []) (f2 : fc.map D.canA = fc) (t1 : D.refsL tc = []) (t2 : tc.map D.canA = tc) (h : atS l i = none) :
    EV 145 [.ptr 0 0 0, I i, B must, U64 nn, .fn (.func fF) [] fc, .fn (.func tF) [] tc] [fRow l sp] = some (.ret (U64 nn), [fRow l (sp || must)]) := by
  refine (ev_body ⟨[], [], [], false, [], noIt⟩ [.tmp 12] rfl Tryz.func145 rfl rfl rfl (by kernel_rfl) (by show 6 ≤ 44; decide) (by kernel_rfl)).trans ?_
  cases must
  · simp +contextual (maxSteps := 10000000) only [go_sem, at_none l sp i h, spoil_c, Bool.or_false]
  · simp +contextual (maxSteps := 10000000) only [go_sem, at_none l sp i h, spoil_c, Bool.or_true]
set_option maxHeartbeats 1000000 in
theorem tell_num_bad (nn rr : Int) (l : List Val) (sp must : Bool) (i : Int) (fF tF : FuncId) (fc tc : List D) (f1 : D.refsL fc = []) (f2 : fc.map D.canA = fc) (t1 : D.refsL tc = []) (t2 : tc.map D.canA = tc) (x : Val) (h : atS l i = some x) (hf : EV fF (x.d :: fc) [] = some (.ret (B false), [])) :
    EV 145 [.ptr 0 0 0, I i, B must, U64 nn, .fn (.func fF) [] fc, .fn (.func tF) [] tc] [fRow l sp] = some (.ret (U64 nn), [fRow l true]) := by
  refine (ev_body ⟨[], [], [], false, [], noIt⟩ [.tmp 12] rfl Tryz.func145 rfl rfl rfl (by kernel_rfl) (by show 6 ≤ 44; decide) (by kernel_rfl)).trans ?_
  simp +contextual (maxSteps := 10000000) only [go_sem, at_some l sp i x h, f1, f2, t1, t2, hf, spoil_c, List.cons_append]
set_option maxHeartbeats 1000000 in
theorem tell_num_ok (nn rr : Int) (l : List Val) (sp must : Bool) (i : Int) (fF tF : FuncId) (fc tc : List D) (f1 : D.refsL fc = []) (f2 : fc.map D.canA = fc) (t1 : D.refsL tc = []) (t2 : tc.map D.canA = tc) (x : Val) (h : atS l i = some x) (hf : EV fF (x.d :: fc) [] = some (.ret (B true), [])) (ht : EV tF (x.d :: tc) [] = some (.ret (U64 rr), [])) :
    EV 145 [.ptr 0 0 0, I i, B must, U64 nn, .fn (.func fF) [] fc, .fn (.func tF) [] tc] [fRow l sp] = some (.ret (U64 rr), [fRow l sp]) := by
  refine (ev_body ⟨[], [], [], false, [], noIt⟩ [.tmp 12] rfl Tryz.func145 rfl rfl rfl (by kernel_rfl) (by show 6 ≤ 44; decide) (by kernel_rfl)).trans ?_
  simp +contextual (maxSteps := 10000000) only [go_sem, at_some l sp i x h, f1, f2, t1, t2, hf, ht, spoil_c, List.cons_append]
set_option maxHeartbeats 1000000 in
theorem tell_val_none (nn rr : Val) (l : List Val) (sp must : Bool) (i : Int) (fF tF : FuncId) (fc tc : List D) (f1 : D.refsL fc = []) (f2 : fc.map D.canA = fc) (t1 : D.refsL tc = []) (t2 : tc.map D.canA = tc) (h : atS l i = none) :
    EV 149 [.ptr 0 0 0, I i, B must, nn.d, .fn (.func fF) [] fc, .fn (.func tF) [] tc] [fRow l sp] = some (.ret (nn.d), [fRow l (sp || must)]) := by
  refine (ev_body ⟨[9], [], [], true, [], noIt⟩ [.cell 12 46] rfl Tryz.func149 rfl rfl rfl (by kernel_rfl) (by show 6 ≤ 44; decide) (by kernel_rfl)).trans ?_
  cases must
  · simp +contextual (maxSteps := 10000000) only [go_sem, at_none l sp i h, spoil_c, Bool.or_false]
  · simp +contextual (maxSteps := 10000000) only [go_sem, at_none l sp i h, spoil_c, Bool.or_true]
set_option maxHeartbeats 1000000 in
theorem tell_val_bad (nn rr : Val) (l : List Val) (sp must : Bool) (i : Int) (fF tF : FuncId) (fc tc : List D) (f1 : D.refsL fc = []) (f2 : fc.map D.canA = fc) (t1 : D.refsL tc = []) (t2 : tc.map D.canA = tc) (x : Val) (h : atS l i = some x) (hf : EV fF (x.d :: fc) [] = some (.ret (B false), [])) :
    EV 149 [.ptr 0 0 0, I i, B must, nn.d, .fn (.func fF) [] fc, .fn (.func tF) [] tc] [fRow l sp] = some (.ret (nn.d), [fRow l true]) := by
  refine (ev_body ⟨[9], [], [], true, [], noIt⟩ [.cell 12 46] rfl Tryz.func149 rfl rfl rfl (by kernel_rfl) (by show 6 ≤ 44; decide) (by kernel_rfl)).trans ?_
  simp +contextual (maxSteps := 10000000) only [go_sem, at_some l sp i x h, f1, f2, t1, t2, hf, spoil_c, List.cons_append]
set_option maxHeartbeats 1000000 in
theorem tell_val_ok (nn rr : Val) (l : List Val) (sp must : Bool) (i : Int) (fF tF : FuncId) (fc tc : List D) (f1 : D.refsL fc = []) (f2 : fc.map D.canA = fc) (t1 : D.refsL tc = []) (t2 : tc.map D.canA = tc) (x : Val) (h : atS l i = some x) (hf : EV fF (x.d :: fc) [] = some (.ret (B true), [])) (ht : EV tF (x.d :: tc) [] = some (.ret (rr.d), [])) :
    EV 149 [.ptr 0 0 0, I i, B must, nn.d, .fn (.func fF) [] fc, .fn (.func tF) [] tc] [fRow l sp] = some (.ret (rr.d), [fRow l sp]) := by
  refine (ev_body ⟨[9], [], [], true, [], noIt⟩ [.cell 12 46] rfl Tryz.func149 rfl rfl rfl (by kernel_rfl) (by show 6 ≤ 44; decide) (by kernel_rfl)).trans ?_
  simp +contextual (maxSteps := 10000000) only [go_sem, at_some l sp i x h, f1, f2, t1, t2, hf, ht, spoil_c, List.cons_append]
end Go.Bw.R1

namespace Go.Bw.R1
set_option maxRecDepth 5000
open Go Go.Bw Go.Proofs
/-- the number of a kind at a place, and whether that spoils -/
def numS' (l : List Val) (i kind : Int) (must : Bool) (none : Int) : Int × Bool := match atS l i with
  | .none => (none, must)
  | some x => if x.kind = kind then (x.num, false) else (none, true)
def valS (l : List Val) (i : Int) (ks : List Int) : Val × Bool := match atS l i with
  | .none => (vN, false)
  | some x => if ks = [] ∨ x.kind ∈ ks then (x, false) else (vN, true)
theorem num1_c (v : Val) : EV 147 [v.d] [] = some (.ret (U64 v.num), []) := by
  refine (ev_body ⟨[1], [], [], false, [], noIt⟩ [.tmp 2] rfl Tryz.func147 rfl rfl rfl (by kernel_rfl) (by show 1 ≤ 5; decide) (by kernel_rfl)).trans ?_
  simp +contextual (maxSteps := 10000000) only [go_sem]
theorem val1_c (v : Val) : EV 148 [v.d] [] = some (.ret (B true), []) := by
  refine (ev_body ⟨[1], [], [], false, [], noIt⟩ [.tmp 2] rfl Tryz.func148 rfl rfl rfl (by kernel_rfl) (by show 1 ≤ 3; decide) (by kernel_rfl)).trans ?_
  simp +contextual (maxSteps := 10000000) only [go_sem]
theorem of_one (k : Int) : EV 146 [.ro false [U8 k]] [] = some (.ret (.fn (.func 175) [] [.rp [.ro false [U8 k]]]), []) := fof_c [k]
theorem of1_one (k : Int) (v : Val) {b : Bool} (h : decide (v.kind = k) = b) : EV 175 [v.d, .rp [.ro false [U8 k]]] [] = some (.ret (B b), []) := by
  have := of1_c [k] v (by simp)
  simp only [List.mem_singleton, h] at this
  exact this
theorem of_nil : EV 146 [.ro false []] [] = some (.ret (.fn (.func 175) [] [.rp [.ro false []]]), []) := fof_c []
theorem number_f (l : List Val) (sp : Bool) (i kind : Int) (must : Bool) (none : Int) : EV 107 [.ptr 0 0 0, I i, U8 kind, B must, U64 none] [fRow l sp] = some (.ret (U64 (numS' l i kind must none).1), [fRow l (sp || (numS' l i kind must none).2)]) := by
  refine (ev_body ⟨[], [], [], false, [], noIt⟩ [.tmp 10] rfl Tryz.func107 rfl rfl rfl (by kernel_rfl) (by show 5 ≤ 19; decide) (by kernel_rfl)).trans ?_
  unfold numS'
  cases h : atS l i with
  | none =>
    have ht := tell_num_none none none l sp must i 175 147 [.rp [.ro false [U8 kind]]] [] rfl rfl rfl rfl h
    simp +contextual (maxSteps := 10000000) only [go_sem, of_one, ht]
  | some x =>
    by_cases hk : x.kind = kind
    · have ht := tell_num_ok none x.num l sp must i 175 147 [.rp [.ro false [U8 kind]]] [] rfl rfl rfl rfl x h (of1_one kind x (by simpa using hk)) (num1_c x)
      simp +contextual (maxSteps := 10000000) only [go_sem, of_one, ht, hk, Bool.or_false]
    · have ht := tell_num_bad none none l sp must i 175 147 [.rp [.ro false [U8 kind]]] [] rfl rfl rfl rfl x h (of1_one kind x (by simpa using hk))
      simp +contextual (maxSteps := 10000000) only [go_sem, of_one, ht, hk, Bool.or_true]
theorem bool_f (l : List Val) (sp : Bool) (i : Int) (must : Bool) : EV 108 [.ptr 0 0 0, I i, B must] [fRow l sp] = some (.ret (B ((numS' l i 2 must 0).1 == 1)), [fRow l (sp || (numS' l i 2 must 0).2)]) := by
  refine (ev_body ⟨[], [], [], false, [], noIt⟩ [.tmp 6] rfl Tryz.func108 rfl rfl rfl (by kernel_rfl) (by show 3 ≤ 12; decide) (by kernel_rfl)).trans ?_
  simp +contextual (maxSteps := 10000000) only [go_sem, number_f]
theorem value_f (l : List Val) (hl : Val.szL l ≤ 40000000000) (sp : Bool) (i : Int) (ks : List Int) (hks : ks.length ≤ 40000000000) : EV 110 [.ptr 0 0 0, I i, .ro false (u8L ks)] [fRow l sp] = some (.ret (valS l i ks).1.d, [fRow l (sp || (valS l i ks).2)]) := by
  refine (ev_body ⟨[], [], [], true, [], noIt⟩ [.cell 6 46] rfl Tryz.func110 rfl rfl rfl (by kernel_rfl) (by show 3 ≤ 18; decide) (by kernel_rfl)).trans ?_
  unfold valS
  cases hk : ks with
  | nil =>
    cases h : atS l i with
    | none =>
      have ht := tell_val_none vN vN l sp false i 148 78 [] [] rfl rfl rfl rfl h
      simp +contextual (maxSteps := 10000000) only [go_sem, of_nil, ht, null_c]
    | some x =>
      have hx := szL_mem (atS_len h).2.2.1
      have ht := tell_val_ok vN x l sp false i 148 78 [] [] rfl rfl rfl rfl x h (val1_c x) (copy_c _ x (Nat.le_refl _) (by omega))
      simp +contextual (maxSteps := 10000000) only [go_sem, of_nil, ht, null_c, true_or, if_true, Bool.or_false]
  | cons k r =>
    rw [← hk]
    have hne : ks ≠ [] := by rw [hk]; simp
    have hl0 : ((ks.length : Int) == 0) = false := by rw [hk]; simp; omega
    cases h : atS l i with
    | none =>
      have ht := tell_val_none vN vN l sp false i 175 78 [.rp [.ro false (u8L ks)]] [] (by simp only [D.refsL, D.refs, u8L_refs, List.append_nil]) (by simp only [List.map_cons, List.map_nil, D.canA, D.can, D.canL, u8L_can]) rfl rfl h
      simp +contextual (maxSteps := 10000000) only [go_sem, fof_c ks, hl0, ht, null_c]
    | some x =>
      have hx := szL_mem (atS_len h).2.2.1
      by_cases hm : x.kind ∈ ks
      · have ho := of1_c ks x hks
        rw [decide_eq_true hm] at ho
        have ht := tell_val_ok vN x l sp false i 175 78 [.rp [.ro false (u8L ks)]] [] (by simp only [D.refsL, D.refs, u8L_refs, List.append_nil]) (by simp only [List.map_cons, List.map_nil, D.canA, D.can, D.canL, u8L_can]) rfl rfl x h ho (copy_c _ x (Nat.le_refl _) (by omega))
        simp +contextual (maxSteps := 10000000) only [go_sem, fof_c ks, hl0, ht, null_c, hm, or_true, if_true, Bool.or_false]
      · have ho := of1_c ks x hks
        rw [decide_eq_false hm] at ho
        have ht := tell_val_bad vN vN l sp false i 175 78 [.rp [.ro false (u8L ks)]] [] (by simp only [D.refsL, D.refs, u8L_refs, List.append_nil]) (by simp only [List.map_cons, List.map_nil, D.canA, D.can, D.canL, u8L_can]) rfl rfl x h ho
        simp +contextual (maxSteps := 10000000) only [go_sem, fof_c ks, hl0, ht, null_c, hm, hne, or_self, if_false, Bool.or_true]
end Go.Bw.R1

namespace Go.Bw.R1
set_option maxRecDepth 5000
open Go Go.Bw Go.Proofs
end Go.Bw.R1

namespace Go.Bw.R1
set_option maxRecDepth 5000
open Go Go.Bw Go.Proofs
/-- the fields of a value that is called so -/
def newS (v : Val) (code : Int) (name : ByteArray) : Option (List Val) :=
  if rightS v = true ∧ v.kind = 25 then match v.kids with
    | [d, x] => if x.kind = 22 ∧ calledS d code name = true then some x.kids else none
    | _ => none
  else none
theorem right_may {v : Val} (h : rightS v = true) : mayS v = true := by
  simp only [rightS, Bool.and_eq_true] at h; exact h.2
theorem newS_some {v : Val} {code : Int} {name : ByteArray} {l : List Val} (h : newS v code name = some l) : rightS v = true ∧ v.kind = 25 ∧ ∃ d x, v.kids = [d, x] ∧ x.kind = 22 ∧ calledS d code name = true ∧ l = x.kids ∧ mayL l = true := by
  unfold newS at h
  split at h
  · rename_i hh
    obtain ⟨h1, h2⟩ := hh
    obtain ⟨d, x, hk, hd, hx⟩ := may_desc (right_may h1) h2
    rw [hk] at h
    simp only at h
    split at h
    · rename_i hc
      simp only [Option.some.injEq] at h
      subst h
      rw [mayS_eq] at hx
      simp only [Bool.and_eq_true] at hx
      exact ⟨h1, h2, d, x, hk, hc.1, hc.2, rfl, hx.1.2⟩
    · cases h
  · cases h
theorem fd_val (v : Val) : fdD Tryz.prog 46 3 v.d = some (.ro false (v.kids.map Val.d)) := by
  cases v; simp only [Val.d, Val.dL_map, fdD, fd46_3]; rfl
set_option maxHeartbeats 1000000 in
theorem new_some (v : Val) (hs : v.sz ≤ 40000000000) (hw : v.wf) (code : Int) (name : ByteArray) (l : List Val) (h : newS v code name = some l) : EV 106 [v.d, U64 code, Sx name] [] = some (.ret (.tup [.ptr 0 0 0, I 0]), [fRow l false]) := by
  obtain ⟨h1, h2, d, x, hk, hx, hc, rfl, _⟩ := newS_some h
  obtain ⟨k, n, t, kids⟩ := v
  obtain ⟨k2, n2, t2, l2⟩ := x
  simp only [Val.kind_mk, Val.kids_mk] at h2 hk hx
  subst h2 hk hx
  have hr := right_c _ hs hw
  rw [h1] at hr
  have hz := Val.sz_eq (Val.mk 25 n t [d, Val.mk 22 n2 t2 l2])
  simp only [Val.kids_mk, Val.szL] at hz
  have hcp := copy_c _ (Val.mk 22 n2 t2 l2) (Nat.le_refl _) (by omega)
  have hcl := fcalled_c d code name
  rw [hc] at hcl
  have fv := fd_val (Val.mk 22 n2 t2 l2)
  simp only [Val.kids_mk] at fv
  refine (ev_body ⟨[3], [], [], false, [], noIt⟩ [.tmp 6, .tmp 7] rfl Tryz.func106 rfl rfl rfl (by kernel_rfl) (by show 3 ≤ 42; decide) (by kernel_rfl)).trans ?_
  simp +contextual (maxSteps := 10000000) only [go_sem, hr, hcl, hcp, fv, List.map_cons, List.map_nil, List.length_cons, List.length_nil, bne_self_eq_false]
set_option maxHeartbeats 1000000 in
theorem new_none (v : Val) (hs : v.sz ≤ 40000000000) (hw : v.wf) (code : Int) (name : ByteArray) (h : newS v code name = none) : EV 106 [v.d, U64 code, Sx name] [] = some (.ret (.tup [.nilp, I 6]), []) := by
  have hr := right_c v hs hw
  refine (ev_body ⟨[3], [], [], false, [], noIt⟩ [.tmp 6, .tmp 7] rfl Tryz.func106 rfl rfl rfl (by kernel_rfl) (by show 3 ≤ 42; decide) (by kernel_rfl)).trans ?_
  cases h1 : rightS v
  · rw [h1] at hr
    simp +contextual (maxSteps := 10000000) only [go_sem, hr]
  · rw [h1] at hr
    by_cases h2 : v.kind = 25
    · obtain ⟨d, x, hk, _, _⟩ := may_desc (right_may h1) h2
      unfold newS at h
      rw [if_pos ⟨h1, h2⟩, hk] at h
      simp only at h
      obtain ⟨k, n, t, kids⟩ := v
      simp only [Val.kind_mk, Val.kids_mk] at h2 hk
      subst h2 hk
      have hcl := fcalled_c d code name
      by_cases hx : x.kind = 22
      · cases hc : calledS d code name
        · rw [hc] at hcl
          simp +contextual (maxSteps := 10000000) only [go_sem, hr, hx, hcl, List.map_cons, List.map_nil, List.length_cons, List.length_nil, bne_self_eq_false]
        · rw [if_pos ⟨hx, hc⟩] at h; cases h
      · have e : (x.kind != 22) = true := by simpa using hx
        simp +contextual (maxSteps := 10000000) only [go_sem, hr, e, List.map_cons, List.map_nil, List.length_cons, List.length_nil, bne_self_eq_false]
    · have e : (v.kind != 25) = true := by simpa using h2
      simp +contextual (maxSteps := 10000000) only [go_sem, hr, e]
/-- without what is null at the end -/
def trimS (l : List Val) : List Val := (l.reverse.dropWhile fun v => v.kind == 1).reverse
def putS (code : Int) (l : List Val) : Val := .mk 25 0 ⟨#[]⟩ [.mk 6 code ⟨#[]⟩ [], .mk 22 0 ⟨#[]⟩ (trimS l)]
theorem trimS_take : ∀ (l : List Val) (n : Nat) (h : n ≤ l.length), (∀ i x, n ≤ i → l[i]? = some x → x.kind = 1) → trimS l = trimS (l.take n) := by
  intro l n h hx
  have e : l = l.take n ++ l.drop n := (List.take_append_drop n l).symm
  have hd : ∀ x ∈ (l.drop n).reverse, (x.kind == 1) = true := fun x hm => by
    obtain ⟨i, hi⟩ := List.getElem?_of_mem (List.mem_reverse.1 hm)
    rw [List.getElem?_drop] at hi
    simpa using hx _ _ (by omega) hi
  unfold trimS
  conv => lhs; rw [e]
  rw [List.reverse_append, List.dropWhile_append_of_pos hd]
theorem trimS_end {l : List Val} {n : Nat} {x : Val} (h : l[n]? = some x) (hk : x.kind ≠ 1) : trimS (l.take (n + 1)) = l.take (n + 1) := by
  rw [take_snoc h]
  unfold trimS
  rw [List.reverse_append]
  simp only [List.reverse_cons, List.reverse_nil, List.nil_append, List.cons_append]
  rw [List.dropWhile_cons, if_neg (by simpa using hk)]
  simp
theorem trimS_sz (l : List Val) : Val.szL (trimS l) ≤ Val.szL l := by
  obtain ⟨n, hn⟩ : ∃ n, trimS l = l.take n := by
    unfold trimS
    obtain ⟨t, ht⟩ := List.dropWhile_suffix (fun v : Val => v.kind == 1) (l := l.reverse)
    have : l = ((l.reverse.dropWhile fun v => v.kind == 1).reverse) ++ t.reverse := by
      rw [← List.reverse_append, ht, List.reverse_reverse]
    generalize (l.reverse.dropWhile fun v => v.kind == 1).reverse = a at this
    subst this
    exact ⟨a.length, by rw [List.take_left]⟩
  rw [hn]; exact szL_take l n
end Go.Bw.R1

namespace Go.Bw.R1
set_option maxRecDepth 5000
open Go Go.Bw Go.Proofs
abbrev zVr : Option En := some ⟨0, [.sc (.int .u8 0), .sc (.int .u64 0), .sc (.string ⟨#[]⟩), .nils]⟩
set_option maxHeartbeats 1000000 in
theorem fput_end (l : List Val) (n : Nat) (hn : n ≤ l.length) (h1 : ∀ i x, n ≤ i → l[i]? = some x → x.kind = 1) (h2 : ∀ x, 0 < n → l[n - 1]? = some x → x.kind ≠ 1) : l.take n = trimS l := by
  rw [trimS_take l n hn h1]
  cases n with
  | zero => rfl
  | succ n =>
    obtain ⟨x, hx⟩ := get_lt (l := l) (i := n) (by omega)
    exact (trimS_end hx (h2 x (by omega) (by simpa using hx))).symm
set_option maxHeartbeats 2000000 in
theorem fput_c (code : Int) (l : List Val) (hl : Val.szL l ≤ 3999990) : EV 29 [U64 code, .ro false (l.map Val.d)] [] = some (.ret (putS code l).d, []) := by
  have hlen := szL_len l
  refine (ev_body ⟨[], [(0, [0, 1, 4, 5])], [(4, [(0, 0, false), (1, 0, false), (2, 0, false), (3, 0, false), (4, 0, false), (5, 0, false), (6, 0, false), (7, 0, true)])], true, [], noIt⟩ [.cell 4 46] rfl Tryz.func29 rfl rfl rfl (by kernel_rfl) (by show 2 ≤ 28; decide) (by kernel_rfl)).trans ?_
  simp +contextual (maxSteps := 10000000) only [go_sem]
  refine lpK_inv (fun m0 f es => ∃ (n : Nat) (j : Int), j = n ∧ m0 = n ∧ n ≤ l.length ∧ (∀ i x, n ≤ i → l[i]? = some x → x.kind = 1) ∧ f = [(0, U64 code), (1, .ro false (l.map Val.d)), (4, .ptr 0 0 0), (5, I j)] ∧ es = [zVr]) l.length ⟨l.length, _, rfl, rfl, Nat.le_refl _, fun i x h1 h2 => by have := (List.getElem?_eq_some_iff.1 h2).1; omega, rfl, rfl⟩ ?_
  rintro m0 _ _ ⟨n, j, hj, hm, hn, hz, rfl, rfl⟩ ih
  have fin : (∀ x, 0 < n → l[n - 1]? = some x → x.kind ≠ 1) → (l.map Val.d).take j.toNat = (trimS l).map Val.d ∧ EV 22 [U8 22, .ro false ((trimS l).map Val.d)] [] = some (.ret (Val.mk 22 0 ⟨#[]⟩ (trimS l)).d, []) ∧ EV 26 [(Val.mk 6 code ⟨#[]⟩ []).d, (Val.mk 22 0 ⟨#[]⟩ (trimS l)).d] [] = some (.ret (putS code l).d, []) := fun h2 => by
    have e := fput_end l n hn hz h2
    have hs := trimS_sz l
    refine ⟨?_, many_c 22 (trimS l) (by omega), desc_c _ _ (by simp only [Val.sz, Val.szL]; show 0 + 0 + 1 + (0 + Val.szL (trimS l) + 1) ≤ 40000000000; omega)⟩
    rw [← List.map_take, show j.toNat = n by omega, e]
  have hall : ((l.map Val.d).all fun e => e.cells.length == 4) = true := by
    rw [List.all_eq_true]; intro e he; obtain ⟨v, _, rfl⟩ := List.mem_map.1 he; rw [Val.cells]; rfl
  have hjn : j.toNat ≤ l.length := by omega
  have hjl : decide (j ≤ (l.length : Int)) = true := by simp; omega
  have hj0 : 0 ≤ j := by omega
  have hjl' : j ≤ l.length := by omega
  rcases Nat.eq_zero_or_pos n with h0 | hpos
  · obtain ⟨f0, f1, f2⟩ := fin (fun x h => by omega)
    have e0 : decide (0 < j) = false := by simp; omega
    simp +contextual (maxSteps := 10000000) only [go_sem, e0, number_c, f0, f1, f2, hj0, hjl', hjn, hall, Bool.false_and, and_self]
  · obtain ⟨x, hx⟩ := get_lt (l := l) (i := n - 1) (by omega)
    have e0 : decide (0 < j) = true := by simp; omega
    have hw := wrap_i64 (n := j - 1) (by omega) (by omega)
    have g1 : l[(j - 1).toNat]? = some x := by rw [show (j - 1).toNat = n - 1 by omega]; exact hx
    have b1 : 0 ≤ j - 1 := by omega
    have b2 : j - 1 < l.length := by omega
    by_cases hk : x.kind = 1
    · have ek : (x.kind == 1) = true := by simpa using hk
      simp +contextual (maxSteps := 10000000) only [go_sem, e0, hw, g1, b1, b2, ek]
      refine ih (n - 1) _ _ (by omega) ⟨n - 1, _, by omega, rfl, by omega, fun i y hi hy => ?_, rfl, rfl⟩
      by_cases hin : i = n - 1
      · subst hin; rw [hx] at hy; simp only [Option.some.injEq] at hy; subst hy; exact hk
      · exact hz i y (by omega) hy
    · have ek : (x.kind == 1) = false := by simpa using hk
      obtain ⟨f0, f1, f2⟩ := fin (fun y _ hy => by rw [hx] at hy; simp only [Option.some.injEq] at hy; subst hy; exact hk)
      simp +contextual (maxSteps := 10000000) only [go_sem, e0, hw, g1, b1, b2, ek, number_c, f0, f1, f2, hj0, hjl', hjn, hall, Bool.false_and, and_self]
end Go.Bw.R1

namespace Go.Bw.R1
set_option maxRecDepth 5000
open Go Go.Bw Go.Proofs
theorem trimS_pre (l : List Val) : ∃ n, n ≤ l.length ∧ trimS l = l.take n ∧ ∀ i x, n ≤ i → l[i]? = some x → x.kind = 1 := by
  suffices h : ∀ k, k ≤ l.length → (∀ i x, k ≤ i → l[i]? = some x → x.kind = 1) → ∃ n, n ≤ l.length ∧ trimS l = l.take n ∧ ∀ i x, n ≤ i → l[i]? = some x → x.kind = 1 from
    h l.length (Nat.le_refl _) fun i x h1 h2 => by have := (List.getElem?_eq_some_iff.1 h2).1; omega
  intro k
  induction k with
  | zero => intro hk h; exact ⟨0, hk, (fput_end l 0 hk h fun x h => by omega).symm, h⟩
  | succ k ih =>
    intro hk h
    obtain ⟨x, hx⟩ := get_lt (l := l) (i := k) (by omega)
    by_cases h1 : x.kind = 1
    · exact ih (by omega) fun i y hi hy => by
        by_cases e : i = k
        · subst e; rw [hx] at hy; simp only [Option.some.injEq] at hy; subst hy; exact h1
        · exact h i y (by omega) hy
    · exact ⟨k + 1, hk, (fput_end l (k + 1) hk h fun y _ hy => by
        simp only [Nat.add_sub_cancel] at hy; rw [hx] at hy; simp only [Option.some.injEq] at hy; subst hy; exact h1).symm, h⟩
theorem wfL_take {l : List Val} (h : Val.wfL l) (n : Nat) : Val.wfL (l.take n) := by
  induction l generalizing n with
  | nil => simpa using h
  | cons a l ih =>
    cases n with
    | zero => exact trivial
    | succ n => exact ⟨h.1, ih h.2 n⟩
theorem putS_wf (code : Int) (h0 : 0 ≤ code ∧ code < 18446744073709551616) {l : List Val} (h : Val.wfL l) : (putS code l).wf := by
  obtain ⟨n, _, h2, _⟩ := trimS_pre l
  refine ⟨by decide, ⟨⟨by decide, by decide, h0.1, h0.2⟩, trivial⟩, ⟨by decide, ?_⟩, trivial⟩
  rw [h2]; exact wfL_take h n
theorem atS_trim (l : List Val) (i : Int) : atS (trimS l) i = atS l i := by
  obtain ⟨n, h1, h2, h3⟩ := trimS_pre l
  unfold atS
  rw [h2]
  split
  · rfl
  · rw [List.getElem?_take]
    by_cases hin : i.toNat < n
    · rw [if_pos hin]
    · rw [if_neg hin]
      cases hx : l[i.toNat]? with
      | none => rfl
      | some x => simp only; rw [if_pos (h3 i.toNat x (by omega) hx)]
theorem mayS_put (code : Int) (l : List Val) : mayS (putS code l) = mayL (trimS l) := by
  simp only [putS, mayS, mayL]
  show (true && ((true && true && (true && true && true)) && ((true && mayL (trimS l) && (true && true && true)) && true)) && (true && true && true)) = mayL (trimS l)
  simp
theorem newS_putN {code : Int} {l : List Val} {name : ByteArray} (h : rightS (putS code l) = true) : newS (putS code l) code name = some (trimS l) := by
  unfold newS
  rw [if_pos ⟨h, rfl⟩]
  have e : calledS (Val.mk 6 code ⟨#[]⟩ []) code name = true := by simp [calledS, Val.kind_mk, Val.num_mk]
  simp only [putS, Val.kids_mk, Val.kind_mk, e, and_self, if_true]
end Go.Bw.R1

namespace Go.Bw.R1
set_option maxRecDepth 5000
open Go Go.Bw Go.Proofs
theorem sz_le {n k : Nat} (h : n ≤ 1000000000) (hk : 1000000000 ≤ k) : (n ≤ k) = True := by simp; omega
theorem fdiv1 (x : Int) : x.fdiv 1 = x := Int.fdiv_one x
theorem clone_nils : EV 154 [.nils] [] = some (.ret .nils, []) := by
  refine (ev_body ⟨[], [], [], false, [], noIt⟩ [.tmp 2] rfl Tryz.func154 rfl rfl rfl (by kernel_rfl) (by show 1 ≤ 8; decide) (by kernel_rfl)).trans ?_
  simp +contextual (maxSteps := 10000000) only [go_sem]
theorem clone_ref (b : ByteArray) (h0 : b.size ≠ 0) (h : b.size ≤ 1000000000) : EV 154 [.ref 0 0 1 0 b.size] [some ⟨0, bytesD b⟩] = some (.ret (.ref 1 0 1 0 b.size), [some ⟨0, bytesD b⟩, some ⟨0, bytesD b⟩]) := by
  have h1 : (b.size = 0) = False := by simpa using h0
  refine (ev_body ⟨[], [], [], false, [], noIt⟩ [.tmp 2] rfl Tryz.func154 rfl rfl rfl (by kernel_rfl) (by show 1 ≤ 8; decide) (by kernel_rfl)).trans ?_
  simp +contextual (maxSteps := 10000000) only [go_sem, h1, sz_le h, List.length_cons]
/-- a number's lowest bytes, the highest first -/
def be : Nat → Int → ByteArray
  | 1, x => b1 (x % 256)
  | 2, x => b1 (x.fdiv 256 % 256) ++ b1 (x % 256)
  | 4, x => b1 (x.fdiv 16777216 % 256) ++ b1 (x.fdiv 65536 % 256) ++ b1 (x.fdiv 256 % 256) ++ b1 (x % 256)
  | 8, x => b1 (x.fdiv 72057594037927936 % 256) ++ b1 (x.fdiv 281474976710656 % 256) ++ b1 (x.fdiv 1099511627776 % 256) ++ b1 (x.fdiv 4294967296 % 256) ++ b1 (x.fdiv 16777216 % 256) ++ b1 (x.fdiv 65536 % 256) ++ b1 (x.fdiv 256 % 256) ++ b1 (x % 256)
  | _, _ => ⟨#[]⟩
theorem be_1 (x : Int) : be 1 x = b1 (x % 256) := rfl
theorem be_2 (x : Int) : be 2 x = b1 (x.fdiv 256 % 256) ++ b1 (x % 256) := rfl
theorem be_4 (x : Int) : be 4 x = b1 (x.fdiv 16777216 % 256) ++ b1 (x.fdiv 65536 % 256) ++ b1 (x.fdiv 256 % 256) ++ b1 (x % 256) := rfl
theorem be_8 (x : Int) : be 8 x = b1 (x.fdiv 72057594037927936 % 256) ++ b1 (x.fdiv 281474976710656 % 256) ++ b1 (x.fdiv 1099511627776 % 256) ++ b1 (x.fdiv 4294967296 % 256) ++ b1 (x.fdiv 16777216 % 256) ++ b1 (x.fdiv 65536 % 256) ++ b1 (x.fdiv 256 % 256) ++ b1 (x % 256) := rfl
def wOk (w : Nat) : Prop := w = 1 ∨ w = 2 ∨ w = 4 ∨ w = 8
theorem be_size {w : Nat} (h : wOk w) (x : Int) : (be w x).size = w := by
  rcases h with rfl | rfl | rfl | rfl
  · rfl
  · rw [be_2]; simp only [ByteArray.size_append, b1_size]
  · rw [be_4]; simp only [ByteArray.size_append, b1_size]
  · rw [be_8]; simp only [ByteArray.size_append, b1_size]
theorem lay_ref (w : Nat) (hw : wOk w) (b : ByteArray) (x : Int) (h0 : b.size ≠ 0) (h : b.size ≤ 1000000000) : EV 116 [.ref 0 0 1 0 b.size, .sc (.int .u64 x), I w] [some ⟨0, bytesD b⟩] = some (.ret (.ref 1 0 1 0 (b.size + w)), [some ⟨0, bytesD b⟩, some ⟨0, bytesD (b ++ be w x)⟩]) := by
  refine (ev_body ⟨[], [(0, [1, 7, 8])], [], false, [], noIt⟩ [.tmp 6] rfl Tryz.func116 rfl rfl rfl (by kernel_rfl) (by show 3 ≤ 29; decide) (by kernel_rfl)).trans ?_
  rcases hw with rfl | rfl | rfl | rfl
  · simp +contextual (maxSteps := 10000000) only [go_sem, clone_ref b h0 h, lpK_go, one_b1, sz_le h, fdiv1, be_1]
  · simp +contextual (maxSteps := 10000000) only [go_sem, clone_ref b h0 h, lpK_go, one_b1, sz_le h, fdiv1, be_2, ByteArray.append_assoc, Nat.add_assoc]
  · simp +contextual (maxSteps := 10000000) only [go_sem, clone_ref b h0 h, lpK_go, one_b1, sz_le h, fdiv1, be_4, ByteArray.append_assoc, Nat.add_assoc]
  · simp +contextual (maxSteps := 10000000) only [go_sem, clone_ref b h0 h, lpK_go, one_b1, sz_le h, fdiv1, be_8, ByteArray.append_assoc, Nat.add_assoc]
theorem lay_nils (w : Nat) (hw : wOk w) (x : Int) : EV 116 [.nils, .sc (.int .u64 x), I w] [] = some (.ret (.ref 0 0 1 0 w), [some ⟨0, bytesD (be w x)⟩]) := by
  refine (ev_body ⟨[], [(0, [1, 7, 8])], [], false, [], noIt⟩ [.tmp 6] rfl Tryz.func116 rfl rfl rfl (by kernel_rfl) (by show 3 ≤ 29; decide) (by kernel_rfl)).trans ?_
  rcases hw with rfl | rfl | rfl | rfl
  · simp +contextual (maxSteps := 10000000) only [go_sem, clone_nils, lpK_go, one_b1, fdiv1, be_1]
  · simp +contextual (maxSteps := 10000000) only [go_sem, clone_nils, lpK_go, one_b1, fdiv1, be_2, ByteArray.append_assoc, Nat.add_assoc]
  · simp +contextual (maxSteps := 10000000) only [go_sem, clone_nils, lpK_go, one_b1, fdiv1, be_4, ByteArray.append_assoc, Nat.add_assoc]
  · simp +contextual (maxSteps := 10000000) only [go_sem, clone_nils, lpK_go, one_b1, fdiv1, be_8, ByteArray.append_assoc, Nat.add_assoc]
end Go.Bw.R1

namespace Go.Bw.R1
set_option maxRecDepth 5000
open Go Go.Bw Go.Proofs
theorem wmay_1 (n : Int) : EV 155 [I 1, .sc (.int .u64 n)] [] = some (.ret (B (decide (n ≤ 255))), []) := by
  refine (ev_body ⟨[], [], [], false, [], noIt⟩ [.tmp 4] rfl Tryz.func155 rfl rfl rfl (by kernel_rfl) (by show 2 ≤ 14; decide) (by kernel_rfl)).trans ?_
  simp +contextual (maxSteps := 10000000) only [go_sem]
theorem wmay_4 (n : Int) : EV 155 [I 4, .sc (.int .u64 n)] [] = some (.ret (B (decide (n ≤ 2147483647))), []) := by
  refine (ev_body ⟨[], [], [], false, [], noIt⟩ [.tmp 4] rfl Tryz.func155 rfl rfl rfl (by kernel_rfl) (by show 2 ≤ 14; decide) (by kernel_rfl)).trans ?_
  simp +contextual (maxSteps := 10000000) only [go_sem]
theorem layp_ref (w : Nat) (b p : ByteArray) (h0 : b.size ≠ 0) (h : b.size ≤ 490000000) (hp : p.size ≤ 490000000) (hw : w = 1 ∧ p.size ≤ 255 ∨ w = 4) :
    EV 117 [.ref 0 0 1 0 b.size, .ref 1 0 1 0 p.size, I w] [some ⟨0, bytesD b⟩, some ⟨0, bytesD p⟩] = some (.ret (.tup [.ref 2 0 1 0 (b.size + w + p.size), I 0]), [some ⟨0, bytesD b⟩, some ⟨0, bytesD p⟩, some ⟨0, bytesD (b ++ be w p.size ++ p)⟩]) := by
  have hw0 : wOk w := by rcases hw with ⟨rfl, _⟩ | rfl <;> simp [wOk]
  have hl := lay_ref w hw0 b p.size h0 (by omega)
  have e1 : IntKind.u64.wrap (p.size : Int) = p.size := fit_u64 (by omega) (by omega)
  have hq : b.size + w + p.size ≤ 1000000000 := by rcases hw with ⟨rfl, _⟩ | rfl <;> omega
  have hs : b.size + w = (b ++ be w p.size).size := by rw [ByteArray.size_append, be_size hw0]
  refine (ev_body ⟨[], [], [], false, [], noIt⟩ [.tmp 6, .tmp 7] rfl Tryz.func117 rfl rfl rfl (by kernel_rfl) (by show 3 ≤ 21; decide) (by kernel_rfl)).trans ?_
  by_cases hz : p.size = 0
  · have hp0 : p = ⟨#[]⟩ := by
      apply ByteArray.ext; exact Array.eq_empty_of_size_eq_zero hz
    subst hp0
    rcases hw with ⟨rfl, _⟩ | rfl
    · simp only [show ((⟨#[]⟩ : ByteArray).size) = 0 from rfl, Int.natCast_zero, Int.cast_ofNat_Int, Nat.add_zero] at hl e1 ⊢
      simp +contextual (maxSteps := 10000000) only [go_sem, hl, e1, wmay_1, wmay_4]
      rw [bytes_nil (s := ⟨#[]⟩) rfl]
    · simp only [show ((⟨#[]⟩ : ByteArray).size) = 0 from rfl, Int.natCast_zero, Int.cast_ofNat_Int, Nat.add_zero] at hl e1 ⊢
      simp +contextual (maxSteps := 10000000) only [go_sem, hl, e1, wmay_1, wmay_4]
      rw [bytes_nil (s := ⟨#[]⟩) rfl]
  · rcases hw with ⟨rfl, h1⟩ | rfl
    · have hd : decide ((p.size : Int) ≤ 255) = true := by simp; omega
      simp only [Int.cast_ofNat_Int] at hl
      rw [hs] at hl hq ⊢
      rw [ByteArray.size_append] at hq
      simp +contextual (maxSteps := 10000000) only [go_sem, hl, e1, wmay_1, wmay_4, hz, sz_le hq, hd]
    · have hd : decide ((p.size : Int) ≤ 2147483647) = true := by simp; omega
      simp only [Int.cast_ofNat_Int] at hl
      rw [hs] at hl hq ⊢
      rw [ByteArray.size_append] at hq
      simp +contextual (maxSteps := 10000000) only [go_sem, hl, e1, wmay_1, wmay_4, hz, sz_le hq, hd]
end Go.Bw.R1

namespace Go.Bw.R1
set_option maxRecDepth 5000
open Go Go.Bw Go.Proofs
mutual
/-- what a value is, whatever it is called -/
def bareV : Val → Val
  | .mk k n t l => if k = 25 then bareL l else .mk k n t l
def bareL : List Val → Val
  | [] => .mk 0 0 ⟨#[]⟩ []
  | _ :: r => bareH r
def bareH : List Val → Val
  | [] => .mk 0 0 ⟨#[]⟩ []
  | x :: _ => bareV x
end
theorem bare_ne {v : Val} (h : v.kind ≠ 25) : bareV v = v := by cases v; simp only [bareV, Val.kind_mk] at h ⊢; rw [if_neg h]
theorem bare_desc {v a x : Val} (h : v.kind = 25) (hk : v.kids = [a, x]) : bareV v = bareV x := by
  cases v; simp only [Val.kind_mk, Val.kids_mk] at h hk; subst h hk; simp only [bareV, bareL, bareH, if_true]
/-- the second kid -/
def sndV (v : Val) : Val := match v.kids with | [_, x] => x | _ => v
theorem snd_of {v a x : Val} (hk : v.kids = [a, x]) : sndV v = x := by unfold sndV; rw [hk]
/-- noughts behind values -/
def zV : List D := [.sc (.int .u8 0), .sc (.int .u64 0), .sc (.string ⟨#[]⟩), .nils]
def rowZ (l : List Val) (m : Nat) : List D := rowE Val.d l ++ repD zV m
theorem repD_len (m : Nat) : (repD zV m).length = m * 4 := by
  induction m with
  | zero => rfl
  | succ m ih => simp only [repD, List.length_append, ih]; simp [zV]; omega
theorem rowZ_len (l : List Val) (m : Nat) : (rowZ l m).length = (l.length + m) * 4 := by
  unfold rowZ
  rw [List.length_append, rowV_len, repD_len]; omega
theorem repD_refs (m : Nat) : D.refsL (repD zV m) = [] := by
  induction m with
  | zero => rfl
  | succ m ih => simp only [repD, refsL_append, ih]; rfl
theorem rowZ_refs (l : List Val) (m : Nat) : D.refsL (rowZ l m) = [] := by
  unfold rowZ
  rw [refsL_append, rowV_refs, repD_refs]; rfl
theorem rowZ_set (l : List Val) (m : Nat) (x : Val) : (rowZ l (m + 1)).take (l.length * 4) ++ [.sc (.int .u8 x.kind), .sc (.int .u64 x.num), .sc (.string x.text), .ro false (x.kids.map Val.d)] ++ (rowZ l (m + 1)).drop (l.length * 4 + 4) = rowZ (l ++ [x]) m := by
  rw [List.append_assoc]
  have h := rowV_len l
  unfold rowZ
  rw [List.take_append_of_le_length (by omega), List.take_of_length_le (by omega), List.drop_append, List.drop_of_length_le (by omega), List.nil_append, h, show l.length * 4 + 4 - l.length * 4 = 4 by omega]
  simp only [repD]
  rw [List.drop_append_of_le_length (by simp [zV]), show zV.drop 4 = [] from rfl, List.nil_append, ← List.append_assoc, rowV_snoc]
theorem rowZ_end (l : List Val) : rowZ l 0 = rowE Val.d l := by unfold rowZ; simp only [repD, List.append_nil]
theorem mk_vals {es : Sto} {n : Nat} (hn : n ≤ 40000000) : makeSliceD Tryz.prog (stL es) 44 (I n) (I n) = some (.ref es.length 0 4 0 n, stL (es ++ [some ⟨0, rowZ [] n⟩])) := by
  simp only [makeSliceD, el44, ze46, by46, List.length_cons, List.length_nil, Int.toNat_natCast, stL_next, stL_new]
  rw [if_pos ⟨trivial, by omega, by omega, by omega, by omega, by omega⟩]
  rfl
theorem fsE_vals {es : Sto} {F : Nat → Bool} {n i v len : Nat} {l : List Val} (hl : l.length = len) : fsE es F n i v 4 0 len true (some ⟨v, rowE Val.d l⟩) = .ro false (l.map Val.d) := fsE_rowE valOk hl
/-- values that are called alike -/
def Al (l : List Val) : Prop := ∃ v ∈ l.head?, (∀ x ∈ l, mayS x = true ∧ ∃ n, alikeF n v x = true)
theorem al_snd {l : List Val} (h : Al l) {v : Val} (hv : v ∈ l.head?) (hk : v.kind = 25) : (∀ x ∈ l, x.kind = 25 ∧ ∃ a y, x.kids = [a, y] ∧ sndV x = y) ∧ Al (l.map sndV) := by
  obtain ⟨v', hv', h⟩ := h
  obtain rfl : v' = v := by rw [Option.mem_def] at hv hv'; rw [hv] at hv'; exact (Option.some.inj hv').symm
  have key : ∀ x ∈ l, x.kind = 25 ∧ (∃ a y, x.kids = [a, y] ∧ sndV x = y) ∧ mayS (sndV x) = true ∧ ∃ n, alikeF n (sndV v') (sndV x) = true := by
    intro x hx
    obtain ⟨hm, n, hn⟩ := h x hx
    obtain ⟨hmv, _⟩ := h v' (List.mem_of_mem_head? hv)
    cases n with
    | zero => simp [alikeF] at hn
    | succ n =>
      have hx25 : x.kind = 25 := by
        unfold alikeF at hn
        rw [hk] at hn
        by_cases hxk : x.kind = 25
        · exact hxk
        · have : (x.kind != 25) = true := by simpa using hxk
          simp only [this, Bool.or_true, if_true, beq_iff_eq] at hn
          exact hn.symm
      obtain ⟨a, y, q1, q2, q3⟩ := may_desc hm hx25
      obtain ⟨a', y', p1, p2, p3⟩ := may_desc hmv hk
      refine ⟨hx25, ⟨a, y, q1, snd_of q1⟩, by rw [snd_of q1]; exact q3, n, ?_⟩
      unfold alikeF at hn
      rw [hk, hx25, p1, q1] at hn
      simp only [bne_self_eq_false, Bool.or_self, Bool.false_eq_true, if_false, Bool.and_eq_true] at hn
      rw [snd_of p1, snd_of q1]; exact hn.2
  refine ⟨fun x hx => ⟨(key x hx).1, (key x hx).2.1⟩, sndV v', ?_, fun y hy => ?_⟩
  · rw [Option.mem_def, List.head?_map]; rw [Option.mem_def] at hv; rw [hv]; rfl
  · obtain ⟨x, hx, rfl⟩ := List.mem_map.1 hy
    exact ⟨(key x hx).2.2.1, (key x hx).2.2.2⟩
theorem snd_sz {v : Val} (h : ∃ a y, v.kids = [a, y] ∧ sndV v = y) : (sndV v).sz < v.sz := by
  obtain ⟨a, y, h1, h2⟩ := h
  rw [Val.sz_eq v, h1, h2]
  simp only [Val.szL]; omega
theorem al_bare : ∀ (n : Nat) (l : List Val), Al l → (∀ v ∈ l.head?, v.sz ≤ n) → ∀ v ∈ l.head?, v.kind ≠ 25 → l.map bareV = l := by
  intro n l h _ v hv hk
  obtain ⟨v', hv', h⟩ := h
  obtain rfl : v' = v := by rw [Option.mem_def] at hv hv'; rw [hv] at hv'; exact (Option.some.inj hv').symm
  conv => rhs; rw [← List.map_id l]
  refine List.map_congr_left fun x hx => ?_
  obtain ⟨_, n, hn⟩ := h x hx
  cases n with
  | zero => simp [alikeF] at hn
  | succ n =>
    refine bare_ne fun hx25 => hk ?_
    unfold alikeF at hn
    have : (v'.kind != 25) = true := by simpa using hk
    simp only [this, Bool.true_or, if_true, beq_iff_eq] at hn
    rw [hn, hx25]
set_option maxHeartbeats 2000000 in
theorem strip_c (l : List Val) (hl : l.length ≤ 40000000) (hA : Al l) : EV 79 [.ro false (l.map Val.d)] [] = some (.ret (.ro false ((l.map bareV).map Val.d)), []) := by
  have hA0 := hA
  obtain ⟨v0, hv0, _⟩ := hA0
  refine (ev_body ⟨[], [(0, [0]), (2, [3, 14, 15, 16])], [], true, [(8, [0])], noIt⟩ [.tmp 2] rfl Tryz.func79 rfl rfl rfl (by kernel_rfl) (by show 1 ≤ 31; decide) (by kernel_rfl)).trans ?_
  simp +contextual (maxSteps := 10000000) only [go_sem]
  refine lpK_inv (fun m f es => ∃ (q : List Val) (v : Val), Al q ∧ v ∈ q.head? ∧ m = v.sz ∧ q.length = l.length ∧ q.map bareV = l.map bareV ∧ f = [(0, .ro false (q.map Val.d))] ∧ es = []) v0.sz ⟨l, v0, hA, hv0, rfl, rfl, rfl, rfl, rfl⟩ ?_
  rintro _ _ _ ⟨q, v, hq, hv, rfl, hlen, hb, rfl, rfl⟩ ih
  obtain ⟨r, hr⟩ : ∃ r, q = v :: r := by
    cases q with
    | nil => simp at hv
    | cons a r => simp only [List.head?_cons, Option.mem_def, Option.some.injEq] at hv; subst hv; exact ⟨r, rfl⟩
  have h0 : (q.map Val.d)[0]? = some v.d := by rw [hr]; rfl
  by_cases hk : v.kind = 25
  · obtain ⟨s1, s2⟩ := al_snd hq hv hk
    have hbd : (q.map sndV).map bareV = l.map bareV := by
      rw [← hb, List.map_map]
      refine List.map_congr_left fun x hx => ?_
      obtain ⟨p1, a, y, p2, p3⟩ := s1 x hx
      rw [Function.comp, p3, bare_desc p1 p2]
    have hsz := snd_sz (s1 v (by rw [hr]; exact List.mem_cons_self ..)).2
    have hmk : ∀ es, makeSliceD Tryz.prog (stL es) 44 (I q.length) (I q.length) = _ := fun es => mk_vals (es := es) (n := q.length) (by omega)
    simp +contextual (maxSteps := 10000000) only [go_sem, h0, hk, hmk, rowZ_refs]
    refine lpK_inv (fun m f es => ∃ (i : Nat) (j : Int), j = i ∧ m + i = q.length ∧ f = [(3, .ref 0 0 4 0 q.length), (14, .ro false (q.map Val.d)), (15, I q.length), (16, I j)] ∧ es = [some ⟨0, rowZ ((q.take i).map sndV) m⟩]) q.length ⟨0, _, rfl, by omega, rfl, rfl⟩ ?_
    rintro m _ _ ⟨i, _, rfl, hi, rfl, rfl⟩ ih2
    cases m with
    | succ m =>
      obtain ⟨x, hx⟩ := get_lt (l := q) (i := i) (by omega)
      obtain ⟨x1, a, y, x2, x3⟩ := s1 x (List.mem_of_getElem? hx)
      have hlt : decide ((i : Int) < q.length) = true := by simp; omega
      have hix : (q.map Val.d)[i]? = some x.d := by rw [List.getElem?_map, hx]; rfl
      have hti : ((q.take i).map sndV).length = i := by simp; omega
      have hset := rowZ_set ((q.take i).map sndV) m y
      rw [hti] at hset
      have hlz := rowZ_len ((q.take i).map sndV) (m + 1)
      rw [hti] at hlz
      have hle : i * 4 + 4 ≤ (i + (m + 1)) * 4 := by omega
      have hnx : (q.take i).map sndV ++ [y] = (q.take (i + 1)).map sndV := by rw [take_snoc hx, List.map_append, List.map_singleton, x3]
      rw [hnx] at hset
      have hlt2 : i < q.length := by omega
      have hlt3 : (i : Int) < (q.length : Int) := by omega
      simp +contextual (maxSteps := 10000000) only [go_sem, hix, x2, hlt, wrap_i64 (n := (i : Int) + 1) (by omega) (by omega), List.map_cons, List.map_nil, hlz, hle, hset, hlt2, hlt3, rowZ_refs]
      exact ih2 m _ _ (by omega) ⟨i + 1, (i : Int) + 1, by omega, by omega, rfl, rfl⟩
    | zero =>
      have hlt : decide ((i : Int) < q.length) = false := by simp; omega
      obtain rfl : i = q.length := by omega
      have hsl : (q.map sndV).length = q.length := by simp
      simp +contextual (maxSteps := 10000000) only [go_sem, hlt, List.take_length, rowZ_end, fsE_vals hsl]
      exact ih _ _ _ hsz ⟨q.map sndV, sndV v, s2, by rw [hr]; rfl, rfl, by simp [hlen], hbd, rfl, rfl⟩
  · have hkf : (v.kind == 25) = false := by simpa using hk
    have e := al_bare v.sz q hq (fun x hx => by rw [Option.mem_def] at hx hv; rw [hv] at hx; cases hx; exact Nat.le_refl _) v hv hk
    rw [e] at hb
    simp +contextual (maxSteps := 10000000) only [go_sem, h0, hkf]
    rw [hb]
end Go.Bw.R1

namespace Go.Bw.R1
set_option maxRecDepth 5000
open Go Go.Bw Go.Proofs
/-- a value, as its bytes tell it: what it is, and what stands inside -/
structure Sh where
  kind : Int
  num : Int
  text : ByteArray
  cnt : Nat
  ins : ByteArray
  deriving Inhabited
def codesOf (k : Int) : List Int :=
  if k = 2 then [65, 66, 86] else if k = 5 then [67, 82, 112] else if k = 6 then [68, 83, 128] else if k = 9 then [84, 113] else if k = 10 then [85, 129] else if k = 19 then [160, 176] else if k = 20 then [161, 177]
  else if k = 21 then [163, 179] else if k = 22 then [69, 192, 208] else if k = 23 then [193, 209] else if k = 24 then [224, 240] else [codeK k]
def sgn8 (n : Int) : Bool := IntKind.i8.wrap n == IntKind.i64.wrap n
def fitS (c : Int) (s : Sh) : Bool :=
  if c = 65 then s.num == 1 else if c = 66 ∨ c = 67 ∨ c = 68 then s.num == 0 else if c = 69 then decide (s.cnt = 0) else if c = 82 ∨ c = 83 then decide (s.num ≤ 255) else if c = 84 ∨ c = 85 then sgn8 s.num
  else if c = 160 ∨ c = 161 ∨ c = 163 then decide (s.text.size ≤ 255) else if c = 192 ∨ c = 193 ∨ c = 224 then decide (s.cnt ≤ 255) && decide (s.ins.size < 255) else true
/-- the first code of a kind that can tell all -/
def codeOf (ls : List Sh) : Int := ((codesOf (ls.headD default).kind).find? fun c => ls.all (fitS c)).getD 0
def widQ (q : Int) : Nat := if q = 5 then 1 else if q = 6 then 2 else if q = 7 then 4 else 8
def dataS (c : Int) (s : Sh) : ByteArray :=
  if c.fdiv 16 = 4 then e0 else if c.fdiv 16 = 5 ∨ c.fdiv 16 = 6 ∨ c.fdiv 16 = 7 ∨ c.fdiv 16 = 8 then (if s.text = e0 then be (widQ (c.fdiv 16)) s.num else s.text)
  else if c.fdiv 16 = 9 then s.text else if c.fdiv 16 = 10 then be 1 s.text.size ++ s.text else if c.fdiv 16 = 11 then be 4 s.text.size ++ s.text
  else if c.fdiv 16 = 12 ∨ c.fdiv 16 = 14 then be 1 (1 + s.ins.size : Nat) ++ (be 1 s.cnt ++ s.ins) else be 4 (4 + s.ins.size : Nat) ++ (be 4 s.cnt ++ s.ins)
def Wd (s : Sh) (h : ByteArray) : ByteArray := h ++ b1 (codeOf [s]) ++ dataS (codeOf [s]) s
def catW : List (Sh × ByteArray) → ByteArray
  | [] => e0
  | e :: r => Wd e.1 e.2 ++ catW r
def catD (c : Int) : List Sh → ByteArray
  | [] => e0
  | s :: r => dataS c s ++ catD c r
def arrS : List (Sh × ByteArray) → ByteArray
  | [] => b1 64
  | e :: r => e.2 ++ b1 (codeOf ((e :: r).map Prod.fst)) ++ catD (codeOf ((e :: r).map Prod.fst)) ((e :: r).map Prod.fst)
def encF (k n : Int) (t : ByteArray) (es : List (Sh × ByteArray)) : Sh × ByteArray :=
  if k = 25 then (match es with | [a, x] => (x.1, b1 0 ++ Wd a.1 a.2 ++ x.2) | _ => default) else (⟨k, n, t, es.length, if k = 24 then arrS es else catW es⟩, e0)
mutual
def encV : Val → Sh × ByteArray
  | .mk k n t l => encF k n t (encL l)
def encL : List Val → List (Sh × ByteArray)
  | [] => []
  | v :: l => encV v :: encL l
end
theorem encL_map : ∀ l, encL l = l.map encV
  | [] => rfl
  | v :: l => by rw [encL, encL_map l]; rfl
theorem encV_eq (v : Val) : encV v = encF v.kind v.num v.text (v.kids.map encV) := by cases v; rw [encV, encL_map]; rfl
def shV (v : Val) : Sh := (encV v).1
def hdV (v : Val) : ByteArray := (encV v).2
/-- a value's bytes -/
def wrV (v : Val) : ByteArray := Wd (shV v) (hdV v)
def insS (v : Val) : ByteArray := if v.kind = 24 then arrS (v.kids.map encV) else catW (v.kids.map encV)
theorem sh_ne {v : Val} (h : v.kind ≠ 25) : shV v = ⟨v.kind, v.num, v.text, v.kids.length, insS v⟩ := by
  unfold shV insS; rw [encV_eq]; unfold encF; rw [if_neg h]; simp only [List.length_map]
theorem hd_ne {v : Val} (h : v.kind ≠ 25) : hdV v = e0 := by unfold hdV; rw [encV_eq]; unfold encF; rw [if_neg h]
theorem enc_desc {v a x : Val} (h : v.kind = 25) (hk : v.kids = [a, x]) : shV v = shV x ∧ hdV v = b1 0 ++ wrV a ++ hdV x := by
  unfold shV hdV wrV shV hdV; rw [encV_eq v]; unfold encF; rw [if_pos h, hk]; exact ⟨rfl, rfl⟩
theorem catW_app : ∀ a b, catW (a ++ b) = catW a ++ catW b
  | [], b => by simp only [List.nil_append, catW]; exact (ByteArray.empty_append).symm
  | e :: a, b => by simp only [List.cons_append, catW, catW_app a b, ByteArray.append_assoc]
theorem catD_app (c : Int) : ∀ a b, catD c (a ++ b) = catD c a ++ catD c b
  | [], b => by simp only [List.nil_append, catD]; exact (ByteArray.empty_append).symm
  | e :: a, b => by simp only [List.cons_append, catD, catD_app c a b, ByteArray.append_assoc]
theorem e0_app (a : ByteArray) : e0 ++ a = a := ByteArray.empty_append
theorem app_e0 (a : ByteArray) : a ++ e0 = a := ByteArray.append_empty
theorem e0_size : e0.size = 0 := rfl
theorem wOk_wid (q : Int) : wOk (widQ q) := by unfold widQ wOk; repeat' split
                                               all_goals simp
theorem wid_le (q : Int) : widQ q ≤ 8 := by unfold widQ; repeat' split
                                            all_goals omega
theorem dataS_size (c : Int) (s : Sh) : (dataS c s).size ≤ 8 + s.text.size + s.ins.size := by
  unfold dataS
  repeat' split
  all_goals try simp only [ByteArray.size_append, e0_size, be_size (wOk_wid _), be_size (w := 1) (by simp [wOk]), be_size (w := 4) (by simp [wOk])]
  all_goals first | omega | (have := wid_le (c.fdiv 16); omega)
/-- so many bytes a value may have at most -/
def mxS (e : Sh × ByteArray) : Nat := e.2.size + 9 + e.1.text.size + e.1.ins.size
theorem Wd_size (s : Sh) (h : ByteArray) : (Wd s h).size ≤ mxS (s, h) := by
  have := dataS_size (codeOf [s]) s
  unfold Wd mxS
  simp only [ByteArray.size_append, b1_size]; omega
theorem catW_size : ∀ es : List (Sh × ByteArray), (catW es).size ≤ (es.map mxS).sum
  | [] => by simp [catW, e0_size]
  | e :: r => by have := catW_size r; have h : (Wd e.1 e.2).size ≤ mxS e := Wd_size e.1 e.2; simp only [catW, ByteArray.size_append, List.map_cons, List.sum_cons]; omega
theorem catD_size (c : Int) : ∀ es : List (Sh × ByteArray), (catD c (es.map Prod.fst)).size + es.length ≤ (es.map mxS).sum
  | [] => by simp [catD, e0_size]
  | e :: r => by
    have := catD_size c r; have := dataS_size c e.1
    simp only [List.map_cons, catD, ByteArray.size_append, List.sum_cons, List.length_cons]
    unfold mxS at *; omega
theorem catD_size2 (c : Int) (e : Sh × ByteArray) (r : List (Sh × ByteArray)) : e.2.size + 1 + (catD c ((e :: r).map Prod.fst)).size ≤ ((e :: r).map mxS).sum := by
  have := catD_size c r; have := dataS_size c e.1
  simp only [List.map_cons, catD, ByteArray.size_append, List.sum_cons]
  unfold mxS at *; omega
theorem arrS_size (es : List (Sh × ByteArray)) : (arrS es).size ≤ 1 + (es.map mxS).sum := by
  cases es with
  | nil => simp [arrS, b1_size]
  | cons e r =>
    have := catD_size2 (codeOf ((e :: r).map Prod.fst)) e r
    simp only [arrS, ByteArray.size_append, b1_size]; omega
theorem encF_size (k n : Int) (t : ByteArray) (es : List (Sh × ByteArray)) : mxS (encF k n t es) ≤ 10 + t.size + (es.map mxS).sum := by
  unfold encF
  split
  · split
    · rename_i a x
      have := Wd_size a.1 a.2
      simp only [List.map_cons, List.map_nil, List.sum_cons, List.sum_nil]
      have e : mxS (x.1, b1 0 ++ Wd a.1 a.2 ++ x.2) = 1 + (Wd a.1 a.2).size + mxS x := by unfold mxS; simp only [ByteArray.size_append, b1_size]; omega
      rw [e]
      have : mxS (a.1, a.2) = mxS a := rfl
      omega
    · show mxS default ≤ _
      have : mxS default = 9 := rfl
      omega
  · have key : ∀ z : ByteArray, mxS (⟨k, n, t, es.length, z⟩, e0) = 0 + 9 + t.size + z.size := fun z => rfl
    rw [key]
    split
    · have := arrS_size es; omega
    · have := catW_size es; omega
mutual
theorem mx_sz : ∀ v : Val, mxS (encV v) ≤ 10 * v.sz
  | .mk k n t l => by
    have h1 := encF_size k n t (encL l); have h2 := mx_szL l
    have e : encV (.mk k n t l) = encF k n t (encL l) := by rw [encV]
    rw [e, Val.sz]; omega
theorem mx_szL : ∀ l : List Val, ((encL l).map mxS).sum ≤ 10 * Val.szL l
  | [] => by rw [encL]; exact Nat.zero_le _
  | v :: l => by have h1 := mx_sz v; have h2 := mx_szL l; rw [encL, List.map_cons, List.sum_cons, Val.szL]; omega
end
theorem wr_sz (v : Val) : (wrV v).size ≤ 10 * v.sz := by
  have h1 := Wd_size (shV v) (hdV v); have h2 := mx_sz v
  exact Nat.le_trans h1 h2
theorem ins_sz (v : Val) : (shV v).ins.size + (shV v).text.size + (hdV v).size + 9 ≤ 10 * v.sz := by
  have h2 := mx_sz v
  unfold mxS at h2; unfold shV hdV; omega
theorem wr_pos (v : Val) : 0 < (wrV v).size := by unfold wrV Wd; simp only [ByteArray.size_append, b1_size]; omega
theorem sh_bare : ∀ (n : Nat) (v : Val), v.sz ≤ n → mayS v = true → shV (bareV v) = shV v ∧ (bareV v).kind ≠ 25 ∧ mayS (bareV v) = true ∧ (bareV v).sz ≤ v.sz
  | 0, .mk .., h, _ => by simp [Val.sz] at h
  | n + 1, v, hn, hm => by
    by_cases hk : v.kind = 25
    · obtain ⟨a, x, h1, h2, h3⟩ := may_desc hm hk
      have hs : x.sz < v.sz := by rw [Val.sz_eq v, h1]; simp only [Val.szL]; omega
      obtain ⟨i1, i2, i3, i4⟩ := sh_bare n x (by omega) h3
      rw [bare_desc hk h1, (enc_desc hk h1).1]
      exact ⟨i1, i2, i3, by omega⟩
    · rw [bare_ne hk]; exact ⟨rfl, hk, hm, Nat.le_refl _⟩
end Go.Bw.R1

namespace Go.Bw.R1
set_option maxRecDepth 5000
open Go Go.Bw Go.Proofs
theorem mapT : MapT Tryz.prog 116 := ⟨5, 5, by rw [Tryz.underlying116], by rw [Tryz.underlying5], ze5, by kernel_rfl, by kernel_rfl⟩
theorem gl_codes : gl0 2 = .rp [codesD] := nr rfl
def fnOf (c : Int) : FuncId :=
  if c = 65 then 156 else if c = 66 ∨ c = 67 ∨ c = 68 then 157 else if c = 69 then 162 else if c = 82 ∨ c = 83 then 159 else if c = 84 ∨ c = 85 then 160
  else if c = 160 ∨ c = 161 ∨ c = 163 then 161 else if c = 192 ∨ c = 193 ∨ c = 224 then 163 else 158
/-- a code, and what says whether it can tell a value -/
def chD (c : Int) : D := .agg [.sc (.int .u8 c), .fn (.func (fnOf c)) [] []]
theorem choices_2 : EV 119 [.sc (.int .u8 2)] [] = some (.ret (.ro false ((codesOf 2).map chD)), []) := by
  refine (ev_body ⟨[], [], [], true, [], noIt⟩ [.tmp 2] rfl Tryz.func119 rfl rfl rfl (by kernel_rfl) (by show 1 ≤ 68; decide) (by kernel_rfl)).trans ?_
  simp +contextual (maxSteps := 10000000) only [go_sem]
  rfl
theorem choices_5 : EV 119 [.sc (.int .u8 5)] [] = some (.ret (.ro false ((codesOf 5).map chD)), []) := by
  refine (ev_body ⟨[], [], [], true, [], noIt⟩ [.tmp 2] rfl Tryz.func119 rfl rfl rfl (by kernel_rfl) (by show 1 ≤ 68; decide) (by kernel_rfl)).trans ?_
  simp +contextual (maxSteps := 10000000) only [go_sem]
  rfl
theorem choices_6 : EV 119 [.sc (.int .u8 6)] [] = some (.ret (.ro false ((codesOf 6).map chD)), []) := by
  refine (ev_body ⟨[], [], [], true, [], noIt⟩ [.tmp 2] rfl Tryz.func119 rfl rfl rfl (by kernel_rfl) (by show 1 ≤ 68; decide) (by kernel_rfl)).trans ?_
  simp +contextual (maxSteps := 10000000) only [go_sem]
  rfl
theorem choices_9 : EV 119 [.sc (.int .u8 9)] [] = some (.ret (.ro false ((codesOf 9).map chD)), []) := by
  refine (ev_body ⟨[], [], [], true, [], noIt⟩ [.tmp 2] rfl Tryz.func119 rfl rfl rfl (by kernel_rfl) (by show 1 ≤ 68; decide) (by kernel_rfl)).trans ?_
  simp +contextual (maxSteps := 10000000) only [go_sem]
  rfl
theorem choices_10 : EV 119 [.sc (.int .u8 10)] [] = some (.ret (.ro false ((codesOf 10).map chD)), []) := by
  refine (ev_body ⟨[], [], [], true, [], noIt⟩ [.tmp 2] rfl Tryz.func119 rfl rfl rfl (by kernel_rfl) (by show 1 ≤ 68; decide) (by kernel_rfl)).trans ?_
  simp +contextual (maxSteps := 10000000) only [go_sem]
  rfl
theorem choices_19 : EV 119 [.sc (.int .u8 19)] [] = some (.ret (.ro false ((codesOf 19).map chD)), []) := by
  refine (ev_body ⟨[], [], [], true, [], noIt⟩ [.tmp 2] rfl Tryz.func119 rfl rfl rfl (by kernel_rfl) (by show 1 ≤ 68; decide) (by kernel_rfl)).trans ?_
  simp +contextual (maxSteps := 10000000) only [go_sem]
  rfl
theorem choices_20 : EV 119 [.sc (.int .u8 20)] [] = some (.ret (.ro false ((codesOf 20).map chD)), []) := by
  refine (ev_body ⟨[], [], [], true, [], noIt⟩ [.tmp 2] rfl Tryz.func119 rfl rfl rfl (by kernel_rfl) (by show 1 ≤ 68; decide) (by kernel_rfl)).trans ?_
  simp +contextual (maxSteps := 10000000) only [go_sem]
  rfl
theorem choices_21 : EV 119 [.sc (.int .u8 21)] [] = some (.ret (.ro false ((codesOf 21).map chD)), []) := by
  refine (ev_body ⟨[], [], [], true, [], noIt⟩ [.tmp 2] rfl Tryz.func119 rfl rfl rfl (by kernel_rfl) (by show 1 ≤ 68; decide) (by kernel_rfl)).trans ?_
  simp +contextual (maxSteps := 10000000) only [go_sem]
  rfl
theorem choices_22 : EV 119 [.sc (.int .u8 22)] [] = some (.ret (.ro false ((codesOf 22).map chD)), []) := by
  refine (ev_body ⟨[], [], [], true, [], noIt⟩ [.tmp 2] rfl Tryz.func119 rfl rfl rfl (by kernel_rfl) (by show 1 ≤ 68; decide) (by kernel_rfl)).trans ?_
  simp +contextual (maxSteps := 10000000) only [go_sem]
  rfl
theorem choices_23 : EV 119 [.sc (.int .u8 23)] [] = some (.ret (.ro false ((codesOf 23).map chD)), []) := by
  refine (ev_body ⟨[], [], [], true, [], noIt⟩ [.tmp 2] rfl Tryz.func119 rfl rfl rfl (by kernel_rfl) (by show 1 ≤ 68; decide) (by kernel_rfl)).trans ?_
  simp +contextual (maxSteps := 10000000) only [go_sem]
  rfl
theorem choices_24 : EV 119 [.sc (.int .u8 24)] [] = some (.ret (.ro false ((codesOf 24).map chD)), []) := by
  refine (ev_body ⟨[], [], [], true, [], noIt⟩ [.tmp 2] rfl Tryz.func119 rfl rfl rfl (by kernel_rfl) (by show 1 ≤ 68; decide) (by kernel_rfl)).trans ?_
  simp +contextual (maxSteps := 10000000) only [go_sem]
  rfl
theorem tabS_mem : ∀ (l : List (Int × Int)) (k : Int), tabS l k = 0 ∨ ∃ p ∈ l, p.1 = k ∧ tabS l k = p.2
  | [], k => .inl rfl
  | (a, b) :: r, k => by
    unfold tabS
    by_cases h : a = k
    · rw [if_pos h]; exact .inr ⟨(a, b), List.mem_cons_self .., h, rfl⟩
    · rw [if_neg h]
      rcases tabS_mem r k with h2 | ⟨p, h2, h3⟩
      · exact .inl h2
      · exact .inr ⟨p, List.mem_cons_of_mem _ h2, h3⟩
theorem codeK_fn (k : Int) : fnOf (codeK k) = 158 := by
  rcases tabS_mem codesTab k with h | ⟨p, h1, h2, h3⟩
  · show fnOf (tabS codesTab k) = _; rw [h]; rfl
  · show fnOf (tabS codesTab k) = _; rw [h3]
    have : ∀ p ∈ codesTab, fnOf p.2 = 158 := by decide
    exact this p h1
theorem choices_e (k : Int) (h2 : k ≠ 2) (h5 : k ≠ 5) (h6 : k ≠ 6) (h9 : k ≠ 9) (h10 : k ≠ 10) (h19 : k ≠ 19) (h20 : k ≠ 20) (h21 : k ≠ 21) (h22 : k ≠ 22) (h23 : k ≠ 23) (h24 : k ≠ 24) : EV 119 [.sc (.int .u8 k)] [] = some (.ret (.ro false ((codesOf k).map chD)), []) := by
  have e : codesOf k = [codeK k] := by unfold codesOf; simp only [h2, h5, h6, h9, h10, h19, h20, h21, h22, h23, h24, if_false]
  have b2 : (k == 2) = false := by simpa using h2
  have b5 : (k == 5) = false := by simpa using h5
  have b6 : (k == 6) = false := by simpa using h6
  have b9 : (k == 9) = false := by simpa using h9
  have b10 : (k == 10) = false := by simpa using h10
  have b19 : (k == 19) = false := by simpa using h19
  have b20 : (k == 20) = false := by simpa using h20
  have b21 : (k == 21) = false := by simpa using h21
  have b22 : (k == 22) = false := by simpa using h22
  have b23 : (k == 23) = false := by simpa using h23
  have b24 : (k == 24) = false := by simpa using h24
  rw [e, List.map_cons, List.map_nil, chD, codeK_fn]
  refine (ev_body ⟨[], [], [], true, [], noIt⟩ [.tmp 2] rfl Tryz.func119 rfl rfl rfl (by kernel_rfl) (by show 1 ≤ 68; decide) (by kernel_rfl)).trans ?_
  simp +contextual (maxSteps := 10000000) only [go_sem, b2, b5, b6, b9, b10, b19, b20, b21, b22, b23, b24, look_codes mapT, gl_codes]
theorem choices_c (k : Int) : EV 119 [.sc (.int .u8 k)] [] = some (.ret (.ro false ((codesOf k).map chD)), []) := by
  by_cases h2 : k = 2
  · subst h2; exact choices_2
  by_cases h5 : k = 5
  · subst h5; exact choices_5
  by_cases h6 : k = 6
  · subst h6; exact choices_6
  by_cases h9 : k = 9
  · subst h9; exact choices_9
  by_cases h10 : k = 10
  · subst h10; exact choices_10
  by_cases h19 : k = 19
  · subst h19; exact choices_19
  by_cases h20 : k = 20
  · subst h20; exact choices_20
  by_cases h21 : k = 21
  · subst h21; exact choices_21
  by_cases h22 : k = 22
  · subst h22; exact choices_22
  by_cases h23 : k = 23
  · subst h23; exact choices_23
  by_cases h24 : k = 24
  · subst h24; exact choices_24
  exact choices_e k h2 h5 h6 h9 h10 h19 h20 h21 h22 h23 h24
theorem f_one (v : Val) : EV 156 [v.d] [] = some (.ret (B (v.num == 1)), []) := by
  refine (ev_body ⟨[1], [], [], false, [], noIt⟩ [.tmp 2] rfl Tryz.func156 rfl rfl rfl (by kernel_rfl) (by show 1 ≤ 6; decide) (by kernel_rfl)).trans ?_
  simp +contextual (maxSteps := 10000000) only [go_sem]
theorem f_nought (v : Val) : EV 157 [v.d] [] = some (.ret (B (v.num == 0)), []) := by
  refine (ev_body ⟨[1], [], [], false, [], noIt⟩ [.tmp 2] rfl Tryz.func157 rfl rfl rfl (by kernel_rfl) (by show 1 ≤ 6; decide) (by kernel_rfl)).trans ?_
  simp +contextual (maxSteps := 10000000) only [go_sem]
theorem f_all (v : Val) : EV 158 [v.d] [] = some (.ret (B true), []) := by
  refine (ev_body ⟨[1], [], [], false, [], noIt⟩ [.tmp 2] rfl Tryz.func158 rfl rfl rfl (by kernel_rfl) (by show 1 ≤ 3; decide) (by kernel_rfl)).trans ?_
  simp +contextual (maxSteps := 10000000) only [go_sem]
theorem f_byte (v : Val) : EV 159 [v.d] [] = some (.ret (B (decide (v.num ≤ 255))), []) := by
  refine (ev_body ⟨[1], [], [], false, [], noIt⟩ [.tmp 2] rfl Tryz.func159 rfl rfl rfl (by kernel_rfl) (by show 1 ≤ 6; decide) (by kernel_rfl)).trans ?_
  simp +contextual (maxSteps := 10000000) only [go_sem]
theorem f_signed (v : Val) : EV 160 [v.d] [] = some (.ret (B (sgn8 v.num)), []) := by
  refine (ev_body ⟨[1], [], [], false, [], noIt⟩ [.tmp 2] rfl Tryz.func160 rfl rfl rfl (by kernel_rfl) (by show 1 ≤ 11; decide) (by kernel_rfl)).trans ?_
  have e : IntKind.i64.wrap (IntKind.i8.wrap v.num) = IntKind.i8.wrap v.num := by
    have := wrap_i8_eq v.num
    apply wrap_i64 <;> (rw [this]; split <;> omega)
  simp +contextual (maxSteps := 10000000) only [go_sem, e, sgn8]
theorem f_short (v : Val) : EV 161 [v.d] [] = some (.ret (B (decide (v.text.size ≤ 255))), []) := by
  have e : decide ((v.text.size : Int) ≤ 255) = decide (v.text.size ≤ 255) := decide_eq_decide.2 (by omega)
  refine (ev_body ⟨[1], [], [], false, [], noIt⟩ [.tmp 2] rfl Tryz.func161 rfl rfl rfl (by kernel_rfl) (by show 1 ≤ 7; decide) (by kernel_rfl)).trans ?_
  simp +contextual (maxSteps := 10000000) only [go_sem, e]
theorem f_none (v : Val) : EV 162 [v.d] [] = some (.ret (B (decide (v.kids.length = 0))), []) := by
  have e : ((v.kids.length : Int) == 0) = decide (v.kids.length = 0) := by rw [Bool.eq_iff_iff]; simp only [beq_iff_eq, decide_eq_true_eq]; omega
  refine (ev_body ⟨[1], [], [], false, [], noIt⟩ [.tmp 2] rfl Tryz.func162 rfl rfl rfl (by kernel_rfl) (by show 1 ≤ 7; decide) (by kernel_rfl)).trans ?_
  simp +contextual (maxSteps := 10000000) only [go_sem, e]
theorem of_c (p n : Int) : EV 178 [I p, I n] [] = some (.ret (.sc (.complex .f64 (FloatKind.f64.nearest p) (FloatKind.f64.nearest n))), []) := by
  refine (ev_body ⟨[], [], [], false, [], noIt⟩ [.tmp 4] rfl Tryz.func178 rfl rfl rfl (by kernel_rfl) (by show 2 ≤ 10; decide) (by kernel_rfl)).trans ?_
  simp +contextual (maxSteps := 10000000) only [go_sem, conv_i2f Tryz.underlying3 Tryz.underlying182, complex_b]
theorem cmp_lt (n m : Int) : (some (compare n m) == some Ordering.lt) = decide (n < m) := by
  simp only [compare, compareOfLessAndEq]
  by_cases h : n < m
  · simp [h]
  · by_cases h2 : n = m
    · simp [h, h2]
    · simp [h, h2]
theorem cmp_le (n m : Int) : (some (compare n m) == some Ordering.lt || some (compare n m) == some Ordering.eq) = decide (n ≤ m) := by
  simp only [compare, compareOfLessAndEq]
  by_cases h : n < m
  · simp [h]; omega
  · by_cases h2 : n = m
    · simp [h2]
    · simp [h, h2]; omega
theorem small_c (p n : Int) (h0 : 0 ≤ p) (h1 : p < 9007199254740992) (k0 : 0 ≤ n) (k1 : n < 9007199254740992) : EV 179 [.sc (.complex .f64 (FloatKind.f64.nearest p) (FloatKind.f64.nearest n))] [] = some (.ret (B (decide (p ≤ 255) && decide (n < 255))), []) := by
  have a1 := order_near p 255 h0 h1 (by omega) (by omega)
  have a2 := order_near n 255 k0 k1 (by omega) (by omega)
  rw [near_255] at a1 a2
  have c1 := cmp_le p 255
  have c2 := cmp_lt n 255
  rw [← a1] at c1
  rw [← a2] at c2
  refine (ev_body ⟨[], [], [], false, [], noIt⟩ [.tmp 2] rfl Tryz.func179 rfl rfl rfl (by kernel_rfl) (by show 1 ≤ 11; decide) (by kernel_rfl)).trans ?_
  simp +contextual (maxSteps := 10000000) only [go_sem, real_b, imag_b, fleq_b Tryz.underlying182, flss_b Tryz.underlying182, c1, c2, pick_and]
/-- what stands inside, as it is handed back -/
def insR (s : ByteArray) : R × Sto := if s.size = 0 then (.ret .nils, []) else (.ret (.ref 0 0 1 0 s.size), [some ⟨0, bytesD s⟩])
/-- what inside answers: bytes in new memory, or a constant byte -/
def InsC (v : Val) (s : ByteArray) : Prop := EV 118 [v.d] [] = some (insR s) ∨ EV 118 [v.d] [] = some (.ret (.ro true (bytesD s)), [])
theorem f_few (v : Val) (s : ByteArray) (hs : s.size ≤ 450000000) (hk : v.kids.length ≤ 40000000) (h : InsC v s) : EV 163 [v.d] [] = some (.ret (B (decide (v.kids.length ≤ 255) && decide (s.size < 255))), []) := by
  have hc := small_c v.kids.length s.size (by omega) (by omega) (by omega) (by omega)
  have e1 : decide ((v.kids.length : Int) ≤ 255) = decide (v.kids.length ≤ 255) := decide_eq_decide.2 (by omega)
  have e2 : decide ((s.size : Int) < 255) = decide (s.size < 255) := decide_eq_decide.2 (by omega)
  rw [e1, e2] at hc
  refine (ev_body ⟨[1], [], [(1, [(3, 0, false), (4, 0, true), (0, 0, false), (1, 0, false), (2, 0, false), (5, 1, false), (6, 1, false), (7, 0, false), (8, 1, false)])], false, [], noIt⟩ [.tmp 2] rfl Tryz.func163 rfl rfl rfl (by kernel_rfl) (by show 1 ≤ 11; decide) (by kernel_rfl)).trans ?_
  rcases h with h | h
  · unfold insR at h
    by_cases h0 : s.size = 0
    · rw [if_pos h0] at h
      rw [h0] at hc
      simp only [Int.natCast_zero, Int.cast_ofNat_Int] at hc
      simp +contextual (maxSteps := 10000000) only [go_sem, h, of_c, hc, h0]
    · rw [if_neg h0] at h
      simp +contextual (maxSteps := 10000000) only [go_sem, h, of_c, hc]
  · simp +contextual (maxSteps := 10000000) only [go_sem, h, of_c, hc]
end Go.Bw.R1

namespace Go.Bw.R1
set_option maxRecDepth 5000
open Go Go.Bw Go.Proofs
theorem fit_c (v : Val) (hv : v.sz ≤ 40000000) (hk : v.kind ≠ 25) (c : Int) (hin : c = 192 ∨ c = 193 ∨ c = 224 → InsC v (insS v)) : EV (fnOf c) [v.d] [] = some (.ret (B (fitS c (shV v))), []) := by
  have hl := szL_len v.kids
  have hz := Val.sz_eq v
  have hi := ins_sz v
  rw [sh_ne hk] at hi ⊢
  simp only at hi
  unfold fnOf fitS
  simp only
  by_cases h1 : c = 65
  · rw [if_pos h1, if_pos h1]; exact f_one v
  rw [if_neg h1, if_neg h1]
  by_cases h2 : c = 66 ∨ c = 67 ∨ c = 68
  · rw [if_pos h2, if_pos h2]; exact f_nought v
  rw [if_neg h2, if_neg h2]
  by_cases h3 : c = 69
  · rw [if_pos h3, if_pos h3]; exact f_none v
  rw [if_neg h3, if_neg h3]
  by_cases h4 : c = 82 ∨ c = 83
  · rw [if_pos h4, if_pos h4]; exact f_byte v
  rw [if_neg h4, if_neg h4]
  by_cases h5 : c = 84 ∨ c = 85
  · rw [if_pos h5, if_pos h5]; exact f_signed v
  rw [if_neg h5, if_neg h5]
  by_cases h6 : c = 160 ∨ c = 161 ∨ c = 163
  · rw [if_pos h6, if_pos h6]; exact f_short v
  rw [if_neg h6, if_neg h6]
  by_cases h7 : c = 192 ∨ c = 193 ∨ c = 224
  · rw [if_pos h7, if_pos h7]; exact f_few v _ (by omega) (by omega) (hin h7)
  rw [if_neg h7, if_neg h7]; exact f_all v
theorem all_take {α : Type} {p : α → Bool} {l : List α} {i : Nat} {x : α} (h : l[i]? = some x) : (l.take (i + 1)).all p = ((l.take i).all p && p x) := by
  rw [take_snoc h, List.all_append]; simp
theorem codesOf_len (k : Int) : (codesOf k).length ≤ 3 := by unfold codesOf; repeat' split
                                                             all_goals simp
theorem ch_refs (cs : List Int) : D.refsL (cs.map chD) = [] := refsL_map (fun _ => rfl) cs
theorem ch_can (cs : List Int) : D.canL (cs.map chD) = cs.map chD := by
  rw [D.canL_map, List.map_map]; rfl
attribute [go_sem] ch_refs ch_can
set_option maxHeartbeats 2000000 in
theorem code_c (l : List Val) (v : Val) (hv : l[0]? = some v) (hl : l.length ≤ 40000000) (hf : ∀ x ∈ l, ∀ c ∈ codesOf v.kind, EV (fnOf c) [x.d] [] = some (.ret (B (fitS c (shV x))), [])) (hk : v.kind ≠ 25) : EV 82 [.ro false (l.map Val.d)] [] = some (.ret (.sc (.int .u8 (codeOf (l.map shV)))), []) := by
  have h0 : (l.map Val.d)[0]? = some v.d := by rw [List.getElem?_map, hv]; rfl
  have hkd : (List.headD (l.map shV) default).kind = v.kind := by
    cases l with
    | nil => simp at hv
    | cons a r => simp at hv; subst hv; show (shV a).kind = _; rw [sh_ne hk]
  have hco : codeOf (l.map shV) = ((codesOf v.kind).find? fun c => (l.map shV).all (fitS c)).getD 0 := by unfold codeOf; rw [hkd]
  rw [hco]
  obtain ⟨cs, hcs⟩ : ∃ cs, cs = codesOf v.kind := ⟨_, rfl⟩
  have hlen := codesOf_len v.kind
  have hch := choices_c v.kind
  rw [← hcs] at hf hlen hch ⊢
  refine (ev_body ⟨[], [(0, [0, 12, 13, 14]), (2, [0, 4, 5, 12, 13, 14, 18, 19, 20])], [], false, [], noIt⟩ [.tmp 2] rfl Tryz.func82 rfl rfl rfl (by kernel_rfl) (by show 1 ≤ 36; decide) (by kernel_rfl)).trans ?_
  simp +contextual (maxSteps := 10000000) only [go_sem, h0, hch]
  refine lpK_inv (fun m f es => ∃ (i : Nat) (j : Int), j = i ∧ m + i = cs.length ∧ (cs.find? fun c => (l.map shV).all (fitS c)).getD 0 = ((cs.drop i).find? fun c => (l.map shV).all (fitS c)).getD 0 ∧ f = [(0, .ro false (l.map Val.d)), (12, .ro false (cs.map chD)), (13, I cs.length), (14, I j)] ∧ es = []) cs.length ⟨0, _, rfl, by omega, rfl, rfl, rfl⟩ ?_
  rintro m _ _ ⟨i, _, rfl, hi, hfi, rfl, rfl⟩ ih
  cases m with
  | zero =>
    have hlt : decide ((i : Int) < cs.length) = false := by simp; omega
    obtain rfl : i = cs.length := by omega
    rw [List.drop_length] at hfi
    simp +contextual (maxSteps := 10000000) only [go_sem, hlt]
    rw [hfi]; rfl
  | succ m =>
    obtain ⟨c, hc⟩ := get_lt (l := cs) (i := i) (by omega)
    have hcm := List.mem_of_getElem? hc
    have hlt : decide ((i : Int) < cs.length) = true := by simp; omega
    have hix : (cs.map chD)[i]? = some (.agg [.sc (.int .u8 c), .fn (.func (fnOf c)) [] []]) := by rw [List.getElem?_map, hc]; rfl
    have hdr : cs.drop i = c :: cs.drop (i + 1) := by
      obtain ⟨p, q⟩ := List.getElem?_eq_some_iff.1 hc
      rw [List.drop_eq_getElem_cons p, q]
    rw [hdr] at hfi
    simp +contextual (maxSteps := 10000000) only [go_sem, hix, hlt]
    refine lpK_inv (fun m f es => ∃ (p : Nat) (j : Int) (b : Bool), j = p ∧ m + p = l.length ∧ b = ((l.take p).map shV).all (fitS c) ∧ f = [(0, .ro false (l.map Val.d)), (4, .ptr 0 0 0), (5, B b), (12, .ro false (cs.map chD)), (13, I cs.length), (14, I i), (18, .ro false (l.map Val.d)), (19, I l.length), (20, I j)] ∧ es = [some ⟨0, [.sc (.int .u8 c), .fn (.func (fnOf c)) [] []]⟩]) l.length ⟨0, _, _, rfl, by omega, rfl, rfl, rfl⟩ ?_
    rintro q _ _ ⟨p, _, _, rfl, hp, rfl, rfl, rfl⟩ ih2
    cases q with
    | succ q =>
      obtain ⟨x, hx⟩ := get_lt (l := l) (i := p) (by omega)
      have hlt2 : decide ((p : Int) < l.length) = true := by simp; omega
      have hpx : (l.map Val.d)[p]? = some x.d := by rw [List.getElem?_map, hx]; rfl
      have hfx := hf x (List.mem_of_getElem? hx) c hcm
      have hnx : ((l.take (p + 1)).map shV).all (fitS c) = (((l.take p).map shV).all (fitS c) && fitS c (shV x)) := by
        rw [List.map_take, all_take (x := shV x) (by rw [List.getElem?_map, hx]; rfl), List.map_take]
      generalize ((l.take p).map shV).all (fitS c) = b at hnx ⊢
      cases b with
      | true =>
        simp +contextual (maxSteps := 10000000) only [go_sem, hpx, hlt2, hfx, wrap_i64 (n := (p : Int) + 1) (by omega) (by omega)]
        exact ih2 q _ _ (by omega) ⟨p + 1, (p : Int) + 1, _, by omega, by omega, by rw [hnx]; rfl, rfl, rfl⟩
      | false =>
        simp +contextual (maxSteps := 10000000) only [go_sem, hpx, hlt2, wrap_i64 (n := (p : Int) + 1) (by omega) (by omega)]
        exact ih2 q _ _ (by omega) ⟨p + 1, (p : Int) + 1, _, by omega, by omega, by rw [hnx]; rfl, rfl, rfl⟩
    | zero =>
      have hlt2 : decide ((p : Int) < l.length) = false := by simp; omega
      obtain rfl : p = l.length := by omega
      rw [List.take_length]
      cases hb : (l.map shV).all (fitS c) with
      | true =>
        simp only [List.find?_cons, hb] at hfi
        simp +contextual (maxSteps := 10000000) only [go_sem, hlt2]
        rw [hfi]; rfl
      | false =>
        simp only [List.find?_cons, hb] at hfi
        simp +contextual (maxSteps := 10000000) only [go_sem, hlt2, wrap_i64 (n := (i : Int) + 1) (by omega) (by omega)]
        exact ih m _ _ (by omega) ⟨i + 1, (i : Int) + 1, by omega, by omega, hfi, rfl, rfl⟩
end Go.Bw.R1

namespace Go.Bw.R1
set_option maxRecDepth 5000
open Go Go.Bw Go.Proofs
theorem and1_4 : andB .u8 4 1 = 0 := by decide
theorem and1_5 : andB .u8 5 1 = 1 := by decide
theorem and1_6 : andB .u8 6 1 = 0 := by decide
theorem and1_7 : andB .u8 7 1 = 1 := by decide
theorem and1_8 : andB .u8 8 1 = 0 := by decide
theorem and1_9 : andB .u8 9 1 = 1 := by decide
theorem and1_10 : andB .u8 10 1 = 0 := by decide
theorem and1_11 : andB .u8 11 1 = 1 := by decide
theorem and1_12 : andB .u8 12 1 = 0 := by decide
theorem and1_13 : andB .u8 13 1 = 1 := by decide
theorem and1_14 : andB .u8 14 1 = 0 := by decide
theorem and1_15 : andB .u8 15 1 = 1 := by decide
attribute [go_sem] and1_4 and1_5 and1_6 and1_7 and1_8 and1_9 and1_10 and1_11 and1_12 and1_13 and1_14 and1_15
section
variable (b : ByteArray) (c : Int) (v : Val)
theorem data_4 (hq : c.fdiv 16 = 4) : EV 80 [.ref 0 0 1 0 b.size, .sc (.int .u8 c), v.d] [some ⟨0, bytesD b⟩] = some (.ret (.ref 0 1 1 0 b.size), [some ⟨1, bytesD b⟩]) := by
  refine (ev_body ⟨[5], [(4000000, [])], [], false, [], noIt⟩ [.tmp 6] rfl Tryz.func80 rfl rfl rfl (by kernel_rfl) (by show 3 ≤ 78; decide) (by kernel_rfl)).trans ?_
  simp +contextual (maxSteps := 10000000) only [go_sem, hq]
theorem data_n (h0 : b.size ≠ 0) (q : Int) (w : Nat) (hqw : q = 5 ∧ w = 1 ∨ q = 6 ∧ w = 2 ∨ q = 7 ∧ w = 4 ∨ q = 8 ∧ w = 8) (hb : b.size ≤ 450000000) (hq : c.fdiv 16 = q) (ht : v.text = ⟨#[]⟩) : EV 80 [.ref 0 0 1 0 b.size, .sc (.int .u8 c), v.d] [some ⟨0, bytesD b⟩] = some (.ret (.ref 0 1 1 0 (b.size + w)), [some ⟨1, bytesD (b ++ be w v.num)⟩]) := by
  have hw : wOk w := by unfold wOk; omega
  have hl := lay_ref w hw b v.num h0 (by omega)
  refine (ev_body ⟨[5], [(4000000, [])], [], false, [], noIt⟩ [.tmp 6] rfl Tryz.func80 rfl rfl rfl (by kernel_rfl) (by show 3 ≤ 78; decide) (by kernel_rfl)).trans ?_
  rcases hqw with ⟨rfl, rfl⟩ | ⟨rfl, rfl⟩ | ⟨rfl, rfl⟩ | ⟨rfl, rfl⟩
  all_goals simp only [Int.cast_ofNat_Int] at hl
  all_goals simp +contextual (maxSteps := 10000000) only [go_sem, hq, ht, hl]
theorem data_t (q : Int) (hqw : q = 5 ∨ q = 6 ∨ q = 7 ∨ q = 8 ∨ q = 9) (hb : b.size + v.text.size ≤ 1000000000) (hq : c.fdiv 16 = q) (ht : ¬ v.text = ⟨#[]⟩) : EV 80 [.ref 0 0 1 0 b.size, .sc (.int .u8 c), v.d] [some ⟨0, bytesD b⟩] = some (.ret (.ref 0 1 1 0 (b.size + v.text.size)), [some ⟨1, bytesD (b ++ v.text)⟩]) := by
  have hz : (v.text.size = 0) = False := by
    simp only [eq_iff_iff, iff_false]; intro h
    exact ht (ByteArray.ext (Array.eq_empty_of_size_eq_zero h))
  refine (ev_body ⟨[5], [(4000000, [])], [], false, [], noIt⟩ [.tmp 6] rfl Tryz.func80 rfl rfl rfl (by kernel_rfl) (by show 3 ≤ 78; decide) (by kernel_rfl)).trans ?_
  rcases hqw with rfl | rfl | rfl | rfl | rfl
  all_goals simp +contextual (maxSteps := 10000000) only [go_sem, hq, ht, hz, sz_le hb, bytesD_one]
theorem data_p (h0 : b.size ≠ 0) (q : Int) (w : Nat) (hqw : q = 10 ∧ w = 1 ∧ v.text.size ≤ 255 ∨ q = 11 ∧ w = 4) (hb : b.size ≤ 490000000) (ht : v.text.size ≤ 490000000) (hq : c.fdiv 16 = q) : EV 80 [.ref 0 0 1 0 b.size, .sc (.int .u8 c), v.d] [some ⟨0, bytesD b⟩] = some (.ret (.ref 0 1 1 0 (b.size + w + v.text.size)), [some ⟨1, bytesD (b ++ be w v.text.size ++ v.text)⟩]) := by
  have hl := layp_ref w b v.text h0 hb ht (by omega)
  refine (ev_body ⟨[5], [(4000000, [])], [], false, [], noIt⟩ [.tmp 6] rfl Tryz.func80 rfl rfl rfl (by kernel_rfl) (by show 3 ≤ 78; decide) (by kernel_rfl)).trans ?_
  rcases hqw with ⟨rfl, rfl, hs⟩ | ⟨rfl, rfl⟩
  all_goals simp only [Int.cast_ofNat_Int] at hl
  all_goals simp +contextual (maxSteps := 10000000) only [go_sem, hq, hl]
theorem lenW {n : Nat} (h : n ≤ 40000000) : IntKind.u64.wrap (n : Int) = n := fit_u64 (by omega) (by omega)
theorem data_k (h0 : b.size ≠ 0) (q : Int) (w : Nat) (hqw : q = 12 ∧ w = 1 ∨ q = 13 ∧ w = 4 ∨ q = 14 ∧ w = 1 ∨ q = 15 ∧ w = 4) (s : ByteArray) (hin : InsC v s) (hb : b.size ≤ 450000000) (hs : s.size ≤ 450000000) (h1 : w = 1 → s.size < 255)
    (hk : v.kids.length ≤ 40000000) (hq : c.fdiv 16 = q) : EV 80 [.ref 0 0 1 0 b.size, .sc (.int .u8 c), v.d] [some ⟨0, bytesD b⟩] = some (.ret (.ref 0 1 1 0 (b.size + w + (w + s.size))), [some ⟨1, bytesD (b ++ be w (w + s.size : Nat) ++ (be w v.kids.length ++ s))⟩]) := by
  have hw : wOk w := by unfold wOk; omega
  have hn := lay_nils w hw v.kids.length
  have hsz : (be w v.kids.length ++ s).size = w + s.size := by rw [ByteArray.size_append, be_size hw]
  have hl := layp_ref w b (be w v.kids.length ++ s) h0 (by omega) (by omega) (by omega)
  have hlw := lenW hk
  have hbs := be_size hw v.kids.length
  have hq2 : w + s.size ≤ 1000000000 := by omega
  rw [hsz] at hl
  refine (ev_body ⟨[5], [(4000000, [])], [], false, [], noIt⟩ [.tmp 6] rfl Tryz.func80 rfl rfl rfl (by kernel_rfl) (by show 3 ≤ 78; decide) (by kernel_rfl)).trans ?_
  rcases hin with hin | hin
  case inr =>
    by_cases hz : s.size = 0
    · have hs0 : be w v.kids.length ++ s = be w v.kids.length := bytes_nil hz _
      rw [hs0, hz] at hl ⊢
      rcases hqw with ⟨rfl, rfl⟩ | ⟨rfl, rfl⟩ | ⟨rfl, rfl⟩ | ⟨rfl, rfl⟩
      all_goals simp only [Int.cast_ofNat_Int, Nat.add_zero] at hl hn ⊢
      all_goals simp +contextual (maxSteps := 10000000) only [go_sem, hq, hn, hin, hl, hlw, hz]
    · have hz' : (s.size = 0) = False := by simpa using hz
      rcases hqw with ⟨rfl, rfl⟩ | ⟨rfl, rfl⟩ | ⟨rfl, rfl⟩ | ⟨rfl, rfl⟩
      all_goals simp only [Int.cast_ofNat_Int] at hl hn ⊢
      all_goals simp +contextual (maxSteps := 10000000) only [go_sem, hq, hn, hin, hl, hlw, hz', sz_le hq2, hbs, bytesD_one]
  unfold insR at hin
  by_cases hz : s.size = 0
  · rw [if_pos hz] at hin
    have hs0 : be w v.kids.length ++ s = be w v.kids.length := bytes_nil hz _
    rw [hs0, hz] at hl ⊢
    rcases hqw with ⟨rfl, rfl⟩ | ⟨rfl, rfl⟩ | ⟨rfl, rfl⟩ | ⟨rfl, rfl⟩
    all_goals simp only [Int.cast_ofNat_Int, Nat.add_zero] at hl hn ⊢
    all_goals simp +contextual (maxSteps := 10000000) only [go_sem, hq, hn, hin, hl, hlw]
  · rw [if_neg hz] at hin
    have hz' : (s.size = 0) = False := by simpa using hz
    rcases hqw with ⟨rfl, rfl⟩ | ⟨rfl, rfl⟩ | ⟨rfl, rfl⟩ | ⟨rfl, rfl⟩
    all_goals simp only [Int.cast_ofNat_Int] at hl hn ⊢
    all_goals simp +contextual (maxSteps := 10000000) only [go_sem, hq, hn, hin, hl, hlw, hz', sz_le hq2, hbs]
end
end Go.Bw.R1

namespace Go.Bw.R1
set_option maxRecDepth 5000
open Go Go.Bw Go.Proofs
def kindL : List Int := [1, 2, 3, 4, 5, 6, 7, 8, 9, 10, 11, 12, 13, 14, 15, 16, 17, 18, 19, 20, 21, 22, 23, 24]
def qOk (k c : Int) : Bool :=
  decide (0 ≤ c) && decide (c ≤ 255) && (c.fdiv 16 == 4 || c.fdiv 16 == 5 || c.fdiv 16 == 6 || c.fdiv 16 == 7 || c.fdiv 16 == 8 || (c.fdiv 16 == 9 && (k == 15 || k == 18)) || (c.fdiv 16 == 10 && (c == 160 || c == 161 || c == 163)) || c.fdiv 16 == 11
    || (c.fdiv 16 == 12 && (c == 192 || c == 193)) || c.fdiv 16 == 13 || (c.fdiv 16 == 14 && c == 224) || c.fdiv 16 == 15)
def noFit (c : Int) : Bool := !(c == 65 || c == 66 || c == 67 || c == 68 || c == 69 || c == 82 || c == 83 || c == 84 || c == 85 || c == 160 || c == 161 || c == 163 || c == 192 || c == 193 || c == 224)
theorem codes_q : ∀ k ∈ kindL, ∀ c ∈ codesOf k, qOk k c = true := by decide
theorem codes_last : ∀ k ∈ kindL, (codesOf k).any noFit = true := by decide
theorem fit_any {c : Int} (h : noFit c = true) (s : Sh) : fitS c s = true := by
  unfold noFit at h
  simp only [Bool.not_eq_true', Bool.or_eq_false_iff, beq_eq_false_iff_ne, ne_eq] at h
  obtain ⟨⟨⟨⟨⟨⟨⟨⟨⟨⟨⟨⟨⟨⟨a1, a2⟩, a3⟩, a4⟩, a5⟩, a6⟩, a7⟩, a8⟩, a9⟩, a10⟩, a11⟩, a12⟩, a13⟩, a14⟩, a15⟩ := h
  unfold fitS
  rw [if_neg a1, if_neg (by omega), if_neg a5, if_neg (by omega), if_neg (by omega), if_neg (by omega), if_neg (by omega)]
theorem kind_in {v : Val} (hm : mayS v = true) (hk : v.kind ≠ 25) : v.kind ∈ kindL := by
  rw [mayS_eq] at hm
  simp only [Bool.and_eq_true, decide_eq_true_eq] at hm
  obtain ⟨⟨⟨h1, h2⟩, _⟩, _⟩ := hm
  have : v.kind = 1 ∨ v.kind = 2 ∨ v.kind = 3 ∨ v.kind = 4 ∨ v.kind = 5 ∨ v.kind = 6 ∨ v.kind = 7 ∨ v.kind = 8 ∨ v.kind = 9 ∨ v.kind = 10 ∨ v.kind = 11 ∨ v.kind = 12 ∨ v.kind = 13 ∨ v.kind = 14 ∨ v.kind = 15 ∨ v.kind = 16 ∨ v.kind = 17 ∨ v.kind = 18 ∨ v.kind = 19 ∨ v.kind = 20 ∨ v.kind = 21 ∨ v.kind = 22 ∨ v.kind = 23 ∨ v.kind = 24 := by omega
  simp only [kindL, List.mem_cons, List.not_mem_nil, or_false]
  exact this
theorem codeOf_ok {ls : List Sh} {k : Int} (hk : (ls.headD default).kind = k) (hin : k ∈ kindL) : codeOf ls ∈ codesOf k ∧ ls.all (fitS (codeOf ls)) = true := by
  unfold codeOf
  rw [hk]
  have h1 := codes_last k hin
  rw [List.any_eq_true] at h1
  obtain ⟨c, hc, hn⟩ := h1
  cases hf : (codesOf k).find? fun c => ls.all (fitS c) with
  | none =>
    rw [List.find?_eq_none] at hf
    exact absurd (List.all_eq_true.2 fun s _ => fit_any hn s) (hf c hc)
  | some x => exact ⟨List.mem_of_find?_eq_some hf, by have := List.find?_some hf; exact this⟩
theorem text_16 {v : Val} (hm : mayS v = true) (hk : v.kind = 15 ∨ v.kind = 18) : ¬ v.text = ⟨#[]⟩ := by
  rw [mayS_eq] at hm
  simp only [Bool.and_eq_true] at hm
  obtain ⟨_, ⟨_, h⟩, _⟩ := hm
  intro ht
  rw [ht] at h
  rcases hk with hk | hk <;> (rw [hk] at h; revert h; decide)
theorem dq {c q : Int} (h : c.fdiv 16 = q) (s : Sh) : dataS c s = if q = 4 then e0 else if q = 5 ∨ q = 6 ∨ q = 7 ∨ q = 8 then (if s.text = e0 then be (widQ q) s.num else s.text)
  else if q = 9 then s.text else if q = 10 then be 1 s.text.size ++ s.text else if q = 11 then be 4 s.text.size ++ s.text
  else if q = 12 ∨ q = 14 then be 1 (1 + s.ins.size : Nat) ++ (be 1 s.cnt ++ s.ins) else be 4 (4 + s.ins.size : Nat) ++ (be 4 s.cnt ++ s.ins) := by unfold dataS; rw [h]
/-- the bytes of a value told by a code, behind bytes -/
theorem data_c (b : ByteArray) (v : Val) (c : Int) (h0 : b.size ≠ 0) (hb : b.size ≤ 450000000) (hv : v.sz ≤ 40000000) (hm : mayS v = true) (hk : v.kind ≠ 25) (hc : c ∈ codesOf v.kind) (hf : fitS c (shV v) = true) (hin : InsC v (insS v)) :
    EV 80 [.ref 0 0 1 0 b.size, .sc (.int .u8 c), v.d] [some ⟨0, bytesD b⟩] = some (.ret (.ref 0 1 1 0 (b.size + (dataS c (shV v)).size)), [some ⟨1, bytesD (b ++ dataS c (shV v))⟩]) := by
  have hq := codes_q _ (kind_in hm hk) c hc
  have hl := szL_len v.kids
  have hz := Val.sz_eq v
  have hi := ins_sz v
  rw [sh_ne hk] at hi hf ⊢
  simp only at hi hf
  unfold qOk at hq
  simp only [Bool.and_eq_true, Bool.or_eq_true, decide_eq_true_eq, beq_iff_eq] at hq
  obtain ⟨_, hq⟩ := hq
  have hkk : v.kids.length ≤ 40000000 := by omega
  have hn : ∀ (q : Int) (w : Nat), (q = 5 ∧ w = 1 ∨ q = 6 ∧ w = 2 ∨ q = 7 ∧ w = 4 ∨ q = 8 ∧ w = 8) → c.fdiv 16 = q → EV 80 [.ref 0 0 1 0 b.size, .sc (.int .u8 c), v.d] [some ⟨0, bytesD b⟩] = some (.ret (.ref 0 1 1 0 (b.size + (dataS c ⟨v.kind, v.num, v.text, v.kids.length, insS v⟩).size)), [some ⟨1, bytesD (b ++ dataS c ⟨v.kind, v.num, v.text, v.kids.length, insS v⟩)⟩]) := by
    intro q w hqw h
    have hwd : widQ q = w := by rcases hqw with ⟨rfl, rfl⟩ | ⟨rfl, rfl⟩ | ⟨rfl, rfl⟩ | ⟨rfl, rfl⟩ <;> rfl
    have hw : wOk w := by unfold wOk; omega
    rw [dq h, if_neg (by omega), if_pos (by omega), hwd]
    dsimp only
    by_cases ht : v.text = e0
    · rw [if_pos ht, be_size hw]; exact data_n b c v h0 q w hqw (by omega) h ht
    · rw [if_neg ht]; exact data_t b c v q (by omega) (by omega) h ht
  rcases hq with ((((((((((h | h) | h) | h) | h) | ⟨h, h2⟩) | ⟨h, h2⟩) | h) | ⟨h, h2⟩) | h) | ⟨h, h2⟩) | h
  · rw [dq h, if_pos rfl, app_e0, e0_size, Nat.add_zero]; exact data_4 b c v h
  · exact hn 5 1 (by omega) h
  · exact hn 6 2 (by omega) h
  · exact hn 7 4 (by omega) h
  · exact hn 8 8 (by omega) h
  · rw [dq h, if_neg (by omega), if_neg (by omega), if_pos rfl]; exact data_t b c v 9 (by omega) (by omega) h (text_16 hm h2)
  · have hs : v.text.size ≤ 255 := by
      unfold fitS at hf
      rw [if_neg (by omega), if_neg (by omega), if_neg (by omega), if_neg (by omega), if_neg (by omega), if_pos (by omega)] at hf
      simpa using hf
    have := data_p b c v h0 10 1 (by omega) (by omega) (by omega) h
    rw [dq h, if_neg (by omega), if_neg (by omega), if_neg (by omega), if_pos rfl, ByteArray.size_append, be_size (w := 1) (by simp [wOk]), ← ByteArray.append_assoc, ← Nat.add_assoc]; exact this
  · have := data_p b c v h0 11 4 (by omega) (by omega) (by omega) h
    rw [dq h, if_neg (by omega), if_neg (by omega), if_neg (by omega), if_neg (by omega), if_pos rfl, ByteArray.size_append, be_size (w := 4) (by simp [wOk]), ← ByteArray.append_assoc, ← Nat.add_assoc]; exact this
  · have hs : (insS v).size < 255 := by
      unfold fitS at hf
      rw [if_neg (by omega), if_neg (by omega), if_neg (by omega), if_neg (by omega), if_neg (by omega), if_neg (by omega), if_pos (by omega)] at hf
      simp only [Bool.and_eq_true, decide_eq_true_eq] at hf; exact hf.2
    have := data_k b c v h0 12 1 (by omega) _ hin (by omega) (by omega) (fun _ => hs) hkk h
    rw [dq h, if_neg (by omega), if_neg (by omega), if_neg (by omega), if_neg (by omega), if_neg (by omega), if_pos (by omega), ByteArray.size_append, ByteArray.size_append, be_size (w := 1) (by simp [wOk]), be_size (w := 1) (by simp [wOk]), ← ByteArray.append_assoc, ← Nat.add_assoc]; exact this
  · have := data_k b c v h0 13 4 (by omega) _ hin (by omega) (by omega) (by omega) hkk h
    rw [dq h, if_neg (by omega), if_neg (by omega), if_neg (by omega), if_neg (by omega), if_neg (by omega), if_neg (by omega), ByteArray.size_append, ByteArray.size_append, be_size (w := 4) (by simp [wOk]), be_size (w := 4) (by simp [wOk]), ← ByteArray.append_assoc, ← Nat.add_assoc]; exact this
  · have hs : (insS v).size < 255 := by
      unfold fitS at hf
      rw [if_neg (by omega), if_neg (by omega), if_neg (by omega), if_neg (by omega), if_neg (by omega), if_neg (by omega), if_pos (by omega)] at hf
      simp only [Bool.and_eq_true, decide_eq_true_eq] at hf; exact hf.2
    have := data_k b c v h0 14 1 (by omega) _ hin (by omega) (by omega) (fun _ => hs) hkk h
    rw [dq h, if_neg (by omega), if_neg (by omega), if_neg (by omega), if_neg (by omega), if_neg (by omega), if_pos (by omega), ByteArray.size_append, ByteArray.size_append, be_size (w := 1) (by simp [wOk]), be_size (w := 1) (by simp [wOk]), ← ByteArray.append_assoc, ← Nat.add_assoc]; exact this
  · have := data_k b c v h0 15 4 (by omega) _ hin (by omega) (by omega) (by omega) hkk h
    rw [dq h, if_neg (by omega), if_neg (by omega), if_neg (by omega), if_neg (by omega), if_neg (by omega), if_neg (by omega), ByteArray.size_append, ByteArray.size_append, be_size (w := 4) (by simp [wOk]), be_size (w := 4) (by simp [wOk]), ← ByteArray.append_assoc, ← Nat.add_assoc]; exact this
end Go.Bw.R1

namespace Go.Bw.R1
set_option maxRecDepth 5000
open Go Go.Bw Go.Proofs
def PutOk (n : Nat) : Prop := ∀ v : Val, v.sz ≤ n → mayS v = true →
  (EV 50 [.nils, v.d] [] = some (.ret (.ref 0 0 1 0 (wrV v).size), [some ⟨0, bytesD (wrV v)⟩])) ∧
  ∀ b : ByteArray, b.size ≠ 0 → b.size + 10 * v.sz ≤ 450000000 → EV 50 [.ref 0 0 1 0 b.size, v.d] [some ⟨0, bytesD b⟩] = some (.ret (.ref 0 1 1 0 (b.size + (wrV v).size)), [some ⟨1, bytesD (b ++ wrV v)⟩])
def InsOk (n : Nat) : Prop := ∀ v : Val, v.sz ≤ n → mayS v = true → v.kind ≠ 25 → InsC v (insS v)
theorem code_range {k c : Int} (hk : k ∈ kindL) (hc : c ∈ codesOf k) : 0 ≤ c ∧ c ≤ 255 := by
  have := codes_q k hk c hc
  unfold qOk at this
  simp only [Bool.and_eq_true, decide_eq_true_eq] at this
  exact this.1
theorem desc_sz {v a x : Val} (h : v.kids = [a, x]) : a.sz + x.sz + 1 ≤ v.sz := by
  rw [Val.sz_eq v, h]; simp only [Val.szL]; omega
set_option maxHeartbeats 40000000 in
theorem cons_ref {n : Nat} (hp : PutOk n) (l : List Val) (v : Val) (hv : l[0]? = some v) (hA : Al l) (hl : l.length ≤ 40000000) (hn : v.sz ≤ n + 1) (C : Int) (hC0 : 0 ≤ C) (hC1 : C ≤ 255)
    (hcode : EV 82 [.ro false ((l.map bareV).map Val.d)] [] = some (.ret (.sc (.int .u8 C)), [])) (b : ByteArray) (h0 : b.size ≠ 0) (hb : b.size + 10 * v.sz ≤ 450000000) :
    EV 81 [.ref 0 0 1 0 b.size, .ro false (l.map Val.d)] [some ⟨0, bytesD b⟩] = some (.ret (.ref 0 1 1 0 (b.size + (hdV v).size + 1)), [some ⟨1, bytesD (b ++ hdV v ++ b1 C)⟩]) := by
  have hstrip := strip_c l hl hA
  have hmv : mayS v = true := by
    obtain ⟨w, hw, h⟩ := hA
    exact (h v (List.mem_of_getElem? hv)).1
  have hlv : (l.map Val.d)[0]? = some v.d := by rw [List.getElem?_map, hv]; rfl
  refine (ev_body ⟨[], [(0, [0, 1, 5]), (4000000, [])], [(4, [(0, 0, false), (1, 0, false), (2, 0, true), (3, 0, false), (4, 0, false), (5, 0, false), (6, 0, false), (7, 0, true), (8, 2, false)])], false, [], noIt⟩ [.tmp 4] rfl Tryz.func81 rfl rfl rfl (by kernel_rfl) (by show 2 ≤ 31; decide) (by kernel_rfl)).trans ?_
  simp +contextual (maxSteps := 10000000) only [go_sem, hlv]
  refine lpK_inv (fun m f es => ∃ (x : Val) (acc : ByteArray) (u : Nat), m = x.sz ∧ x.sz ≤ n + 1 ∧ mayS x = true ∧ acc.size ≠ 0 ∧ acc ++ hdV x = b ++ hdV v ∧ acc.size + 10 * x.sz ≤ 450000000 ∧ f = [(0, .ref 0 u 1 0 acc.size), (1, .ro false (l.map Val.d)), (5, .ptr 1 0 0)] ∧ es = [some ⟨u, bytesD acc⟩, some ⟨0, x.cs⟩]) v.sz ⟨v, b, 0, rfl, hn, hmv, h0, rfl, hb, rfl, rfl⟩ ?_
  rintro _ _ _ ⟨x, acc, u, rfl, hxn, hmx, ha0, hac, hab, rfl, rfl⟩ ih
  by_cases hk : x.kind = 25
  · obtain ⟨a, y, h1, h2, h3⟩ := may_desc hmx hk
    have hds := desc_sz h1
    have hws := wr_sz a
    have hput := (hp a (by omega) h2).2 (acc ++ b1 0) (by rw [ByteArray.size_append, b1_size]; omega) (by rw [ByteArray.size_append, b1_size]; omega)
    simp only [ByteArray.size_append, b1_size] at hput
    have hle : acc.size + 1 ≤ 1000000000 := by omega
    have hle2 : acc.size ≤ 1000000000 := by omega
    simp +contextual (maxSteps := 10000000) only [go_sem, hk, h1, List.map_cons, List.map_nil, one_b1, sz_le hle, sz_le hle2, hput]
    refine ih y.sz _ _ (by omega) ?_
    refine ⟨y, acc ++ b1 0 ++ wrV a, u + 1 + 1, rfl, by omega, h3, ?_, ?_, ?_, ?_, rfl⟩
    · simp only [ByteArray.size_append, b1_size]; omega
    · rw [← hac, (enc_desc hk h1).2]; simp only [ByteArray.append_assoc]
    · simp only [ByteArray.size_append, b1_size]; omega
    · simp only [ByteArray.size_append, b1_size]
  · have hkf : (x.kind == 25) = false := by simpa using hk
    have hd := hd_ne hk
    rw [hd, app_e0] at hac
    subst hac
    have hsz : (b ++ hdV v).size + 1 ≤ 1000000000 := by omega
    have hsz2 : (b ++ hdV v).size ≤ 1000000000 := by omega
    rw [ByteArray.size_append] at hsz hsz2
    simp +contextual (maxSteps := 10000000) only [go_sem, hkf, hstrip, hcode, one_b1 hC0 hC1, sz_le hsz, sz_le hsz2]
set_option maxHeartbeats 40000000 in
theorem cons_nils {n : Nat} (hp : PutOk n) (l : List Val) (v : Val) (hv : l[0]? = some v) (hA : Al l) (hl : l.length ≤ 40000000) (hn : v.sz ≤ n + 1) (C : Int) (hC0 : 0 ≤ C) (hC1 : C ≤ 255)
    (hcode : EV 82 [.ro false ((l.map bareV).map Val.d)] [] = some (.ret (.sc (.int .u8 C)), [])) (hb : 10 * v.sz ≤ 450000000) :
    EV 81 [.nils, .ro false (l.map Val.d)] [] = some (.ret (.ref 0 0 1 0 ((hdV v).size + 1)), [some ⟨0, bytesD (hdV v ++ b1 C)⟩]) := by
  have hstrip := strip_c l hl hA
  have hmv : mayS v = true := by
    obtain ⟨w, hw, h⟩ := hA
    exact (h v (List.mem_of_getElem? hv)).1
  have hlv : (l.map Val.d)[0]? = some v.d := by rw [List.getElem?_map, hv]; rfl
  refine (ev_body ⟨[], [(0, [0, 1, 5]), (4000000, [])], [(4, [(0, 0, false), (1, 0, false), (2, 0, true), (3, 0, false), (4, 0, false), (5, 0, false), (6, 0, false), (7, 0, true), (8, 2, false)])], false, [], noIt⟩ [.tmp 4] rfl Tryz.func81 rfl rfl rfl (by kernel_rfl) (by show 2 ≤ 31; decide) (by kernel_rfl)).trans ?_
  simp +contextual (maxSteps := 10000000) only [go_sem, hlv]
  rw [lpK_go]
  by_cases hkv : v.kind = 25
  case neg =>
    have hkf : (v.kind == 25) = false := by simpa using hkv
    have hd := hd_ne hkv
    rw [hd, e0_app, e0_size, Nat.zero_add]
    simp +contextual (maxSteps := 10000000) only [go_sem, hkf, hstrip, hcode, one_b1 hC0 hC1]
  obtain ⟨a, y, h1, h2, h3⟩ := may_desc hmv hkv
  have hds := desc_sz h1
  have hws := wr_sz a
  have hput := (hp a (by omega) h2).2 (b1 0) (by rw [b1_size]; omega) (by rw [b1_size]; omega)
  rw [b1_size] at hput
  simp +contextual (maxSteps := 10000000) only [go_sem, hkv, h1, List.map_cons, List.map_nil, one_b1, hput]
  refine lpK_inv (fun m f es => ∃ (x : Val) (acc : ByteArray), m = x.sz ∧ x.sz ≤ n + 1 ∧ mayS x = true ∧ acc.size ≠ 0 ∧ acc ++ hdV x = hdV v ∧ acc.size + 10 * x.sz ≤ 450000000 ∧ f = [(0, .ref 0 0 1 0 acc.size), (1, .ro false (l.map Val.d)), (5, .ptr 1 0 0)] ∧ es = [some ⟨0, bytesD acc⟩, some ⟨0, x.cs⟩]) y.sz ?_ ?_
  · refine ⟨y, b1 0 ++ wrV a, rfl, by omega, h3, ?_, ?_, ?_, ?_, rfl⟩
    · rw [ByteArray.size_append, b1_size]; omega
    · rw [(enc_desc hkv h1).2]
    · rw [ByteArray.size_append, b1_size]; omega
    · rw [ByteArray.size_append, b1_size]
  clear hput hws hds h1 h2 h3 y a
  rintro _ _ _ ⟨x, acc, rfl, hxn, hmx, ha0, hac, hab, rfl, rfl⟩ ih
  by_cases hk : x.kind = 25
  · obtain ⟨a, y, h1, h2, h3⟩ := may_desc hmx hk
    have hds := desc_sz h1
    have hws := wr_sz a
    have hput := (hp a (by omega) h2).2 (acc ++ b1 0) (by rw [ByteArray.size_append, b1_size]; omega) (by rw [ByteArray.size_append, b1_size]; omega)
    simp only [ByteArray.size_append, b1_size] at hput
    have hle : acc.size + 1 ≤ 1000000000 := by omega
    have hle2 : acc.size ≤ 1000000000 := by omega
    simp +contextual (maxSteps := 10000000) only [go_sem, hk, h1, List.map_cons, List.map_nil, one_b1, sz_le hle, sz_le hle2, hput]
    refine ih y.sz _ _ (by omega) ?_
    refine ⟨y, acc ++ b1 0 ++ wrV a, rfl, by omega, h3, ?_, ?_, ?_, ?_, rfl⟩
    · simp only [ByteArray.size_append, b1_size]; omega
    · rw [← hac, (enc_desc hk h1).2]; simp only [ByteArray.append_assoc]
    · simp only [ByteArray.size_append, b1_size]; omega
    · simp only [ByteArray.size_append, b1_size]
  · have hkf : (x.kind == 25) = false := by simpa using hk
    have hd := hd_ne hk
    rw [hd, app_e0] at hac
    subst hac
    have hsz : (hdV v).size + 1 ≤ 1000000000 := by omega
    have hsz2 : (hdV v).size ≤ 1000000000 := by omega
    simp +contextual (maxSteps := 10000000) only [go_sem, hkf, hstrip, hcode, one_b1 hC0 hC1, sz_le hsz, sz_le hsz2]
/-- what code answers, of values that are called alike -/
theorem code_al {n : Nat} (hi : InsOk n) (l : List Val) (v : Val) (hv : l[0]? = some v) (hA : Al l) (hl : l.length ≤ 40000000) (hs : ∀ x ∈ l, x.sz ≤ n ∧ x.sz ≤ 40000000) :
    EV 82 [.ro false ((l.map bareV).map Val.d)] [] = some (.ret (.sc (.int .u8 (codeOf (l.map shV)))), []) := by
  have hm : ∀ x ∈ l, mayS x = true := by obtain ⟨w, hw, h⟩ := hA; exact fun x hx => (h x hx).1
  have hsh : (l.map bareV).map shV = l.map shV := by
    rw [List.map_map]
    exact List.map_congr_left fun x hx => (sh_bare _ x (Nat.le_refl _) (hm x hx)).1
  have hvm := List.mem_of_getElem? hv
  obtain ⟨q1, q2, q3, q4⟩ := sh_bare _ v (Nat.le_refl _) (hm v hvm)
  rw [← hsh]
  refine code_c (l.map bareV) (bareV v) (by rw [List.getElem?_map, hv]; rfl) (by simpa using hl) (fun x hx c hc => ?_) q2
  obtain ⟨y, hy, rfl⟩ := List.mem_map.1 hx
  obtain ⟨p1, p2, p3, p4⟩ := sh_bare _ y (Nat.le_refl _) (hm y hy)
  have := hs y hy
  exact fit_c (bareV y) (by omega) p2 c fun _ => hi (bareV y) (by omega) p3 p2
theorem codeOf_of {l : List Val} {v : Val} (hv : l[0]? = some v) (hm : mayS v = true) : codeOf (l.map shV) ∈ codesOf (bareV v).kind ∧ (∀ x ∈ l, fitS (codeOf (l.map shV)) (shV x) = true) ∧ (bareV v).kind ∈ kindL := by
  obtain ⟨q1, q2, q3, q4⟩ := sh_bare _ v (Nat.le_refl _) hm
  have hk := kind_in q3 q2
  have hh : (List.headD (l.map shV) default).kind = (bareV v).kind := by
    cases l with
    | nil => simp at hv
    | cons a r => simp at hv; subst hv; show (shV a).kind = _; rw [← q1, sh_ne q2]
  obtain ⟨c1, c2⟩ := codeOf_ok hh hk
  refine ⟨c1, fun x hx => ?_, hk⟩
  rw [List.all_eq_true] at c2
  exact c2 _ (List.mem_map.2 ⟨x, hx, rfl⟩)
theorem alike_bare : ∀ (n : Nat) (a b : Val), alikeF n a b = true → mayS a = true → mayS b = true → (bareV b).kind = (bareV a).kind
  | 0, a, b, h, _, _ => by simp [alikeF] at h
  | n + 1, a, b, h, ha, hb => by
    unfold alikeF at h
    by_cases hk : a.kind = 25
    · by_cases hk2 : b.kind = 25
      · obtain ⟨a1, a2, a3, a4, a5⟩ := may_desc ha hk
        obtain ⟨b1, b2, b3, b4, b5⟩ := may_desc hb hk2
        rw [hk, hk2, a3, b3] at h
        simp only [bne_self_eq_false, Bool.or_self, Bool.false_eq_true, if_false, Bool.and_eq_true] at h
        rw [bare_desc hk a3, bare_desc hk2 b3]
        exact alike_bare n a2 b2 h.2 a5 b5
      · have : (b.kind != 25) = true := by simpa using hk2
        simp only [this, Bool.or_true, if_true, beq_iff_eq] at h
        exact absurd (h.symm.trans hk) hk2
    · have : (a.kind != 25) = true := by simpa using hk
      simp only [this, Bool.true_or, if_true, beq_iff_eq] at h
      rw [bare_ne hk, bare_ne (by rw [← h]; exact hk), h]
theorem al_kind {l : List Val} (hA : Al l) {v : Val} (hv : l[0]? = some v) : ∀ y ∈ l, (bareV y).kind = (bareV v).kind := by
  obtain ⟨w, hw, h⟩ := hA
  have : w = v := by
    rw [Option.mem_def, List.head?_eq_getElem?, hv] at hw
    exact (Option.some.inj hw).symm
  subst this
  intro y hy
  obtain ⟨h1, n, h2⟩ := h y hy
  exact alike_bare n w y h2 (h w (List.mem_of_getElem? hv)).1 h1
theorem al_one {v : Val} (hm : mayS v = true) : Al [v] := ⟨v, rfl, fun x hx => by
  obtain rfl : x = v := by simpa using hx
  exact ⟨hm, _, alikeF_refl _ x (Nat.le_refl _) hm⟩⟩
set_option maxHeartbeats 40000000 in
theorem put_step {n : Nat} (hi : InsOk (n + 1)) (hp : PutOk n) (hn : n + 1 ≤ 40000000) : PutOk (n + 1) := by
  intro v hv hm
  have hA := al_one hm
  have hstrip := strip_c [v] (by simp) hA
  have hcode := code_al hi [v] v rfl hA (by simp) (fun x hx => by obtain rfl : x = v := by simpa using hx
                                                                  omega)
  obtain ⟨c1, c2, c3⟩ := codeOf_of (l := [v]) (v := v) rfl hm
  have c4 := c2 v (List.mem_singleton.2 rfl)
  obtain ⟨q1, q2, q3, q4⟩ := sh_bare _ v (Nat.le_refl _) hm
  have hr := code_range c3 c1
  have hws := wr_sz v
  have hins := hi (bareV v) (by omega) q3 q2
  have hmx : (hdV v).size + 1 ≤ 10 * v.sz := by have := ins_sz v; omega
  have hW : ∀ b : ByteArray, b ++ hdV v ++ b1 (codeOf [shV v]) ++ dataS (codeOf [shV v]) (shV v) = b ++ wrV v := fun b => by unfold wrV Wd; simp only [ByteArray.append_assoc]
  have hWs : ∀ k, k + (hdV v).size + 1 + (dataS (codeOf [shV v]) (shV v)).size = k + (wrV v).size := fun k => by unfold wrV Wd; simp only [ByteArray.size_append, b1_size]; omega
  simp only [List.map_cons, List.map_nil] at hstrip hcode c1 c2 c4 hr
  refine ⟨?_, fun b h0 hb => ?_⟩
  · have hcons := cons_nils hp [v] v rfl hA (by simp) hv (codeOf [shV v]) hr.1 hr.2 (by simpa using hcode) (by omega)
    have hdata := data_c (hdV v ++ b1 (codeOf [shV v])) (bareV v) (codeOf [shV v]) (by rw [ByteArray.size_append, b1_size]; omega) (by rw [ByteArray.size_append, b1_size]; omega) (by omega) q3 q2 c1 (by rw [q1]; exact c4) hins
    rw [q1] at hdata
    simp only [ByteArray.size_append, b1_size] at hdata
    simp only [List.map_cons, List.map_nil] at hcons
    have e1 := hW e0
    have e2 := hWs 0
    rw [e0_app, e0_app] at e1
    rw [Nat.zero_add, Nat.zero_add] at e2
    rw [e1, e2] at hdata
    refine (ev_body ⟨[3], [(4000000, [])], [(3, [(0, 0, false), (1, 0, false), (2, 0, true), (3, 0, false), (4, 1, false), (5, 0, false), (6, 0, false), (7, 0, false), (8, 0, true), (9, 2, false)])], false, [], noIt⟩ [.tmp 4] rfl Tryz.func50 rfl rfl rfl (by kernel_rfl) (by show 2 ≤ 20; decide) (by kernel_rfl)).trans ?_
    simp +contextual (maxSteps := 10000000) only [go_sem, hstrip, hcons, hcode, hdata]
  · have hcons := cons_ref hp [v] v rfl hA (by simp) hv (codeOf [shV v]) hr.1 hr.2 (by simpa using hcode) b h0 hb
    have hdata := data_c (b ++ hdV v ++ b1 (codeOf [shV v])) (bareV v) (codeOf [shV v]) (by simp only [ByteArray.size_append, b1_size]; omega) (by simp only [ByteArray.size_append, b1_size]; omega) (by omega) q3 q2 c1 (by rw [q1]; exact c4) hins
    rw [q1] at hdata
    simp only [ByteArray.size_append, b1_size] at hdata
    simp only [List.map_cons, List.map_nil] at hcons
    rw [hW b, hWs] at hdata
    refine (ev_body ⟨[3], [(4000000, [])], [(3, [(0, 0, false), (1, 0, false), (2, 0, true), (3, 0, false), (4, 1, false), (5, 0, false), (6, 0, false), (7, 0, false), (8, 0, true), (9, 2, false)])], false, [], noIt⟩ [.tmp 4] rfl Tryz.func50 rfl rfl rfl (by kernel_rfl) (by show 2 ≤ 20; decide) (by kernel_rfl)).trans ?_
    simp +contextual (maxSteps := 10000000) only [go_sem, hstrip, hcons, hcode, hdata]
end Go.Bw.R1

namespace Go.Bw.R1
set_option maxRecDepth 5000
open Go Go.Bw Go.Proofs
theorem catW_one (x : Val) : catW [encV x] = wrV x := by simp only [catW]; rw [app_e0]; rfl
theorem catD_one (c : Int) (s : Sh) : catD c [s] = dataS c s := by simp only [catD]; rw [app_e0]
theorem al_fam {v : Val} (hm : mayS v = true) (hk : v.kind = 24) {x : Val} (hx : v.kids[0]? = some x) : Al v.kids := by
  rw [mayS_eq] at hm
  simp only [Bool.and_eq_true] at hm
  obtain ⟨⟨_, h1⟩, _, h2⟩ := hm
  rw [mayL_all, List.all_eq_true] at h1
  rw [hk] at h2
  have h2 : (v.kids.all fun x => match v.kids with | [] => true | y :: _ => alike y x) = true := h2
  rw [List.all_eq_true] at h2
  cases hl : v.kids with
  | nil => rw [hl] at hx; simp at hx
  | cons y r =>
    refine ⟨y, rfl, fun z hz => ⟨h1 z (by rw [hl]; exact hz), y.sz, ?_⟩⟩
    have := h2 z (by rw [hl]; exact hz)
    rw [hl] at this
    exact this
set_option maxHeartbeats 40000000 in
theorem ins_step {n : Nat} (hi : InsOk n) (hp : PutOk n) (hn : n + 1 ≤ 40000000) : InsOk (n + 1) := by
  intro v hv hm hk25
  have hl := szL_len v.kids
  have hz := Val.sz_eq v
  have hms : ∀ x ∈ v.kids, mayS x = true := by
    rw [mayS_eq] at hm
    simp only [Bool.and_eq_true] at hm
    have := hm.1.2
    rw [mayL_all, List.all_eq_true] at this
    exact this
  have hbnd : ∀ i, (catW ((v.kids.take i).map encV)).size ≤ 10 * Val.szL (v.kids.take i) := fun i => by
    have h1 := catW_size ((v.kids.take i).map encV)
    have h2 := mx_szL (v.kids.take i)
    rw [encL_map] at h2; omega
  by_cases hk : v.kind = 24
  case neg =>
    have hkt : (v.kind != 24) = true := by simpa using hk
    refine .inl ?_
    refine (ev_body ⟨[1], [(1, [2, 14, 15, 16]), (3, [2, 6, 40, 41, 42])], [], false, [], noIt⟩ [.tmp 2] rfl Tryz.func118 rfl rfl rfl (by kernel_rfl) (by show 1 ≤ 52; decide) (by kernel_rfl)).trans ?_
    unfold insS
    rw [if_neg hk]
    simp +contextual (maxSteps := 10000000) only [go_sem, hkt]
    refine lpK_inv (fun m f es => ∃ (i : Nat) (j : Int), j = i ∧ m + i = v.kids.length ∧ ((i = 0 ∧ f = [(2, .nils), (14, .ro false (v.kids.map Val.d)), (15, I v.kids.length), (16, I j)] ∧ es = []) ∨
      (0 < i ∧ f = [(2, .ref 0 0 1 0 (catW ((v.kids.take i).map encV)).size), (14, .ro false (v.kids.map Val.d)), (15, I v.kids.length), (16, I j)] ∧ es = [some ⟨0, bytesD (catW ((v.kids.take i).map encV))⟩]))) v.kids.length ⟨0, _, rfl, by omega, .inl ⟨rfl, rfl, rfl⟩⟩ ?_
    rintro m _ _ ⟨i, _, rfl, hmi, hst⟩ ih
    cases m with
    | succ m =>
      obtain ⟨x, hx⟩ := get_lt (l := v.kids) (i := i) (by omega)
      have hxm := List.mem_of_getElem? hx
      have hxs := szL_mem hx
      have hlt : decide ((i : Int) < v.kids.length) = true := by simp; omega
      have hix : (v.kids.map Val.d)[i]? = some x.d := by rw [List.getElem?_map, hx]; rfl
      have hsn : (v.kids.take (i + 1)).map encV = (v.kids.take i).map encV ++ [encV x] := by rw [take_snoc hx, List.map_append]; rfl
      have hcw : catW ((v.kids.take (i + 1)).map encV) = catW ((v.kids.take i).map encV) ++ wrV x := by rw [hsn, catW_app, catW_one]
      obtain ⟨hp1, hp2⟩ := hp x (by omega) (hms x hxm)
      rcases hst with ⟨rfl, rfl, rfl⟩ | ⟨hpos, rfl, rfl⟩
      · have hcw0 : catW ((v.kids.take 1).map encV) = wrV x := by rw [hcw]; exact e0_app _
        have hlt0 : decide ((0 : Int) < v.kids.length) = true := by simpa using hlt
        simp +contextual (maxSteps := 10000000) only [go_sem, hix, hlt0, hp1, wrap_i64 (n := 1) (by omega) (by omega)]
        refine ih m _ _ (by omega) ?_
        exact ⟨1, 1, rfl, by omega, .inr ⟨by omega, by rw [hcw0], by rw [hcw0]⟩⟩
      · have hb1 := hbnd i
        have hb2 := hbnd (i + 1)
        have hs1 := szL_app (v.kids.take i) [x]
        rw [← take_snoc hx] at hs1
        have hs2 := szL_take v.kids (i + 1)
        simp only [Val.szL] at hs1
        have hne : (catW ((v.kids.take i).map encV)).size ≠ 0 := by
          obtain ⟨y, hy⟩ := get_lt (l := v.kids) (i := 0) (by omega)
          have : v.kids.take i = y :: (v.kids.take i).drop 1 := by
            cases hkk : v.kids with
            | nil => rw [hkk] at hy; simp at hy
            | cons a r => rw [hkk] at hy; simp at hy; subst hy; cases i with
              | zero => omega
              | succ i => simp
          rw [this]
          simp only [List.map_cons, catW, ByteArray.size_append]
          have := wr_pos y
          unfold wrV shV hdV at this; omega
        have hput := hp2 (catW ((v.kids.take i).map encV)) hne (by omega)
        simp +contextual (maxSteps := 10000000) only [go_sem, hix, hlt, hput, wrap_i64 (n := (i : Int) + 1) (by omega) (by omega)]
        refine ih m _ _ (by omega) ?_
        exact ⟨i + 1, (i : Int) + 1, by omega, by omega, .inr ⟨by omega, by rw [hcw, ByteArray.size_append], by rw [hcw]⟩⟩
    | zero =>
      have hlt : decide ((i : Int) < v.kids.length) = false := by simp; omega
      obtain rfl : i = v.kids.length := by omega
      rcases hst with ⟨h0, rfl, rfl⟩ | ⟨hpos, rfl, rfl⟩
      · have hk0 : v.kids = [] := List.length_eq_zero_iff.1 h0
        rw [hk0] at hlt ⊢
        simp only [List.length_nil, List.map_nil, Int.natCast_zero, Int.cast_ofNat_Int] at hlt ⊢
        simp +contextual (maxSteps := 10000000) only [go_sem, hlt]
        rfl
      · rw [List.take_length]
        have hw : insR (catW (v.kids.map encV)) = (.ret (.ref 0 0 1 0 (catW (v.kids.map encV)).size), [some ⟨0, bytesD (catW (v.kids.map encV))⟩]) := by
          unfold insR
          rw [if_neg]
          obtain ⟨y, hy⟩ := get_lt (l := v.kids) (i := 0) (by omega)
          cases hkk : v.kids with
          | nil => rw [hkk] at hy; simp at hy
          | cons a r =>
            simp only [List.map_cons, catW, ByteArray.size_append]
            have := wr_pos a
            unfold wrV shV hdV at this; omega
        rw [hw]
        simp +contextual (maxSteps := 10000000) only [go_sem, hlt]
  case pos =>
  have hkf : (v.kind != 24) = false := by simpa using hk
  cases hkk : v.kids with
  | nil =>
    refine .inr ?_
    unfold insS
    rw [if_pos hk, hkk]
    refine (ev_body ⟨[1], [(1, [2, 14, 15, 16]), (3, [2, 6, 40, 41, 42])], [], false, [], noIt⟩ [.tmp 2] rfl Tryz.func118 rfl rfl rfl (by kernel_rfl) (by show 1 ≤ 52; decide) (by kernel_rfl)).trans ?_
    simp +contextual (maxSteps := 10000000) only [go_sem, hkf, hkk, List.map_nil, List.length_nil, one_b1]
    rfl
  | cons k0 r =>
    have h0 : v.kids[0]? = some k0 := by rw [hkk]; rfl
    have hA := al_fam hm hk h0
    have hks : ∀ x ∈ v.kids, x.sz ≤ n ∧ x.sz ≤ 40000000 := fun x hx => by have := szL_in hx; omega
    have hstrip := strip_c v.kids (by omega) hA
    have hcode := code_al hi v.kids k0 h0 hA (by omega) hks
    obtain ⟨c1, c2, c3⟩ := codeOf_of h0 (hms k0 (List.mem_of_getElem? h0))
    have hr := code_range c3 c1
    have hk0 := hks k0 (List.mem_of_getElem? h0)
    have hcons := cons_nils hp v.kids k0 h0 hA (by omega) (by omega) (codeOf (v.kids.map shV)) hr.1 hr.2 hcode (by omega)
    have hne : ((v.kids.length : Int) == 0) = false := by rw [hkk]; simp; omega
    have hins : insS v = hdV k0 ++ b1 (codeOf (v.kids.map shV)) ++ catD (codeOf (v.kids.map shV)) (v.kids.map shV) := by
      have e1 : (v.kids.map encV).map Prod.fst = v.kids.map shV := by rw [List.map_map]; rfl
      unfold insS
      rw [if_pos hk]
      rw [hkk] at e1 ⊢
      simp only [List.map_cons] at e1 ⊢
      simp only [arrS, List.map_cons]
      rw [e1]; rfl
    generalize hC : codeOf (v.kids.map shV) = C at hcode c1 c2 hr hcons hins
    have hpsz : insR (insS v) = (.ret (.ref 0 0 1 0 (insS v).size), [some ⟨0, bytesD (insS v)⟩]) := by
      unfold insR
      rw [if_neg]
      rw [hins]; simp only [ByteArray.size_append, b1_size]; omega
    refine .inl ?_
    rw [hpsz]
    have hmx := ins_sz k0
    refine (ev_body ⟨[1], [(1, [2, 14, 15, 16]), (3, [2, 6, 40, 41, 42])], [], false, [], noIt⟩ [.tmp 2] rfl Tryz.func118 rfl rfl rfl (by kernel_rfl) (by show 1 ≤ 52; decide) (by kernel_rfl)).trans ?_
    simp +contextual (maxSteps := 10000000) only [go_sem, hkf, hcons, hstrip, hcode, hne]
    refine lpK_inv (fun m f es => ∃ (i : Nat) (j : Int) (acc : ByteArray), j = i ∧ m + i = v.kids.length ∧ acc = hdV k0 ++ b1 C ++ catD C ((v.kids.take i).map shV) ∧ f = [(2, .ref 0 0 1 0 acc.size), (6, .sc (.int .u8 C)), (40, .ro false ((v.kids.map bareV).map Val.d)), (41, I v.kids.length), (42, I j)] ∧ es = [some ⟨0, bytesD acc⟩]) v.kids.length ⟨0, _, hdV k0 ++ b1 C, rfl, by omega, (app_e0 _).symm, by rw [ByteArray.size_append, b1_size]; rfl, rfl⟩ ?_
    rintro m _ _ ⟨i, _, acc, rfl, hmi, hacc, rfl, rfl⟩ ih
    cases m with
    | succ m =>
      obtain ⟨x, hx⟩ := get_lt (l := v.kids) (i := i) (by omega)
      have hxm := List.mem_of_getElem? hx
      have hxs := szL_mem hx
      have hlt : decide ((i : Int) < v.kids.length) = true := by simp; omega
      obtain ⟨q1, q2, q3, q4⟩ := sh_bare _ x (Nat.le_refl _) (hms x hxm)
      have hix : ((v.kids.map bareV).map Val.d)[i]? = some (bareV x).d := by rw [List.getElem?_map, List.getElem?_map, hx]; rfl
      have hsn : (v.kids.take (i + 1)).map shV = (v.kids.take i).map shV ++ [shV x] := by rw [take_snoc hx, List.map_append]; rfl
      have hnx : acc ++ dataS C (shV x) = hdV k0 ++ b1 C ++ catD C ((v.kids.take (i + 1)).map shV) := by rw [hsn, catD_app, catD_one, hacc, ByteArray.append_assoc]
      have hal : ∀ y ∈ v.kids, (bareV y).kind = (bareV k0).kind := al_kind hA h0
      have hasz : acc.size ≤ 450000000 := by
        have h3 := szL_take v.kids i
        rw [hacc]; simp only [ByteArray.size_append, b1_size]
        cases i with
        | zero =>
          have := szL_in (List.mem_of_getElem? h0)
          simp only [List.take_zero, List.map_nil, catD, e0_size]; omega
        | succ i =>
          have h1 := catD_size2 C (encV k0) ((r.take i).map encV)
          have h2 := mx_szL (v.kids.take (i + 1))
          rw [encL_map, hkk, List.take_succ_cons, List.map_cons] at h2
          have e1 : (encV k0 :: (r.take i).map encV).map Prod.fst = (v.kids.take (i + 1)).map shV := by rw [hkk, List.take_succ_cons, List.map_cons, List.map_cons, List.map_map]; rfl
          rw [e1] at h1
          have e2 : (encV k0).2 = hdV k0 := rfl
          rw [e2] at h1
          rw [hkk, List.take_succ_cons] at h3
          rw [hkk] at hz
          omega
      have hdata := data_c acc (bareV x) C (by rw [hacc]; simp only [ByteArray.size_append, b1_size]; omega) hasz (by omega) q3 q2 (by rw [hal x hxm]; exact c1) (by rw [q1]; exact c2 x hxm) (hi (bareV x) (by omega) q3 q2)
      rw [q1] at hdata
      simp +contextual (maxSteps := 10000000) only [go_sem, hix, hlt, hdata, wrap_i64 (n := (i : Int) + 1) (by omega) (by omega)]
      refine ih m _ _ (by omega) ?_
      exact ⟨i + 1, (i : Int) + 1, acc ++ dataS C (shV x), by omega, by omega, hnx, by rw [ByteArray.size_append], rfl⟩
    | zero =>
      have hlt : decide ((i : Int) < v.kids.length) = false := by simp; omega
      obtain rfl : i = v.kids.length := by omega
      rw [List.take_length, ← hins] at hacc
      subst hacc
      simp +contextual (maxSteps := 10000000) only [go_sem, hlt]
theorem enc_ok : ∀ n, n ≤ 40000000 → InsOk n ∧ PutOk n
  | 0, _ => ⟨fun v hv => by rw [Val.sz_eq] at hv; omega, fun v hv => by rw [Val.sz_eq] at hv; omega⟩
  | n + 1, hn => by
    obtain ⟨h1, h2⟩ := enc_ok n (by omega)
    have h3 := ins_step h1 h2 hn
    exact ⟨h3, put_step h3 h2 hn⟩
/-- WHAT encode.Value ANSWERS -/
theorem encode_c (v : Val) (h : v.sz ≤ 40000000) (hw : v.wf) : EV 25 [v.d] [] = some (if rightS v = true then (.ret (.tup [.ref 0 0 1 0 (wrV v).size, I 0]), [some ⟨0, bytesD (wrV v)⟩]) else (.ret (.tup [.nils, I 1]), [])) := by
  have hr := right_c v (by omega) hw
  refine (ev_body ⟨[1], [], [], false, [], noIt⟩ [.tmp 2, .tmp 3] rfl Tryz.func25 rfl rfl rfl (by kernel_rfl) (by show 1 ≤ 9; decide) (by kernel_rfl)).trans ?_
  cases hb : rightS v with
  | true =>
    have hm : mayS v = true := by unfold rightS at hb; simp only [Bool.and_eq_true] at hb; exact hb.2
    have hp := ((enc_ok v.sz h).2 v (Nat.le_refl _) hm).1
    rw [hb] at hr
    simp +contextual (maxSteps := 10000000) only [go_sem, hr, hp]
  | false =>
    rw [hb] at hr
    simp +contextual (maxSteps := 10000000) only [go_sem, hr]
end Go.Bw.R1

/- Plain: what bytes tell. -/
namespace Go.Bw.R1
set_option maxRecDepth 5000
open Go Go.Bw
theorem take_app {a b : List UInt8} {n : Nat} (h : a.length = n) : takeL n (a ++ b) = .ok (a, b) := by
  unfold takeL
  rw [if_neg (by rw [List.length_append]; omega), List.take_left' h, List.drop_left' h]
theorem beN_1 (n : Int) (h : 0 ≤ n) : (beN (toL (be 1 n)) : Int) = n % 256 := by
  rw [be_1, toL_b1]; simp only [beN, List.foldl_cons, List.foldl_nil, UInt8.toNat_ofNat']; omega

theorem beN_2 (n : Int) (h : 0 ≤ n) : (beN (toL (be 2 n)) : Int) = n % 65536 := by
  rw [be_2]; simp only [toL_app, toL_b1, List.cons_append, List.nil_append, beN, List.foldl_cons, List.foldl_nil, UInt8.toNat_ofNat', fde n 256 (by decide)]; omega
theorem beN_4 (n : Int) (h : 0 ≤ n) : (beN (toL (be 4 n)) : Int) = n % 4294967296 := by
  rw [be_4]; simp only [toL_app, toL_b1, List.cons_append, List.nil_append, beN, List.foldl_cons, List.foldl_nil, UInt8.toNat_ofNat', fde n 256 (by decide), fde n 65536 (by decide), fde n 16777216 (by decide)]; omega
theorem beN_fold (a : Nat) : ∀ l : List UInt8, l.foldl (fun a x => a * 256 + x.toNat) a = a * 256 ^ l.length + beN l
  | [] => by simp [beN]
  | x :: l => by
    have h1 := beN_fold (a * 256 + x.toNat) l
    have h2 := beN_fold x.toNat l
    rw [List.foldl_cons, h1, List.length_cons, Nat.pow_succ]
    have : beN (x :: l) = x.toNat * 256 ^ l.length + beN l := by unfold beN at h2 ⊢; rw [List.foldl_cons, Nat.zero_mul, Nat.zero_add]; exact h2
    rw [this, Nat.add_mul, Nat.mul_assoc, Nat.mul_comm 256]; omega
theorem beN_app (a b : List UInt8) : beN (a ++ b) = beN a * 256 ^ b.length + beN b := by
  rw [show beN (a ++ b) = b.foldl (fun a x => a * 256 + x.toNat) (beN a) from List.foldl_append, beN_fold]
theorem be_84 (n : Int) : be 8 n = be 4 (n / 4294967296) ++ be 4 n := by
  rw [be_8, be_4, be_4]
  simp only [fde _ 256 (by decide), fde _ 65536 (by decide), fde _ 16777216 (by decide), fde n 4294967296 (by decide), fde n 1099511627776 (by decide), fde n 281474976710656 (by decide), fde n 72057594037927936 (by decide), show n / 4294967296 / 16777216 = n / 72057594037927936 by omega, show n / 4294967296 / 65536 = n / 281474976710656 by omega, show n / 4294967296 / 256 = n / 1099511627776 by omega, ByteArray.append_assoc]
theorem beN_8 (n : Int) (h : 0 ≤ n) (h1 : n < 18446744073709551616) : (beN (toL (be 8 n)) : Int) = n := by
  have e1 := beN_4 (n / 4294967296) (by omega)
  have e2 := beN_4 n h
  have e3 : (toL (be 4 n)).length = 4 := by rw [toL_len]; exact be_size (by simp [wOk]) n
  rw [be_84, toL_app, beN_app, e3]
  rw [show (256 ^ 4 : Nat) = 4294967296 from rfl]
  omega
end Go.Bw.R1

/- Plain: data, and what they tell. -/
namespace Go.Bw.R1
set_option maxRecDepth 5000
open Go Go.Bw
structure DOk (c : Int) (s : Sh) : Prop where
  lo : 64 ≤ c
  hi : c ≤ 255
  num : c / 16 = 5 ∨ c / 16 = 6 ∨ c / 16 = 7 ∨ c / 16 = 8 → s.text = e0 ∨ s.text.size = fixC c
  t16 : c / 16 = 9 → s.text.size = 16
  sh : c / 16 = 10 → s.text.size ≤ 255
  lg : c / 16 = 11 → s.text.size < 4294967296
  ins1 : c / 16 = 12 ∨ c / 16 = 14 → s.ins.size < 255
  ins4 : c / 16 = 13 ∨ c / 16 = 15 → s.ins.size < 4294967290
theorem be1N (n : Nat) (h : n ≤ 255) : beN (toL (be 1 (n : Int))) = n := by have := beN_1 n (by omega); omega
theorem be4N (n : Nat) (h : n < 4294967296) : beN (toL (be 4 (n : Int))) = n := by have := beN_4 n (by omega); omega
theorem be1L (x : Int) : (toL (be 1 x)).length = 1 := (toL_len _).trans (be_size (by simp [wOk]) x)
theorem be4L (x : Int) : (toL (be 4 x)).length = 4 := (toL_len _).trans (be_size (by simp [wOk]) x)
theorem long_rt {c : Int} {w : Nat} {t : ByteArray} {rest : List UInt8} (h1 : 160 ≤ c) (hw : wideC c = w) (hl : (toL (be w t.size)).length = w) (hb : beN (toL (be w t.size)) = t.size) : dataL c (toL (be w t.size ++ t) ++ rest) = .ok (toL (be w t.size ++ t), rest) := by
  unfold dataL
  rw [if_neg (by omega), hw, toL_app, List.append_assoc, take_app hl]
  simp only [hb]
  rw [take_app (toL_len t)]
theorem dataS_num {c : Int} {s : Sh} (hq : c / 16 = 5 ∨ c / 16 = 6 ∨ c / 16 = 7 ∨ c / 16 = 8) : dataS c s = if s.text = e0 then be (widQ (c / 16)) s.num else s.text := by
  unfold dataS; rw [fde c 16 (by decide), if_neg (by omega), if_pos hq]
theorem fix_wid {c : Int} (hq : c / 16 = 5 ∨ c / 16 = 6 ∨ c / 16 = 7 ∨ c / 16 = 8) : fixC c = widQ (c / 16) := by
  unfold fixC widQ
  rcases hq with h | h | h | h <;> rw [h] <;> rfl
theorem dataS_12 {c : Int} {s : Sh} (hq : c / 16 = 12 ∨ c / 16 = 14) : dataS c s = be 1 (1 + s.ins.size : Nat) ++ (be 1 s.cnt ++ s.ins) := by
  unfold dataS; rw [fde c 16 (by decide), if_neg (by omega), if_neg (by omega), if_neg (by omega), if_neg (by omega), if_neg (by omega), if_pos hq]
theorem dataS_13 {c : Int} {s : Sh} (hq : c / 16 = 13 ∨ c / 16 = 15) : dataS c s = be 4 (4 + s.ins.size : Nat) ++ (be 4 s.cnt ++ s.ins) := by
  unfold dataS; rw [fde c 16 (by decide), if_neg (by omega), if_neg (by omega), if_neg (by omega), if_neg (by omega), if_neg (by omega), if_neg (by omega)]
/-- data are read as they were laid -/
theorem data_rt {c : Int} {s : Sh} (h : DOk c s) (rest : List UInt8) : dataL c (toL (dataS c s) ++ rest) = .ok (toL (dataS c s), rest) := by
  have hl := h.lo
  have hh := h.hi
  have hq : c / 16 = 4 ∨ (c / 16 = 5 ∨ c / 16 = 6 ∨ c / 16 = 7 ∨ c / 16 = 8) ∨ c / 16 = 9 ∨ c / 16 = 10 ∨ c / 16 = 11 ∨ (c / 16 = 12 ∨ c / 16 = 14) ∨ (c / 16 = 13 ∨ c / 16 = 15) := by omega
  have w1 : c / 16 = 10 ∨ c / 16 = 12 ∨ c / 16 = 14 → wideC c = 1 := fun hq => by unfold wideC; rw [if_neg (by omega)]
  have w4 : c / 16 = 11 ∨ c / 16 = 13 ∨ c / 16 = 15 → wideC c = 4 := fun hq => by unfold wideC; rw [if_pos (by omega)]
  rcases hq with hq | hq | hq | hq | hq | hq | hq
  · have e : dataS c s = e0 := by unfold dataS; rw [fde c 16 (by decide), if_pos hq]
    rw [e]; unfold dataL; rw [if_pos (by omega)]
    exact take_app (by unfold fixC; rw [if_pos hq]; rfl)
  · unfold dataL; rw [if_pos (by omega)]
    refine take_app ?_
    rw [dataS_num hq, toL_len]
    split
    · rw [be_size (wOk_wid _), fix_wid hq]
    · rename_i hne
      exact (h.num hq).resolve_left hne
  · have e : dataS c s = s.text := by unfold dataS; rw [fde c 16 (by decide), if_neg (by omega), if_neg (by omega), if_pos hq]
    rw [e]; unfold dataL; rw [if_pos (by omega)]
    exact take_app (by rw [toL_len, h.t16 hq]; unfold fixC; rw [if_neg (by omega), if_neg (by omega), if_neg (by omega), if_neg (by omega), if_neg (by omega)])
  · have e : dataS c s = be 1 s.text.size ++ s.text := by unfold dataS; rw [fde c 16 (by decide), if_neg (by omega), if_neg (by omega), if_neg (by omega), if_pos hq]
    rw [e]
    exact long_rt (by omega) (w1 (.inl hq)) (be1L _) (be1N _ (h.sh hq))
  · have e : dataS c s = be 4 s.text.size ++ s.text := by unfold dataS; rw [fde c 16 (by decide), if_neg (by omega), if_neg (by omega), if_neg (by omega), if_neg (by omega), if_pos hq]
    rw [e]
    exact long_rt (by omega) (w4 (.inl hq)) (be4L _) (be4N _ (h.lg hq))
  · have hz : (be 1 s.cnt ++ s.ins).size = 1 + s.ins.size := by rw [ByteArray.size_append, be_size (w := 1) (by simp [wOk])]
    rw [dataS_12 hq, ← hz]
    exact long_rt (by omega) (w1 (.inr hq)) (be1L _) (be1N _ (by have := h.ins1 hq; omega))
  · have hz : (be 4 s.cnt ++ s.ins).size = 4 + s.ins.size := by rw [ByteArray.size_append, be_size (w := 4) (by simp [wOk])]
    rw [dataS_13 hq, ← hz]
    exact long_rt (by omega) (w4 (.inr hq)) (be4L _) (be4N _ (by have := h.ins4 hq; omega))
theorem leafN {c k n : Int} {w : Nat} {x : Int} (hk : kindC c = k) (hb : (beN (toL (be w n)) : Int) = x) (h1 : leafV c (toL (be w n)) = .mk (kindC c) (beN (toL (be w n))) e0 []) (hx : x = n) : leafV c (toL (be w n)) = .mk k n e0 [] := by
  rw [h1, hk, hb, hx]
theorem leafS {c k n : Int} {w : Nat} {x : Int} (hk : kindC c = k) (hw : wOk w) (hb : (beN (toL (be w n)) : Int) = x) (h1 : leafV c (toL (be w n)) = .mk (kindC c) (sgnX (beN (toL (be w n))) (toL (be w n)).length) e0 []) (hx : sgnX x w = n) : leafV c (toL (be w n)) = .mk k n e0 [] := by
  rw [h1, hk, hb, toL_len, be_size hw, hx]
theorem sx1 {n : Int} (h0 : 0 ≤ n) (h1 : n < 18446744073709551616) (h : sg 128 n = true) : sgnX (n % 256) 1 = n := by
  unfold sg at h; simp only [Bool.and_eq_true, decide_eq_true_eq] at h; rw [wrap_i64_eq] at h
  unfold sgnX; rw [if_neg (by omega), show (2 : Int) ^ (8 * 1 - 1) = 128 from rfl, show (2 : Int) ^ 64 - 2 ^ (8 * 1) = 18446744073709551360 from rfl]
  split at h <;> split <;> omega
theorem sx2 {n : Int} (h0 : 0 ≤ n) (h1 : n < 18446744073709551616) (h : sg 32768 n = true) : sgnX (n % 65536) 2 = n := by
  unfold sg at h; simp only [Bool.and_eq_true, decide_eq_true_eq] at h; rw [wrap_i64_eq] at h
  unfold sgnX; rw [if_neg (by omega), show (2 : Int) ^ (8 * 2 - 1) = 32768 from rfl, show (2 : Int) ^ 64 - 2 ^ (8 * 2) = 18446744073709486080 from rfl]
  split at h <;> split <;> omega
theorem sx4 {n : Int} (h0 : 0 ≤ n) (h1 : n < 18446744073709551616) (h : sg 2147483648 n = true) : sgnX (n % 4294967296) 4 = n := by
  unfold sg at h; simp only [Bool.and_eq_true, decide_eq_true_eq] at h; rw [wrap_i64_eq] at h
  unfold sgnX; rw [if_neg (by omega), show (2 : Int) ^ (8 * 4 - 1) = 2147483648 from rfl, show (2 : Int) ^ 64 - 2 ^ (8 * 4) = 18446744069414584320 from rfl]
  split at h <;> split <;> omega
theorem sg_sgn {n : Int} (h : sgn8 n = true) : sg 128 n = true := by
  unfold sgn8 at h; unfold sg
  simp only [beq_iff_eq, Bool.and_eq_true, decide_eq_true_eq] at *
  rw [wrap_i64_eq, wrap_i8_eq] at h
  rw [wrap_i64_eq]
  split at h <;> split at h <;> split <;> omega
theorem drop_hd {a t : ByteArray} {w : Nat} (h : (toL a).length = w) : mkT ((toL (a ++ t)).drop w) = t := by
  rw [toL_app, List.drop_left' h, mkT_toL]
theorem chr_le {n : Int} (h : U.chr n = true) : n ≤ 1114111 := by
  unfold U.chr at h; simp only [Bool.and_eq_true, decide_eq_true_eq] at h; omega
/-- what an encoded leaf tells is the leaf -/
theorem leaf_rt {v : Val} {c : Int} (hm : mayS v = true) (hw : v.wf) (h22 : v.kind < 22) (hc : c ∈ codesOf v.kind) (hf : fitS c (shV v) = true) : leafV c (toL (dataS c (shV v))) = v := by
  rw [sh_ne (by omega)] at hf ⊢
  obtain ⟨k, n, t, l⟩ := v
  rw [mayS_eq] at hm
  obtain ⟨⟨_, _, hn0, hn1⟩, _⟩ := hw
  simp only [Val.kind_mk, Val.num_mk, Val.text_mk, Val.kids_mk, Bool.and_eq_true, decide_eq_true_eq] at hm h22 hc hf ⊢ hn0 hn1
  obtain ⟨⟨⟨hk1, hk2⟩, _⟩, ⟨hn, ht⟩, hl⟩ := hm
  obtain rfl : l = [] := by
    unfold famS at hl
    rw [if_neg (by simp; omega), if_neg (by simp; omega), if_neg (by simp; omega), if_neg (by simp; omega)] at hl
    simpa using hl
  have nt : (k < 15 ∨ 21 < k) → t = e0 := fun h => by
    unfold textS at ht
    rw [if_neg (by simp; omega), if_neg (by simp; omega), if_neg (by simp; omega), if_neg (by simp; omega), if_neg (by simp; omega), if_neg (by simp; omega), if_neg (by simp; omega)] at ht
    have : t = ⟨#[]⟩ := by simpa using ht
    exact this
  have hk1' : 1 ≤ k := of_decide_eq_true hk1
  have nz : (k = 1 ∨ 15 ≤ k) → n = 0 := fun h => by
    unfold numS at hn
    rw [if_neg (by simp; omega), if_neg (by simp; omega), if_neg (by simp; omega), if_neg (by simp; omega), if_neg (by simp; omega), if_neg (by simp; omega), if_neg (by simp; omega), if_neg (by simp; omega), if_neg (by simp; omega), if_neg (by simp; omega), if_neg (by simp; omega), if_neg (by simp; omega), if_neg (by simp; omega)] at hn
    simpa using hn
  have n0 : (n == 0) = true → n = 0 := fun h => by simpa using h
  rcases (show k = 1 ∨ k = 2 ∨ k = 3 ∨ k = 4 ∨ k = 5 ∨ k = 6 ∨ k = 7 ∨ k = 8 ∨ k = 9 ∨ k = 10 ∨ k = 11 ∨ k = 12 ∨ k = 13 ∨ k = 14 ∨ k = 15 ∨ k = 16 ∨ k = 17 ∨ k = 18 ∨ k = 19 ∨ k = 20 ∨ k = 21 by omega) with rfl | rfl | rfl | rfl | rfl | rfl | rfl | rfl | rfl | rfl | rfl | rfl | rfl | rfl | rfl | rfl | rfl | rfl | rfl | rfl | rfl
  · obtain rfl : c = 64 := List.mem_singleton.1 hc
    · obtain rfl := nz (by omega); obtain rfl := nt (by omega); rfl
  · have hc2 : c = 65 ∨ c = 66 ∨ c = 86 := by simpa [codesOf] using hc
    rcases hc2 with rfl | rfl | rfl
    · obtain rfl : n = 1 := by simpa [fitS] using hf
      obtain rfl := nt (by omega); rfl
    · obtain rfl := n0 hf; obtain rfl := nt (by omega); rfl
    · obtain rfl := nt (by omega); have hb : n ≤ 1 := by simpa [numS] using hn
      exact leafN (n := n) (w := 1) (c := 86) rfl (beN_1 n hn0) rfl (by omega)
  · obtain rfl : c = 80 := List.mem_singleton.1 hc
    · obtain rfl := nt (by omega); have hb : n < 256 := by simpa [numS] using hn
      exact leafN (n := n) (w := 1) (c := 80) rfl (beN_1 n hn0) rfl (by omega)
  · obtain rfl : c = 96 := List.mem_singleton.1 hc
    · obtain rfl := nt (by omega); have hb : n < 65536 := by simpa [numS] using hn
      exact leafN (n := n) (w := 2) (c := 96) rfl (beN_2 n hn0) rfl (by omega)
  · have hc2 : c = 67 ∨ c = 82 ∨ c = 112 := by simpa [codesOf] using hc
    rcases hc2 with rfl | rfl | rfl
    · obtain rfl := n0 hf; obtain rfl := nt (by omega); rfl
    · obtain rfl := nt (by omega); have hb : n ≤ 255 := by simpa [fitS] using hf
      exact leafN (n := n) (w := 1) (c := 82) rfl (beN_1 n hn0) rfl (by omega)
    · obtain rfl := nt (by omega); have hb : n < 4294967296 := by simpa [numS] using hn
      exact leafN (n := n) (w := 4) (c := 112) rfl (beN_4 n hn0) rfl (by omega)
  · have hc2 : c = 68 ∨ c = 83 ∨ c = 128 := by simpa [codesOf] using hc
    rcases hc2 with rfl | rfl | rfl
    · obtain rfl := n0 hf; obtain rfl := nt (by omega); rfl
    · obtain rfl := nt (by omega); have hb : n ≤ 255 := by simpa [fitS] using hf
      exact leafN (n := n) (w := 1) (c := 83) rfl (beN_1 n hn0) rfl (by omega)
    · obtain rfl := nt (by omega); exact leafN (n := n) (w := 8) (c := 128) rfl (beN_8 n hn0 (by omega)) rfl rfl
  · obtain rfl : c = 81 := List.mem_singleton.1 hc
    · obtain rfl := nt (by omega); exact leafS (n := n) (w := 1) (c := 81) rfl (by simp [wOk]) (beN_1 n hn0) rfl (sx1 hn0 (by omega) hn)
  · obtain rfl : c = 97 := List.mem_singleton.1 hc
    · obtain rfl := nt (by omega); exact leafS (n := n) (w := 2) (c := 97) rfl (by simp [wOk]) (beN_2 n hn0) rfl (sx2 hn0 (by omega) hn)
  · have hc2 : c = 84 ∨ c = 113 := by simpa [codesOf] using hc
    rcases hc2 with rfl | rfl
    · obtain rfl := nt (by omega); exact leafS (n := n) (w := 1) (c := 84) rfl (by simp [wOk]) (beN_1 n hn0) rfl (sx1 hn0 (by omega) (sg_sgn hf))
    · obtain rfl := nt (by omega); exact leafS (n := n) (w := 4) (c := 113) rfl (by simp [wOk]) (beN_4 n hn0) rfl (sx4 hn0 (by omega) hn)
  · have hc2 : c = 85 ∨ c = 129 := by simpa [codesOf] using hc
    rcases hc2 with rfl | rfl
    · obtain rfl := nt (by omega); exact leafS (n := n) (w := 1) (c := 85) rfl (by simp [wOk]) (beN_1 n hn0) rfl (sx1 hn0 (by omega) (sg_sgn hf))
    · obtain rfl := nt (by omega); exact leafS (n := n) (w := 8) (c := 129) rfl (by simp [wOk]) (beN_8 n hn0 (by omega)) rfl rfl
  · obtain rfl : c = 114 := List.mem_singleton.1 hc
    · obtain rfl := nt (by omega); have hb : n < 4294967296 := by simpa [numS] using hn
      exact leafN (n := n) (w := 4) (c := 114) rfl (beN_4 n hn0) rfl (by omega)
  · obtain rfl : c = 130 := List.mem_singleton.1 hc
    · obtain rfl := nt (by omega); exact leafN (n := n) (w := 8) (c := 130) rfl (beN_8 n hn0 (by omega)) rfl rfl
  · obtain rfl : c = 115 := List.mem_singleton.1 hc
    · obtain rfl := nt (by omega); have hb := chr_le hn; exact leafN (n := n) (w := 4) (c := 115) rfl (beN_4 n hn0) rfl (by omega)
  · obtain rfl : c = 131 := List.mem_singleton.1 hc
    · obtain rfl := nt (by omega); exact leafS (n := n) (w := 8) (c := 131) rfl (by simp [wOk]) (beN_8 n hn0 (by omega)) rfl rfl
  · obtain rfl : c = 152 := List.mem_singleton.1 hc
    · obtain rfl := nz (by omega); exact congrArg (fun s => Val.mk 15 0 s []) (mkT_toL t)
  · obtain rfl : c = 116 := List.mem_singleton.1 hc
    · obtain rfl := nz (by omega)
      have hne : t ≠ e0 := by rintro rfl; exact absurd ht (by decide)
      have e : dataS 116 ⟨16, 0, t, ([] : List Val).length, insS (.mk 16 0 t [])⟩ = t := (dataS_num (by decide)).trans (if_neg hne)
      rw [e]; exact congrArg (fun s => Val.mk 16 0 s []) (mkT_toL t)
  · obtain rfl : c = 132 := List.mem_singleton.1 hc
    · obtain rfl := nz (by omega)
      have hne : t ≠ e0 := by rintro rfl; exact absurd ht (by decide)
      have e : dataS 132 ⟨17, 0, t, ([] : List Val).length, insS (.mk 17 0 t [])⟩ = t := (dataS_num (by decide)).trans (if_neg hne)
      rw [e]; exact congrArg (fun s => Val.mk 17 0 s []) (mkT_toL t)
  · obtain rfl : c = 148 := List.mem_singleton.1 hc
    · obtain rfl := nz (by omega); exact congrArg (fun s => Val.mk 18 0 s []) (mkT_toL t)
  · have hc2 : c = 160 ∨ c = 176 := by simpa [codesOf] using hc
    rcases hc2 with rfl | rfl
    · obtain rfl := nz (by omega); exact congrArg (fun s => Val.mk 19 0 s []) (drop_hd (a := be 1 t.size) (be1L _))
    · obtain rfl := nz (by omega); exact congrArg (fun s => Val.mk 19 0 s []) (drop_hd (a := be 4 t.size) (be4L _))
  · have hc2 : c = 161 ∨ c = 177 := by simpa [codesOf] using hc
    rcases hc2 with rfl | rfl
    · obtain rfl := nz (by omega); exact congrArg (fun s => Val.mk 20 0 s []) (drop_hd (a := be 1 t.size) (be1L _))
    · obtain rfl := nz (by omega); exact congrArg (fun s => Val.mk 20 0 s []) (drop_hd (a := be 4 t.size) (be4L _))
  · have hc2 : c = 163 ∨ c = 179 := by simpa [codesOf] using hc
    rcases hc2 with rfl | rfl
    · obtain rfl := nz (by omega); exact congrArg (fun s => Val.mk 21 0 s []) (drop_hd (a := be 1 t.size) (be1L _))
    · obtain rfl := nz (by omega); exact congrArg (fun s => Val.mk 21 0 s []) (drop_hd (a := be 4 t.size) (be4L _))
end Go.Bw.R1

/- Plain: what was encoded is decoded. -/
namespace Go.Bw.R1
set_option maxRecDepth 5000
open Go Go.Bw
theorem codes_kind : ∀ k ∈ kindL, ∀ c ∈ codesOf k, kindC c = k ∧ 64 ≤ c ∧ c ≤ 255 := by decide
theorem dok {v : Val} {c : Int} (hm : mayS v = true) (hk : v.kind ≠ 25) (hc : c ∈ codesOf v.kind) (hf : fitS c (shV v) = true) (hz : v.sz ≤ 40000000) : DOk c (shV v) := by
  have hin := kind_in hm hk
  obtain ⟨_, c1, c2⟩ := codes_kind _ hin c hc
  have hs := ins_sz v
  rw [sh_ne hk] at hf hs ⊢
  rw [mayS_eq] at hm
  simp only [Bool.and_eq_true] at hm
  obtain ⟨_, ⟨_, ht⟩, _⟩ := hm
  simp only at hs
  have hq : ∀ k ∈ kindL, ∀ c ∈ codesOf k, (c / 16 = 5 ∨ c / 16 = 6 ∨ c / 16 = 7 ∨ c / 16 = 8 → k < 15 ∨ k = 16 ∧ fixC c = 4 ∨ k = 17 ∧ fixC c = 8) ∧ (c / 16 = 9 → k = 15 ∨ k = 18) ∧ (c / 16 = 10 → c = 160 ∨ c = 161 ∨ c = 163) ∧ (c / 16 = 12 ∨ c / 16 = 14 → c = 192 ∨ c = 193 ∨ c = 224) := by decide
  obtain ⟨q1, q2, q3, q4⟩ := hq _ hin c hc
  unfold textS at ht
  refine ⟨c1, c2, fun h => ?_, fun h => ?_, fun h => ?_, fun h => ?_, fun h => ?_, fun h => ?_⟩
  · rcases q1 h with h | ⟨h, h2⟩ | ⟨h, h2⟩
    · left
      rw [if_neg (by simp; omega), if_neg (by simp; omega), if_neg (by simp; omega), if_neg (by simp; omega), if_neg (by simp; omega), if_neg (by simp; omega), if_neg (by simp; omega)] at ht
      have : v.text = ⟨#[]⟩ := by simpa using ht
      exact this
    · right
      rw [h, if_neg (by decide), if_neg (by decide), if_neg (by decide), if_pos (by decide)] at ht
      simp only [beq_iff_eq] at ht; show v.text.size = _; omega
    · right
      rw [h, if_neg (by decide), if_neg (by decide), if_pos (by decide)] at ht
      simp only [beq_iff_eq] at ht; show v.text.size = _; omega
  · rcases q2 h with h | h
    · rw [h, if_pos (by decide)] at ht
      simp only [beq_iff_eq] at ht; show v.text.size = _; omega
    · rw [h, if_neg (by decide), if_pos (by decide)] at ht
      simp only [beq_iff_eq] at ht; show v.text.size = _; omega
  · rcases q3 h with h | h | h <;> (subst h; simpa [fitS] using hf)
  · show v.text.size < _; omega
  · rcases q4 h with h | h | h <;> (subst h; simp [fitS] at hf; exact hf.2)
  · show (insS v).size < _; omega
/-- what a value is called, the outermost first -/
def nmV : Val → List Val
  | .mk k _ _ [a, x] => if k = 25 then a :: nmV x else []
  | _ => []
theorem nm_desc {v a x : Val} (h : v.kind = 25) (hk : v.kids = [a, x]) : nmV v = a :: nmV x := by
  cases v; simp only [Val.kind_mk, Val.kids_mk] at h hk; subst h hk; simp only [nmV, if_true]
theorem nm_ne {v : Val} (h : v.kind ≠ 25) : nmV v = [] := by
  cases v with
  | mk k n t l =>
    simp only [Val.kind_mk] at h
    match l with
    | [] => rfl
    | [a] => rfl
    | [a, x] => simp only [nmV, if_neg h]
    | a :: b :: c :: r => rfl
theorem desc_parts {v : Val} (hm : mayS v = true) (hk : v.kind = 25) : ∃ a x, v = .mk 25 0 e0 [a, x] ∧ mayS a = true ∧ mayS x = true ∧ (a.kind = 6 ∨ a.kind = 21) := by
  obtain ⟨a, x, h1, h2, h3⟩ := may_desc hm hk
  rw [mayS_eq] at hm
  simp only [Bool.and_eq_true] at hm
  obtain ⟨_, ⟨hn, ht⟩, hf⟩ := hm
  rw [hk] at hn ht hf
  obtain ⟨k, n, t, l⟩ := v
  simp only [Val.kind_mk, Val.kids_mk, Val.num_mk, Val.text_mk] at *
  subst hk h1
  refine ⟨a, x, ?_, h2, h3, ?_⟩
  · have e1 : n = 0 := by simpa [numS] using hn
    have e2 : t = ⟨#[]⟩ := by simpa [textS] using ht
    rw [e1, e2]; rfl
  · simpa [famS] using hf
theorem call_nm : ∀ (n : Nat) (v : Val), v.sz ≤ n → mayS v = true → callV (nmV v) (bareV v) = v
  | 0, .mk .., h, _ => by simp [Val.sz] at h
  | n + 1, v, hn, hm => by
    by_cases hk : v.kind = 25
    · obtain ⟨a, x, rfl, h2, h3, _⟩ := desc_parts hm hk
      have hs : x.sz ≤ n := by rw [Val.sz_eq] at hn; simp only [Val.kids_mk, Val.szL] at hn; omega
      rw [nm_desc rfl rfl, bare_desc rfl rfl]
      show Val.mk 25 0 e0 [a, callV (nmV x) (bareV x)] = _
      rw [call_nm n x hs h3]
    · rw [nm_ne hk, bare_ne hk]; rfl
theorem code1 {v : Val} (hm : mayS v = true) (hk : v.kind ≠ 25) : codeOf [shV v] ∈ codesOf v.kind ∧ fitS (codeOf [shV v]) (shV v) = true := by
  obtain ⟨h1, h2⟩ := codeOf_ok (ls := [shV v]) (k := v.kind) (by rw [sh_ne hk]; rfl) (kind_in hm hk)
  exact ⟨h1, by simpa using h2⟩
theorem wr_ne {v : Val} (hk : v.kind ≠ 25) : toL (wrV v) = UInt8.ofNat (codeOf [shV v]).toNat :: toL (dataS (codeOf [shV v]) (shV v)) := by
  unfold wrV Wd
  rw [hd_ne hk, e0_app, toL_app, toL_b1]; rfl
theorem consL_code {n : Nat} {c : UInt8} {r : List UInt8} (h : u8I c ≠ 0) (hk : kindC (u8I c) ≠ 0) : consL (n + 1) (c :: r) = .ok (([], u8I c), r) := by
  rw [consL_succ]; unfold consS; dsimp only; rw [if_neg h, if_neg hk]
theorem consL_name {n : Nat} {c k : UInt8} {r2 d r3 r4 : List UInt8} {ns : List Val} {C : Int} (h : u8I c = 0) (hk : kindC (u8I k) = 6 ∨ kindC (u8I k) = 21) (hd : dataL (u8I k) r2 = .ok (d, r3)) (hr : consL n r3 = .ok ((ns, C), r4)) :
    consL (n + 1) (c :: k :: r2) = .ok ((leafV (u8I k) d :: ns, C), r4) := by
  rw [consL_succ]; unfold consS; dsimp only; rw [if_pos h]
  unfold nameS
  rw [if_neg (by omega), hd]
  dsimp only
  rw [hr]
theorem cons_rt (n : Nat) : ∀ (v : Val), v.sz ≤ n → v.sz ≤ 40000000 → mayS v = true → v.wf → ∀ (C : Int) (rest : List UInt8) (fuel : Nat), kindC C ≠ 0 → 1 ≤ C → C ≤ 255 → (toL (hdV v)).length < fuel →
    consL fuel (toL (hdV v) ++ UInt8.ofNat C.toNat :: rest) = .ok ((nmV v, C), rest) := by
  induction n with
  | zero => intro v h; have := Val.sz_eq v; omega
  | succ n ih =>
    intro v hn hN hm hw C rest fuel hC hC0 hC1 hfu
    obtain ⟨fuel, rfl⟩ : ∃ m, fuel = m + 1 := ⟨fuel - 1, by omega⟩
    by_cases hk : v.kind = 25
    · obtain ⟨a, x, rfl, h2, h3, h4⟩ := desc_parts hm hk
      rw [Val.sz_eq] at hn hN; simp only [Val.kids_mk, Val.szL] at hn hN
      obtain ⟨_, wa, wx, _⟩ := hw
      have hka : a.kind ≠ 25 := by omega
      obtain ⟨k1, k2⟩ := code1 h2 hka
      obtain ⟨k3, k4, k5⟩ := codes_kind _ (kind_in h2 hka) _ k1
      have hh : toL (hdV (.mk 25 0 e0 [a, x])) = 0 :: UInt8.ofNat (codeOf [shV a]).toNat :: (toL (dataS (codeOf [shV a]) (shV a)) ++ toL (hdV x)) := by
        rw [(enc_desc rfl rfl).2, toL_app, toL_app, wr_ne hka, toL_b1]; rfl
      rw [hh] at hfu
      rw [hh, nm_desc rfl rfl]
      have hd := data_rt (dok h2 hka k1 k2 (by omega)) (toL (hdV x) ++ UInt8.ofNat C.toNat :: rest)
      have hr := ih x (by omega) (by omega) h3 wx C rest fuel hC hC0 hC1 (by simp only [List.length_cons, List.length_append] at hfu; omega)
      have hl := leaf_rt h2 wa (by omega) k1 k2
      have e1 := u8I_of (show 0 ≤ codeOf [shV a] by omega) k5
      have hd' : dataL (u8I (UInt8.ofNat (codeOf [shV a]).toNat)) (toL (dataS (codeOf [shV a]) (shV a)) ++ toL (hdV x) ++ UInt8.ofNat C.toNat :: rest) = .ok (toL (dataS (codeOf [shV a]) (shV a)), toL (hdV x) ++ UInt8.ofNat C.toNat :: rest) := by rw [e1, List.append_assoc]; exact hd
      have key := consL_name (c := 0) rfl (by rw [e1, k3]; exact h4) hd' hr
      rw [e1, hl] at key
      exact key
    · rw [hd_ne hk, nm_ne hk, toL_e0, List.nil_append]
      have e1 := u8I_of (show 0 ≤ C by omega) hC1
      have key := consL_code (n := fuel) (c := UInt8.ofNat C.toNat) (r := rest) (by rw [e1]; omega) (by rw [e1]; exact hC)
      rw [e1] at key
      exact key
end Go.Bw.R1

/- Plain: what was encoded is decoded, whole values. -/
namespace Go.Bw.R1
set_option maxRecDepth 5000
open Go Go.Bw
theorem many_rt {step : List UInt8 → Except Int (Val × List UInt8)} (f : Val → List UInt8) : ∀ (l : List Val) (rest : List UInt8), (∀ x ∈ l, ∀ r, step (f x ++ r) = .ok (x, r)) → manyF step l.length (l.flatMap f ++ rest) = .ok (l, rest)
  | [], rest, _ => rfl
  | x :: l, rest, h => by
    have h1 := h x (by simp) (l.flatMap f ++ rest)
    have h2 := many_rt f l rest fun y hy => h y (by simp [hy])
    rw [List.flatMap_cons, List.append_assoc]
    simp only [List.length_cons, manyF, h1, h2]
mutual
theorem same_is : ∀ a b : Val, same a b = true → a = b
  | .mk k n t l, .mk k' n' t' l', h => by
    simp only [same, Bool.and_eq_true, beq_iff_eq, decide_eq_true_eq] at h
    obtain ⟨rfl, rfl, rfl, h⟩ := h
    rw [sameL_is l l' h]
theorem sameL_is : ∀ l m : List Val, sameL l m = true → l = m
  | [], [], _ => rfl
  | a :: l, b :: m, h => by
    simp only [sameL, Bool.and_eq_true] at h
    rw [same_is a b h.1, sameL_is l m h.2]
  | [], _ :: _, h => by simp [sameL] at h
  | _ :: _, [], h => by simp [sameL] at h
end
theorem catW_L : ∀ l : List Val, toL (catW (l.map encV)) = l.flatMap fun x => toL (wrV x)
  | [] => rfl
  | v :: l => by rw [List.map_cons, catW, toL_app, catW_L l, List.flatMap_cons]; rfl
theorem catD_L (C : Int) : ∀ l : List Val, toL (catD C (l.map shV)) = l.flatMap fun x => toL (dataS C (shV x))
  | [] => rfl
  | v :: l => by rw [List.map_cons, catD, toL_app, catD_L C l, List.flatMap_cons]
theorem alike_nm : ∀ (n : Nat) (a b : Val), alikeF n a b = true → mayS a = true → mayS b = true → nmV a = nmV b ∧ (bareV a).kind = (bareV b).kind
  | 0, _, _, h, _, _ => by simp [alikeF] at h
  | n + 1, a, b, h, ma, mb => by
    unfold alikeF at h
    by_cases ha : a.kind = 25
    · by_cases hb : b.kind = 25
      · obtain ⟨a0, a1, rfl, m1, m2, _⟩ := desc_parts ma ha
        obtain ⟨b0, b1, rfl, m3, m4, _⟩ := desc_parts mb hb
        rw [if_neg (by simp only [Val.kind_mk]; decide)] at h
        simp only [Val.kids_mk, Bool.and_eq_true] at h
        obtain ⟨i1, i2⟩ := alike_nm n a1 b1 h.2 m2 m4
        rw [nm_desc (v := .mk 25 0 e0 [a0, a1]) rfl rfl, nm_desc (v := .mk 25 0 e0 [b0, b1]) rfl rfl, bare_desc (v := .mk 25 0 e0 [a0, a1]) rfl rfl, bare_desc (v := .mk 25 0 e0 [b0, b1]) rfl rfl, i1, same_is _ _ h.1]
        exact ⟨rfl, i2⟩
      · rw [if_pos (by simp [hb])] at h
        simp only [beq_iff_eq] at h; omega
    · rw [if_pos (by simp [ha])] at h
      simp only [beq_iff_eq] at h
      rw [nm_ne ha, nm_ne (by omega : b.kind ≠ 25), bare_ne ha, bare_ne (by omega : b.kind ≠ 25)]
      exact ⟨rfl, h⟩
/-- a value is read: what it is, of its data -/
def RdOk (n : Nat) : Prop := ∀ v : Val, v.sz ≤ n → v.sz ≤ 40000000 → v.items ≤ 1024 → mayS v = true → v.wf → v.kind ≠ 25 → ∀ c ∈ codesOf v.kind, fitS c (shV v) = true → ∀ fuel, n ≤ fuel → readF fuel c (toL (dataS c (shV v))) = .ok v
/-- a value is read, with what it is called -/
def VlOk (n : Nat) : Prop := ∀ v : Val, v.sz ≤ n → v.sz ≤ 40000000 → v.items ≤ 1024 → mayS v = true → v.wf → ∀ fuel, n ≤ fuel → ∀ rest, valF (readF fuel) (toL (wrV v) ++ rest) = .ok (v, rest)
theorem bare_items : ∀ (n : Nat) (v : Val), v.sz ≤ n → mayS v = true → v.wf → (bareV v).items ≤ v.items ∧ (bareV v).wf
  | 0, .mk .., h, _, _ => by simp [Val.sz] at h
  | n + 1, v, hn, hm, hw => by
    by_cases hk : v.kind = 25
    · obtain ⟨a, x, rfl, h2, h3, _⟩ := desc_parts hm hk
      have hs : x.sz ≤ n := by rw [Val.sz_eq] at hn; simp only [Val.kids_mk, Val.szL] at hn; omega
      obtain ⟨i1, i2⟩ := bare_items n x hs h3 hw.2.2.1
      rw [bare_desc rfl rfl, Val.items_eq (.mk 25 0 e0 [a, x])]
      refine ⟨?_, i2⟩
      simp only [Val.kids_mk, Val.itemsL]; omega
    · rw [bare_ne hk]; exact ⟨Nat.le_refl _, hw⟩
theorem item_rt {n : Nat} (hr : RdOk n) {v : Val} {C : Int} (h1 : v.sz ≤ n) (h2 : v.sz ≤ 40000000) (hi : v.items ≤ 1024) (hm : mayS v = true) (hw : v.wf) (hc : C ∈ codesOf (bareV v).kind) (hf : fitS C (shV v) = true) {fuel : Nat} (hfu : n ≤ fuel) (rest : List UInt8) :
    itemF (readF fuel) (nmV v) C (toL (dataS C (shV v)) ++ rest) = .ok (v, rest) := by
  obtain ⟨q1, q2, q3, q4⟩ := sh_bare _ v (Nat.le_refl _) hm
  obtain ⟨b1, b2⟩ := bare_items _ v (Nat.le_refl _) hm hw
  rw [← q1] at hf ⊢
  have hd := data_rt (dok q3 q2 hc hf (by omega)) rest
  have hrd := hr (bareV v) (by omega) (by omega) (by omega) q3 b2 q2 C hc hf fuel hfu
  unfold itemF
  rw [hd]
  dsimp only
  rw [hrd]
  dsimp only
  rw [call_nm _ v (Nat.le_refl _) hm]
theorem val_rt {n : Nat} (hr : RdOk n) : VlOk n := by
  intro v h1 h2 hi hm hw fuel hfu rest
  obtain ⟨q1, q2, q3, q4⟩ := sh_bare _ v (Nat.le_refl _) hm
  obtain ⟨k1, k2⟩ := code1 q3 q2
  rw [q1] at k1 k2
  obtain ⟨k3, k4, k5⟩ := codes_kind _ (kind_in q3 q2) _ k1
  have e : toL (wrV v) ++ rest = toL (hdV v) ++ UInt8.ofNat (codeOf [shV v]).toNat :: (toL (dataS (codeOf [shV v]) (shV v)) ++ rest) := by
    unfold wrV Wd
    rw [toL_app, toL_app, toL_b1]; simp only [List.append_assoc, List.cons_append, List.nil_append]
  have hne : (bareV v).kind ≠ 0 := fun h => by have := kind_in q3 q2; rw [h] at this; exact absurd this (by decide)
  have hc := cons_rt _ v (Nat.le_refl _) h2 hm hw (codeOf [shV v]) (toL (dataS (codeOf [shV v]) (shV v)) ++ rest) ((toL (wrV v) ++ rest).length + 1) (by rw [k3]; exact hne) (by omega) k5 (by rw [e]; simp only [List.length_append]; omega)
  unfold valF
  rw [← e] at hc
  rw [hc]
  exact item_rt hr h1 h2 hi hm hw k1 k2 hfu rest
end Go.Bw.R1

/- Plain: what was encoded is decoded: every value. -/
namespace Go.Bw.R1
set_option maxRecDepth 5000
open Go Go.Bw
theorem kid_items {l : List Val} {x : Val} (h : x ∈ l) : x.items ≤ Val.itemsL l := by
  obtain ⟨a, b, rfl⟩ := List.append_of_mem h
  rw [itemsL_app]; simp only [Val.itemsL]; omega
theorem kids_items : ∀ l : List Val, l.length ≤ Val.itemsL l
  | [] => Nat.le_refl _
  | v :: l => by have := kids_items l; have := Val.items_eq v; simp only [Val.itemsL, List.length_cons]; omega
theorem nt_of {k n : Int} {t : ByteArray} (hn : numS k n = true) (ht : textS k t = true) (h : 22 ≤ k) : n = 0 ∧ t = e0 := by
  unfold numS at hn
  unfold textS at ht
  rw [if_neg (by simp; omega), if_neg (by simp; omega), if_neg (by simp; omega), if_neg (by simp; omega), if_neg (by simp; omega), if_neg (by simp; omega), if_neg (by simp; omega), if_neg (by simp; omega), if_neg (by simp; omega), if_neg (by simp; omega), if_neg (by simp; omega), if_neg (by simp; omega), if_neg (by simp; omega)] at hn
  rw [if_neg (by simp; omega), if_neg (by simp; omega), if_neg (by simp; omega), if_neg (by simp; omega), if_neg (by simp; omega), if_neg (by simp; omega), if_neg (by simp; omega)] at ht
  have : t = ⟨#[]⟩ := by simpa using ht
  exact ⟨by simpa using hn, this⟩
theorem readS_many {rd : Int → List UInt8 → Except Int Val} {c : Int} {w cnt : Nat} {x : ByteArray} {ins : ByteArray} {z : Int} (hc : 192 ≤ c) (hw : wideC c = w) (h1 : (toL (be w z)).length = w) (h2 : (toL (be w cnt)).length = w) (hb : beN (toL (be w cnt)) = cnt) :
    readS rd c (toL (be w z ++ (be w cnt ++ ins))) = bodyF rd c cnt (toL ins) := by
  unfold readS
  rw [if_neg (by omega), toL_app, hw, take_app h1]
  dsimp only
  rw [toL_app, take_app h2]
  dsimp only
  rw [hb]
theorem endF_nil (k : Int) (vs : List Val) : endF k (.ok (vs, [])) = .ok (.mk k 0 e0 vs) := rfl
theorem read_step {n : Nat} (hr : RdOk n) : RdOk (n + 1) := by
  have hv := val_rt hr
  intro v h1 h2 hi hm hw hk c hc hf fuel hfu
  obtain ⟨f, rfl⟩ : ∃ m, fuel = m + 1 := ⟨fuel - 1, by omega⟩
  rw [readF_succ]
  have hin := kind_in hm hk
  obtain ⟨k3, k4, k5⟩ := codes_kind _ hin c hc
  by_cases h22 : v.kind < 22
  · have hlt : ∀ k ∈ kindL, k < 22 → ∀ c ∈ codesOf k, c < 192 := by decide
    unfold readS
    rw [if_pos (hlt _ hin h22 c hc), leaf_rt hm hw h22 hc hf]
  have hmm := hm
  rw [mayS_eq] at hmm
  simp only [Bool.and_eq_true, decide_eq_true_eq] at hmm
  obtain ⟨⟨⟨hk1, hk2⟩, hml⟩, ⟨hn, ht⟩, hfam⟩ := hmm
  obtain ⟨e1, e2⟩ := nt_of hn ht (by omega)
  have hz := Val.sz_eq v
  have hit := Val.items_eq v
  have hlen := kids_items v.kids
  have hmk : ∀ x ∈ v.kids, mayS x = true := fun x hx => by rw [mayL_all, List.all_eq_true] at hml; exact hml x hx
  have hwf : Val.wfL v.kids := by obtain ⟨k, n, t, l⟩ := v; exact hw.2
  have hvv : Val.mk v.kind 0 e0 v.kids = v := by obtain ⟨k, n, t, l⟩ := v; simp only [Val.num_mk, Val.text_mk] at e1 e2; subst e1 e2; rfl
  have hkid : ∀ x ∈ v.kids, x.sz ≤ n ∧ x.sz ≤ 40000000 ∧ x.items ≤ 1024 ∧ mayS x = true ∧ x.wf := fun x hx => by
    have := szL_in hx; have := kid_items hx
    exact ⟨by omega, by omega, by omega, hmk x hx, wfL_mem hwf x hx⟩
  have hsh := sh_ne hk
  have many : v.kind ≠ 24 → bodyF (readF f) c v.kids.length (toL (insS v)) = .ok v := fun h24 => by
    unfold bodyF
    rw [if_neg (by omega), if_neg (by omega), show toL (insS v) = (v.kids.flatMap fun x => toL (wrV x)) ++ [] by unfold insS; rw [if_neg h24, catW_L, List.append_nil],
      many_rt (fun x => toL (wrV x)) v.kids [] (fun x hx r => by obtain ⟨a1, a2, a3, a4, a5⟩ := hkid x hx; exact hv x a1 a2 a3 a4 a5 f (by omega) r), k3]
    rw [endF_nil, hvv]
  have arr : v.kind = 24 → bodyF (readF f) c v.kids.length (toL (insS v)) = .ok v := fun h24 => by
    unfold bodyF
    rw [if_neg (by omega), if_pos (by omega)]
    unfold insS
    rw [if_pos h24]
    cases hkk : v.kids with
    | nil =>
      have : consL ((toL (arrS ([].map encV))).length + 1) (toL (arrS ([].map encV))) = .ok (([], 64), []) := by
        show consL 2 [UInt8.ofNat 64] = _
        exact consL_code (n := 1) (c := 64) (r := []) (by decide) (by decide)
      rw [this]
      dsimp only
      rw [k3, show manyF (itemF (readF f) [] 64) ([] : List Val).length [] = .ok ([], []) from rfl]
      rw [endF_nil, ← hkk, hvv]
    | cons v0 r =>
      have hv0 : v0 ∈ v.kids := by rw [hkk]; simp
      obtain ⟨a1, a2, a3, a4, a5⟩ := hkid v0 hv0
      obtain ⟨q1, q2, q3, q4⟩ := sh_bare _ v0 (Nat.le_refl _) a4
      have hfst : ((encV v0 :: r.map encV).map Prod.fst) = (v0 :: r).map shV := by rw [List.map_cons, List.map_cons, List.map_map]; rfl
      obtain ⟨c1, c2⟩ := codeOf_ok (ls := (v0 :: r).map shV) (k := (bareV v0).kind) (by rw [List.map_cons, List.headD_cons, ← q1, sh_ne q2]) (kind_in q3 q2)
      rw [h24] at hfam
      have halk : ∀ x ∈ v0 :: r, alike v0 x = true := by
        unfold famS at hfam
        rw [if_neg (by decide), if_neg (by decide), if_pos (by decide), hkk, List.all_eq_true] at hfam
        exact hfam
      have e : toL (arrS ((v0 :: r).map encV)) = toL (hdV v0) ++ UInt8.ofNat (codeOf ((v0 :: r).map shV)).toNat :: ((v0 :: r).flatMap fun x => toL (dataS (codeOf ((v0 :: r).map shV)) (shV x))) := by
        rw [List.map_cons]
        show toL ((encV v0).2 ++ b1 (codeOf ((encV v0 :: r.map encV).map Prod.fst)) ++ catD (codeOf ((encV v0 :: r.map encV).map Prod.fst)) ((encV v0 :: r.map encV).map Prod.fst)) = _
        rw [hfst, toL_app, toL_app, toL_b1, catD_L]
        simp only [List.append_assoc, List.cons_append, List.nil_append]; rfl
      obtain ⟨m3, m4, m5⟩ := codes_kind _ (kind_in q3 q2) _ c1
      have hne : (bareV v0).kind ≠ 0 := fun h => by have := kind_in q3 q2; rw [h] at this; exact absurd this (by decide)
      have hcons := cons_rt _ v0 (Nat.le_refl _) a2 a4 a5 (codeOf ((v0 :: r).map shV)) ((v0 :: r).flatMap fun x => toL (dataS (codeOf ((v0 :: r).map shV)) (shV x))) ((toL (arrS ((v0 :: r).map encV))).length + 1) (by rw [m3]; exact hne) (by omega) m5 (by rw [e]; simp only [List.length_append]; omega)
      rw [← e] at hcons
      rw [hcons]
      dsimp only
      have hmany := many_rt (step := itemF (readF f) (nmV v0) (codeOf ((v0 :: r).map shV))) (fun x => toL (dataS (codeOf ((v0 :: r).map shV)) (shV x))) (v0 :: r) [] (fun x hx rr => by
        obtain ⟨x1, x2, x3, x4, x5⟩ := hkid x (by rw [hkk]; exact hx)
        obtain ⟨n1, n2⟩ := alike_nm _ v0 x (halk x hx) a4 x4
        rw [n1]
        refine item_rt hr x1 x2 x3 x4 x5 (by rw [← n2]; exact c1) ?_ (by omega) rr
        rw [List.all_eq_true] at c2
        exact c2 _ (List.mem_map_of_mem hx))
      rw [List.append_nil] at hmany
      rw [hmany, k3]
      rw [endF_nil, ← hkk, hvv]
  have both : bodyF (readF f) c v.kids.length (toL (insS v)) = .ok v := by
    by_cases h24 : v.kind = 24
    · exact arr h24
    · exact many h24
  have hcs : c = 69 ∨ (c = 192 ∨ c = 193 ∨ c = 224) ∨ (c = 208 ∨ c = 209 ∨ c = 240) := by
    have : ∀ k ∈ kindL, ¬ k < 22 → ∀ c ∈ codesOf k, c = 69 ∨ (c = 192 ∨ c = 193 ∨ c = 224) ∨ (c = 208 ∨ c = 209 ∨ c = 240) := by decide
    exact this _ hin h22 c hc
  rw [hsh] at hf ⊢
  rcases hcs with h | h | h
  · subst h
    have hnil : v.kids = [] := by
      have : v.kids.length = 0 := by simpa [fitS] using hf
      exact List.length_eq_zero_iff.1 this
    unfold readS
    rw [if_pos (by decide)]
    have h22' : v.kind = 22 := by rw [← k3]; decide
    rw [← hvv, h22', hnil]; rfl
  · have hcnt : v.kids.length ≤ 255 := by rcases h with rfl | rfl | rfl <;> (simp [fitS] at hf; exact hf.1)
    rw [dataS_12 (by rcases h with rfl | rfl | rfl <;> decide)]
    rw [readS_many (x := e0) (by omega) (by rcases h with rfl | rfl | rfl <;> decide) (be1L _) (be1L _) (be1N _ hcnt)]
    exact both
  · rw [dataS_13 (by rcases h with rfl | rfl | rfl <;> decide)]
    rw [readS_many (x := e0) (by omega) (by rcases h with rfl | rfl | rfl <;> decide) (be4L _) (be4L _) (be4N _ (by show v.kids.length < _; omega))]
    exact both
theorem read_rt : ∀ n, RdOk n
  | 0 => fun v h => by have := Val.sz_eq v; omega
  | n + 1 => read_step (read_rt n)
/-- WHAT IS WRITTEN IS READ, whatever stands behind it -/
theorem wr_rt (v : Val) (hz : v.sz ≤ 40000000) (hr : rightS v = true) (hw : v.wf) (fuel : Nat) (hfu : v.sz ≤ fuel) (rest : List UInt8) : valF (readF fuel) (toL (wrV v) ++ rest) = .ok (v, rest) := by
  unfold rightS at hr
  simp only [Bool.and_eq_true, decide_eq_true_eq] at hr
  exact val_rt (read_rt v.sz) v (Nat.le_refl _) hz hr.1.2 hr.2 hw fuel hfu rest
end Go.Bw.R1

/- Plain: decode.Value, and what it makes of what was encoded. -/
namespace Go.Bw.R1
set_option maxRecDepth 5000
open Go Go.Bw
/-- THE THEOREM OF STAGE 6, plain: what encode tells of a value is decoded as it, with anything behind it -/
theorem dec_rt (v : Val) (hz : v.sz ≤ 40000000) (hr : rightS v = true) (hw : v.wf) (rest : List UInt8) : decS (toL (wrV v) ++ rest) = .ok (v, (wrV v).size) := by
  have h1 := head_of_val (wr_rt v hz hr hw v.sz (Nat.le_refl _) rest)
  have h2 := wr_rt v hz hr hw (v.sz + (wrV v).size) (by omega) []
  rw [List.append_nil, valF_fuel (v.sz + (wrV v).size) (wrV v).size (toL (wrV v)) (by rw [toL_len]; omega) (by rw [toL_len]; omega)] at h2
  have hn : (toL (wrV v) ++ rest).length - rest.length = (wrV v).size := by rw [List.length_append, toL_len]; omega
  unfold decS
  rw [h1]
  dsimp only
  rw [hn, List.take_left' (toL_len (wrV v)), h2]
  dsimp only
  rw [if_pos hr]
end Go.Bw.R1

/- Plain: a head hangs on its own bytes alone; cut, it is short. -/
namespace Go.Bw.R1
set_option maxRecDepth 5000
open Go Go.Bw
/-- cut anywhere, what was encoded is short -/
theorem dec_cut (v : Val) (hz : v.sz ≤ 40000000) (hr : rightS v = true) (hw : v.wf) (k : Nat) (hk : k < (wrV v).size) : decS ((toL (wrV v)).take k) = .error 7 := by
  have h1 := head_of_val (wr_rt v hz hr hw v.sz (Nat.le_refl _) [])
  rw [List.append_nil] at h1
  obtain ⟨p, p1, p2, p3, p4⟩ := headL_pre h1
  rw [List.append_nil] at p1
  unfold decS
  rw [p1, p4 k (by rw [← p1, toL_len]; exact hk)]
end Go.Bw.R1

/- Plain: first bytes. -/
namespace Go.Bw.R1
set_option maxRecDepth 5000
open Go Go.Bw
theorem right_leaf {k n : Int} {t : ByteArray} (h1 : 1 ≤ k) (h2 : k ≤ 21) (hn : numS k n = true) (ht : textS k t = true) : rightS (.mk k n t []) = true := by
  have hd : (Val.mk k n t []).depth = 1 := rfl
  have hi : (Val.mk k n t []).items = 1 := rfl
  have hf : famS k [] = true := by
    unfold famS
    have a : (k == 22) = false := by simp; omega
    have b : (k == 23) = false := by simp; omega
    have c : (k == 24) = false := by simp; omega
    have d : (k == 25) = false := by simp; omega
    rw [a, b, c, d]
    rfl
  unfold rightS
  rw [mayS_eq, hd, hi]
  simp only [Val.kind_mk, Val.num_mk, Val.text_mk, Val.kids_mk, hn, ht, hf]
  simp only [h1, show k ≤ 25 by omega, decide_true]
  rfl
theorem numS_3 (n : Int) : numS 3 n = decide (n < 256) := rfl
theorem numS_5 (n : Int) : numS 5 n = decide (n < 4294967296) := rfl
end Go.Bw.R1

/- Plain: messages. -/
namespace Go.Bw.R1
set_option maxRecDepth 5000
open Go Go.Bw
structure Msg where
  pri : Int
  ttl : Int
  cnt : Int
  id : ByteArray
  body : ByteArray
def idxB (t : ByteArray) : List ByteArray → Int → Int
  | [], _ => -1
  | x :: l, i => if x = t then i else idxB t l (i + 1)
/-- which section a value is; -1: none -/
def sectS (v : Val) : Int := if v.kind = 25 then (match v.kids with
  | x :: _ => if x.kind = 21 then idxB x.text nmT 0 else if x.num < 112 ∨ 120 < x.num then -1 else x.num - 112
  | [] => -1) else -1
def snd' (v : Val) : Val := match v.kids with | [_, x] => x | _ => v
def hdrS (m : Msg) (v : Val) : Option Msg := match newS v 112 nmB0 with
  | none => none
  | some l => if (numS' l 1 3 false 4).2 = false ∧ (numS' l 2 5 false 0).2 = false ∧ (numS' l 4 5 false 0).2 = false ∧ (numS' l 0 2 false 0).2 = false ∧ (numS' l 3 2 false 0).2 = false ∧ l.length ≤ 5 ∧ (numS' l 1 3 false 4).1 ≤ 9
    then some { m with pri := (numS' l 1 3 false 4).1, ttl := (numS' l 2 5 false 0).1, cnt := (numS' l 4 5 false 0).1 } else none
def idsL : List Int := [6, 15, 19, 20]
def prKinds : List (List Int) := [[19], [20], [20], [20], idsL, [21], [21], [14], [14], [20], [5], [20]]
def prBad (l : List Val) : Bool := (valS l 0 idsL).2 || (List.range 12).any fun i => (valS l (1 + i : Nat) (prKinds.getD i [])).2
def idOf (m : Msg) (l : List Val) : ByteArray := if (valS l 0 idsL).1.kind = 20 then (valS l 0 idsL).1.text else m.id
def prpS (m : Msg) (v : Val) : Option Msg := match newS v 115 nmB3 with
  | none => none
  | some l => if prBad l = false ∧ l.length ≤ 13 ∧ (idOf m l).size ≤ 64 then some { m with id := idOf m l } else none
/-- what a section tells -/
def takeS (m : Msg) (c : Int) (v : Val) : Option Msg :=
  if c = 0 then hdrS m v else if c = 3 then prpS m v else if c = 5 then (if (snd' v).kind = 19 then some { m with body := m.body ++ (snd' v).text } else none)
  else if c = 6 ∨ c = 7 then none else if (snd' v).kind = 23 then some m else none
def stepM (m : Msg) (last : Int) (v : Val) : Option Msg := if last < sectS v ∨ (sectS v = last ∧ sectS v = 5) then takeS m (sectS v) v else none
def getF : Nat → Msg → Int → Bool → List UInt8 → Option Msg
  | 0, _, _, _, _ => none
  | n + 1, m, last, bd, b => if b.isEmpty = true then (if bd = true ∧ m.body.size ≤ 2048 then some m else none) else match decS b with
    | .error _ => none
    | .ok (v, k) => match stepM m last v with
      | none => none
      | some m' => getF n m' (sectS v) (bd || (sectS v == 5)) (b.drop k)
def m0S : Msg := ⟨4, 0, 0, e0, e0⟩
def getM (b : List UInt8) : Option Msg := getF (b.length + 1) m0S (-1) false b
def hdrL (m : Msg) : List Val := [vN, if m.pri = 4 then vN else .mk 3 m.pri ⟨#[]⟩ [], if m.ttl = 0 then vN else .mk 5 m.ttl ⟨#[]⟩ [], vN, if m.cnt = 0 then vN else .mk 5 m.cnt ⟨#[]⟩ []]
def datV (b : ByteArray) : Val := .mk 25 0 ⟨#[]⟩ [.mk 6 117 ⟨#[]⟩ [], .mk 19 0 b []]
def hasH (m : Msg) : Bool := m.pri != 4 || m.ttl != 0 || m.cnt != 0
def secsS (m : Msg) : List Val := (if hasH m = true then [putS 112 (hdrL m)] else []) ++ (if m.id.size = 0 then [] else [putS 115 [.mk 20 0 m.id []]]) ++ [datV m.body]
def mayM (m : Msg) : Bool := decide (m.pri ≤ 9) && decide (m.id.size ≤ 64) && (charsA (bl m.id)).isSome && decide (m.body.size ≤ 2048)
def Msg.ok (m : Msg) : Prop := (0 ≤ m.pri ∧ m.pri < 256) ∧ (0 ≤ m.ttl ∧ m.ttl < 4294967296) ∧ (0 ≤ m.cnt ∧ m.cnt < 4294967296)
def bytesM (l : List Val) : List UInt8 := l.flatMap fun x => toL (wrV x)
theorem right_put' {code : Int} {l : List Val} (h1 : mayL (trimS l) = true) (h2 : Val.depthL (trimS l) ≤ 14) (h3 : Val.itemsL (trimS l) ≤ 1021) : rightS (putS code l) = true := by
  have hd : (putS code l).depth = max 1 (Val.depthL (trimS l) + 1) + 1 := by
    simp only [putS, Val.depth, Val.depthL]; omega
  have hi : (putS code l).items = Val.itemsL (trimS l) + 3 := by
    simp only [putS, Val.items, Val.itemsL]; omega
  rw [rightS, hd, hi, mayS_put, h1]
  simp only [Bool.and_true, Bool.and_eq_true, decide_eq_true_eq]
  omega
/-- one more section ahead -/
theorem getF_sec {n : Nat} {m m' : Msg} {last : Int} {bd : Bool} {v : Val} {r : List UInt8} (hz : v.sz ≤ 40000000) (hr : rightS v = true) (hw : v.wf) (hs : stepM m last v = some m') : getF (n + 1) m last bd (toL (wrV v) ++ r) = getF n m' (sectS v) (bd || (sectS v == 5)) r := by
  have hne : (toL (wrV v) ++ r).isEmpty = false := by
    have := wr_pos v
    cases h : toL (wrV v) with
    | nil => have h2 := toL_len (wrV v); rw [h] at h2; simp at h2; omega
    | cons x t => rfl
  show (if (toL (wrV v) ++ r).isEmpty = true then _ else _) = _
  rw [hne, if_neg (by decide), dec_rt v hz hr hw r]
  dsimp only
  rw [hs]
  dsimp only
  rw [List.drop_left' (toL_len (wrV v))]
end Go.Bw.R1

/- Plain: what Put told Get tells. -/
namespace Go.Bw.R1
set_option maxRecDepth 5000
open Go Go.Bw
theorem depth_le {l : List Val} (h : ∀ x ∈ l, x.depth ≤ 1) : Val.depthL l ≤ 1 := by
  induction l with
  | nil => simp [Val.depthL]
  | cons x l ih =>
    have h1 := h x (by simp)
    have h2 := ih fun y hy => h y (by simp [hy])
    simp only [Val.depthL]; omega
theorem items_le {l : List Val} (h : ∀ x ∈ l, x.items ≤ 1) : Val.itemsL l ≤ l.length := by
  induction l with
  | nil => simp [Val.itemsL]
  | cons x l ih =>
    have h1 := h x (by simp)
    have h2 := ih fun y hy => h y (by simp [hy])
    simp only [Val.itemsL, List.length_cons]; omega
theorem trim_mem {l : List Val} {x : Val} (h : x ∈ trimS l) : x ∈ l := by
  obtain ⟨n, _, h2, _⟩ := trimS_pre l
  rw [h2] at h
  exact List.mem_of_mem_take h
theorem trim_len (l : List Val) : (trimS l).length ≤ l.length := by
  obtain ⟨n, _, h2, _⟩ := trimS_pre l
  rw [h2, List.length_take]; omega
theorem leaf_di (k n : Int) (t : ByteArray) : (Val.mk k n t []).depth ≤ 1 ∧ (Val.mk k n t []).items ≤ 1 := ⟨Nat.le_refl _, Nat.le_refl _⟩
theorem right_flat {code : Int} {l : List Val} (h : ∀ x ∈ l, mayS x = true ∧ x.depth ≤ 1 ∧ x.items ≤ 1) (hl : l.length ≤ 1000) : rightS (putS code l) = true := by
  have ht : ∀ x ∈ trimS l, mayS x = true ∧ x.depth ≤ 1 ∧ x.items ≤ 1 := fun x hx => h x (trim_mem hx)
  refine right_put' ?_ ?_ ?_
  · rw [mayL_all, List.all_eq_true]; exact fun x hx => (ht x hx).1
  · have := depth_le fun x hx => (ht x hx).2.1
    omega
  · have h1 := items_le fun x hx => (ht x hx).2.2
    have h2 := trim_len l
    omega
theorem leaf_may {k n : Int} {t : ByteArray} (h1 : 1 ≤ k) (h2 : k ≤ 21) (hn : numS k n = true) (ht : textS k t = true) : mayS (.mk k n t []) = true := by
  have h := right_leaf (t := t) h1 h2 hn ht
  unfold rightS at h
  simp only [Bool.and_eq_true] at h
  exact h.2
theorem hdr_flat (m : Msg) (h : m.ok) : ∀ x ∈ hdrL m, mayS x = true ∧ x.depth ≤ 1 ∧ x.items ≤ 1 := by
  obtain ⟨⟨h1, h2⟩, ⟨h3, h4⟩, ⟨h5, h6⟩⟩ := h
  have hn : mayS vN = true ∧ vN.depth ≤ 1 ∧ vN.items ≤ 1 := ⟨by rfl, leaf_di _ _ _⟩
  intro x hx
  simp only [hdrL, List.mem_cons, List.not_mem_nil, or_false] at hx
  rcases hx with rfl | rfl | rfl | rfl | rfl
  · exact hn
  · split
    · exact hn
    · exact ⟨leaf_may (by decide) (by decide) (by rw [numS_3, decide_eq_true_eq]; omega) rfl, leaf_di _ _ _⟩
  · split
    · exact hn
    · exact ⟨leaf_may (by decide) (by decide) (by rw [numS_5, decide_eq_true_eq]; omega) rfl, leaf_di _ _ _⟩
  · exact hn
  · split
    · exact hn
    · exact ⟨leaf_may (by decide) (by decide) (by rw [numS_5, decide_eq_true_eq]; omega) rfl, leaf_di _ _ _⟩
theorem numT (l : List Val) (i k : Int) (b : Bool) (n : Int) : numS' (trimS l) i k b n = numS' l i k b n := by unfold numS'; rw [atS_trim]
theorem valT (l : List Val) (i : Int) (ks : List Int) : valS (trimS l) i ks = valS l i ks := by unfold valS; rw [atS_trim]
theorem num_of {l : List Val} {i k n : Int} {b : Bool} {x : Val} (h : atS l i = some x) (hk : x.kind = k) : numS' l i k b n = (x.num, false) := by unfold numS'; rw [h]; simp only; rw [if_pos hk]
theorem num_off {l : List Val} {i k n : Int} {b : Bool} (h : atS l i = none) : numS' l i k b n = (n, b) := by unfold numS'; rw [h]
theorem at_hdr (m : Msg) : atS (hdrL m) 0 = none ∧ atS (hdrL m) 3 = none ∧ atS (hdrL m) 1 = (if m.pri = 4 then none else some (.mk 3 m.pri ⟨#[]⟩ [])) ∧ atS (hdrL m) 2 = (if m.ttl = 0 then none else some (.mk 5 m.ttl ⟨#[]⟩ [])) ∧ atS (hdrL m) 4 = (if m.cnt = 0 then none else some (.mk 5 m.cnt ⟨#[]⟩ [])) := by
  refine ⟨rfl, rfl, ?_, ?_, ?_⟩
  all_goals
    show (if _ then none else _) = _
    rw [if_neg (by decide)]
    simp only [hdrL]
  · by_cases h : m.pri = 4
    · simp [h]; rfl
    · simp [h]; exact (by decide : ¬ (3 : Int) = 1)
  · by_cases h : m.ttl = 0
    · simp [h]; rfl
    · simp [h]; exact (by decide : ¬ (5 : Int) = 1)
  · by_cases h : m.cnt = 0
    · simp [h]; rfl
    · simp [h]; exact (by decide : ¬ (5 : Int) = 1)
theorem hdr_num (m : Msg) : numS' (hdrL m) 1 3 false 4 = (m.pri, false) ∧ numS' (hdrL m) 2 5 false 0 = (m.ttl, false) ∧ numS' (hdrL m) 4 5 false 0 = (m.cnt, false) ∧ numS' (hdrL m) 0 2 false 0 = (0, false) ∧ numS' (hdrL m) 3 2 false 0 = (0, false) := by
  obtain ⟨a0, a3, a1, a2, a4⟩ := at_hdr m
  refine ⟨?_, ?_, ?_, num_off a0, num_off a3⟩
  · by_cases h : m.pri = 4
    · rw [if_pos h] at a1; rw [num_off a1, h]
    · rw [if_neg h] at a1; exact num_of a1 rfl
  · by_cases h : m.ttl = 0
    · rw [if_pos h] at a2; rw [num_off a2, h]
    · rw [if_neg h] at a2; exact num_of a2 rfl
  · by_cases h : m.cnt = 0
    · rw [if_pos h] at a4; rw [num_off a4, h]
    · rw [if_neg h] at a4; exact num_of a4 rfl
theorem hdr_get (m m' : Msg) (h : m.ok) (hp : m.pri ≤ 9) : hdrS m' (putS 112 (hdrL m)) = some { m' with pri := m.pri, ttl := m.ttl, cnt := m.cnt } := by
  have hr := right_flat (code := 112) (hdr_flat m h) (by simp [hdrL])
  obtain ⟨n1, n2, n3, n4, n5⟩ := hdr_num m
  unfold hdrS
  rw [newS_putN hr]
  simp only [numT, n1, n2, n3, n4, n5]
  rw [if_pos ⟨trivial, trivial, trivial, trivial, trivial, Nat.le_trans (trim_len _) (by simp [hdrL]), hp⟩]
theorem sect_put (code : Int) (h : 112 ≤ code ∧ code ≤ 120) (l : List Val) : sectS (putS code l) = code - 112 := by
  show (if (25 : Int) = 25 then (if (6 : Int) = 21 then _ else if code < 112 ∨ 120 < code then -1 else code - 112) else -1) = _
  rw [if_pos rfl, if_neg (by decide), if_neg (by omega)]
theorem prp_flat {s : ByteArray} (h : (charsA (bl s)).isSome = true) : ∀ x ∈ [Val.mk 20 0 s []], mayS x = true ∧ x.depth ≤ 1 ∧ x.items ≤ 1 := by
  intro x hx
  rw [List.mem_singleton.1 hx]
  exact ⟨leaf_may (by decide) (by decide) rfl h, leaf_di _ _ _⟩
theorem prp_get (m' : Msg) {s : ByteArray} (h : (charsA (bl s)).isSome = true) (hs : s.size ≤ 64) : prpS m' (putS 115 [.mk 20 0 s []]) = some { m' with id := s } := by
  have hr := right_flat (code := 115) (prp_flat h) (by simp)
  have ha0 : atS [Val.mk 20 0 s []] 0 = some (.mk 20 0 s []) := rfl
  have hv0 : valS [Val.mk 20 0 s []] 0 idsL = (.mk 20 0 s [], false) := by
    unfold valS; rw [ha0]; rfl
  have hz : ∀ (i : Nat) (ks : List Int), valS [Val.mk 20 0 s []] (1 + i : Nat) ks = (vN, false) := fun i ks => by
    have : atS [Val.mk 20 0 s []] ((1 + i : Nat) : Int) = none := by
      unfold atS
      rw [if_neg (by omega), Int.toNat_natCast]
      rw [List.getElem?_eq_none (by simp)]
    unfold valS; rw [this]
  unfold prpS
  rw [newS_putN hr]
  dsimp only
  have hb : prBad (trimS [Val.mk 20 0 s []]) = false := by
    unfold prBad
    simp only [valT, hv0, hz]
    rfl
  have hi : idOf m' (trimS [Val.mk 20 0 s []]) = s := by
    unfold idOf
    simp only [valT, hv0, Val.kind_mk, Val.text_mk]
    rfl
  rw [hb, hi, if_pos ⟨rfl, Nat.le_trans (trim_len _) (by simp), hs⟩]
theorem dat_right (b : ByteArray) : rightS (datV b) = true := by rfl
theorem dat_sect (b : ByteArray) : sectS (datV b) = 5 := by rfl
theorem dat_wf (b : ByteArray) : (datV b).wf := ⟨by decide, ⟨by decide, trivial⟩, ⟨by decide, trivial⟩, trivial⟩
theorem dat_sz (b : ByteArray) : (datV b).sz = b.size + 3 := by
  have e : (datV b).sz = 0 + (0 + 0 + 1 + (b.size + 0 + 1 + 0)) + 1 := rfl
  rw [e]; omega
theorem dat_get (m : Msg) (b : ByteArray) : takeS m 5 (datV b) = some { m with body := m.body ++ b } := rfl
theorem hdrL_wf (m : Msg) (h : m.ok) : Val.wfL (hdrL m) := by
  obtain ⟨⟨h1, h2⟩, ⟨h3, h4⟩, ⟨h5, h6⟩⟩ := h
  have hn : vN.wf := ⟨by decide, trivial⟩
  refine ⟨hn, ?_, ?_, hn, ?_, trivial⟩
  all_goals
    split
    · exact hn
    · exact ⟨⟨by decide, by decide, by omega, by omega⟩, trivial⟩
theorem hdrL_sz (m : Msg) : Val.szL (hdrL m) ≤ 5 := by
  have hn : vN.sz = 1 := rfl
  have h1 : (if m.pri = 4 then vN else Val.mk 3 m.pri ⟨#[]⟩ []).sz = 1 := by split <;> rfl
  have h2 : (if m.ttl = 0 then vN else Val.mk 5 m.ttl ⟨#[]⟩ []).sz = 1 := by split <;> rfl
  have h3 : (if m.cnt = 0 then vN else Val.mk 5 m.cnt ⟨#[]⟩ []).sz = 1 := by split <;> rfl
  simp only [hdrL, Val.szL, hn, h1, h2, h3]; omega
theorem put_sz (code : Int) (l : List Val) : (putS code l).sz ≤ Val.szL l + 3 := by
  have := trimS_sz l
  have e : (putS code l).sz = 0 + (0 + 0 + 1 + (0 + Val.szL (trimS l) + 1 + 0)) + 1 := rfl
  rw [e]; omega
theorem getF_end {n : Nat} {m : Msg} {last : Int} (h : m.body.size ≤ 2048) : getF (n + 1) m last true [] = some m := by
  show (if ([] : List UInt8).isEmpty = true then _ else _) = _
  have e : ([] : List UInt8).isEmpty = true := rfl
  rw [if_pos e, if_pos ⟨rfl, h⟩]
/-- what Put told Get tells, with anything behind it -/
theorem get_put_r (m : Msg) (h : m.ok) (hm : mayM m = true) (r : List UInt8) : ∃ j, r.length ≤ j ∧ getM (bytesM (secsS m) ++ r) = getF (j + 1) m 5 true r := by
  unfold mayM at hm
  simp only [Bool.and_eq_true, decide_eq_true_eq] at hm
  obtain ⟨⟨⟨m1, m2⟩, m3⟩, m4⟩ := hm
  have hH := right_flat (code := 112) (hdr_flat m h) (by simp [hdrL])
  have zH : (putS 112 (hdrL m)).sz ≤ 40000000 := by have := put_sz 112 (hdrL m); have := hdrL_sz m; omega
  have wH := putS_wf 112 (by decide) (hdrL_wf m h)
  have zP : (putS 115 [.mk 20 0 m.id []]).sz ≤ 40000000 := by
    have := put_sz 115 [Val.mk 20 0 m.id []]
    have e : Val.szL [Val.mk 20 0 m.id []] = m.id.size + 0 + 1 + 0 := rfl
    omega
  have wP := putS_wf 115 (l := [.mk 20 0 m.id []]) (by decide) ⟨⟨by decide, trivial⟩, trivial⟩
  have hP := right_flat (code := 115) (prp_flat m3) (by simp)
  have dz : (datV m.body).sz ≤ 40000000 := by rw [dat_sz]; omega
  have p1 := wr_pos (putS 112 (hdrL m))
  have p2 := wr_pos (putS 115 [.mk 20 0 m.id []])
  have p3 := wr_pos (datV m.body)
  have fin : ∀ (k : Nat) (m' : Msg) (last : Int), last < 5 → m'.body = e0 → { m' with body := m.body } = m → getF (k + 1) m' last false (toL (wrV (datV m.body)) ++ r) = getF k m 5 true r := fun k m' last hl hb he => by
    have hs : stepM m' last (datV m.body) = some { m' with body := m.body } := by
      unfold stepM
      rw [dat_sect, if_pos (.inl hl), dat_get, hb, e0_app]
    rw [getF_sec (bd := false) dz (dat_right _) (dat_wf _) hs, he, dat_sect]
    rfl
  have hdr : ∀ (k : Nat) (q : List UInt8), hasH m = true → getF (k + 1) m0S (-1) false (toL (wrV (putS 112 (hdrL m))) ++ q) = getF k { m0S with pri := m.pri, ttl := m.ttl, cnt := m.cnt } 0 false q := fun k q _ => by
    have hs : stepM m0S (-1) (putS 112 (hdrL m)) = some { m0S with pri := m.pri, ttl := m.ttl, cnt := m.cnt } := by
      unfold stepM
      rw [sect_put 112 (by decide), if_pos (.inl (by decide))]
      exact hdr_get m m0S h m1
    rw [getF_sec zH hH wH hs, sect_put 112 (by decide)]
    rfl
  have prp : ∀ (k : Nat) (m' : Msg) (last : Int) (q : List UInt8), last < 3 → getF (k + 1) m' last false (toL (wrV (putS 115 [.mk 20 0 m.id []])) ++ q) = getF k { m' with id := m.id } 3 false q := fun k m' last q hl => by
    have hs : stepM m' last (putS 115 [.mk 20 0 m.id []]) = some { m' with id := m.id } := by
      unfold stepM
      rw [sect_put 115 (by decide), if_pos (.inl (by omega))]
      exact prp_get m' m3 m2
    rw [getF_sec zP hP wP hs, sect_put 115 (by decide)]
    rfl
  have nohdr : hasH m = false → m.pri = 4 ∧ m.ttl = 0 ∧ m.cnt = 0 := fun hh => by
    unfold hasH at hh
    simp only [Bool.or_eq_false_iff, bne_eq_false_iff_eq] at hh
    exact ⟨hh.1.1, hh.1.2, hh.2⟩
  unfold getM bytesM secsS
  cases hh : hasH m with
  | true =>
    by_cases hi : m.id.size = 0
    · rw [if_pos rfl, if_pos hi]
      simp only [List.append_nil, List.singleton_append, List.flatMap_cons, List.flatMap_nil, List.append_nil, List.append_assoc, List.length_append, toL_len]
      obtain ⟨k, hk, hr⟩ : ∃ k, (wrV (putS 112 (hdrL m))).size + ((wrV (datV m.body)).size + r.length) + 1 = k + 1 + 1 + 1 ∧ r.length ≤ k := ⟨(wrV (putS 112 (hdrL m))).size + ((wrV (datV m.body)).size + r.length) - 2, by omega, by omega⟩
      refine ⟨k, hr, ?_⟩
      rw [hk, hdr _ _ hh]
      exact fin (k + 1) _ _ (by decide) rfl (by cases m; simp only [Msg.mk.injEq, true_and]; exact ⟨(size0 hi).symm, trivial⟩)
    · rw [if_pos rfl, if_neg hi]
      simp only [List.singleton_append, List.cons_append, List.nil_append, List.flatMap_cons, List.flatMap_nil, List.append_nil, List.append_assoc, List.length_append, toL_len]
      obtain ⟨k, hk, hr⟩ : ∃ k, (wrV (putS 112 (hdrL m))).size + ((wrV (putS 115 [.mk 20 0 m.id []])).size + ((wrV (datV m.body)).size + r.length)) + 1 = k + 1 + 1 + 1 + 1 ∧ r.length ≤ k := ⟨(wrV (putS 112 (hdrL m))).size + ((wrV (putS 115 [.mk 20 0 m.id []])).size + ((wrV (datV m.body)).size + r.length)) - 3, by omega, by omega⟩
      refine ⟨k, hr, ?_⟩
      rw [hk, hdr _ _ hh, prp _ _ _ _ (by decide)]
      exact fin (k + 1) _ _ (by decide) rfl (by cases m; rfl)
  | false =>
    obtain ⟨a1, a2, a3⟩ := nohdr hh
    by_cases hi : m.id.size = 0
    · rw [if_neg (by decide), if_pos hi]
      simp only [List.append_nil, List.nil_append, List.flatMap_cons, List.flatMap_nil, List.append_nil, List.append_assoc, List.length_append, toL_len]
      obtain ⟨k, hk, hr⟩ : ∃ k, (wrV (datV m.body)).size + r.length + 1 = k + 1 + 1 ∧ r.length ≤ k := ⟨(wrV (datV m.body)).size + r.length - 1, by omega, by omega⟩
      refine ⟨k, hr, ?_⟩
      rw [hk]
      exact fin (k + 1) _ _ (by decide) rfl (by
        cases m
        simp only at a1 a2 a3
        subst a1 a2 a3
        simp only [m0S, Msg.mk.injEq, true_and]
        exact ⟨(size0 hi).symm, trivial⟩)
    · rw [if_neg (by decide), if_neg hi]
      simp only [List.nil_append, List.singleton_append, List.cons_append, List.flatMap_cons, List.flatMap_nil, List.append_nil, List.append_assoc, List.length_append, toL_len]
      obtain ⟨k, hk, hr⟩ : ∃ k, (wrV (putS 115 [.mk 20 0 m.id []])).size + ((wrV (datV m.body)).size + r.length) + 1 = k + 1 + 1 + 1 ∧ r.length ≤ k := ⟨(wrV (putS 115 [.mk 20 0 m.id []])).size + ((wrV (datV m.body)).size + r.length) - 2, by omega, by omega⟩
      refine ⟨k, hr, ?_⟩
      rw [hk, prp _ _ _ _ (by decide)]
      exact fin (k + 1) _ _ (by decide) rfl (by
        cases m
        simp only at a1 a2 a3
        subst a1 a2 a3
        rfl)
theorem may_body {m : Msg} (hm : mayM m = true) : m.body.size ≤ 2048 := by
  unfold mayM at hm
  simp only [Bool.and_eq_true, decide_eq_true_eq] at hm
  exact hm.2
/-- WHAT Put TOLD Get TELLS -/
theorem get_put (m : Msg) (h : m.ok) (hm : mayM m = true) : getM (bytesM (secsS m)) = some m := by
  obtain ⟨j, _, hj⟩ := get_put_r m h hm []
  rw [List.append_nil] at hj
  rw [hj, getF_end (may_body hm)]
/-- with what is no value behind it, it is none -/
theorem get_put_bad (m : Msg) (h : m.ok) (hm : mayM m = true) {r : List UInt8} (hr : r ≠ []) {e : Int} (he : decS r = .error e) : getM (bytesM (secsS m) ++ r) = none := by
  obtain ⟨j, _, hj⟩ := get_put_r m h hm r
  rw [hj]
  have hne : r.isEmpty = false := by cases r with | nil => exact absurd rfl hr | cons x t => rfl
  show (if r.isEmpty = true then _ else _) = _
  rw [hne, if_neg (by decide), he]
/-- cut ahead of its end, it is none -/
theorem getF_cut : ∀ (ss : List Val), (∀ v ∈ ss, v.sz ≤ 40000000 ∧ rightS v = true ∧ v.wf) → (∀ v ∈ ss.dropLast, sectS v ≠ 5) → ∀ (n : Nat) (m : Msg) (last : Int) (k : Nat), k < (bytesM ss).length → getF n m last false ((bytesM ss).take k) = none
  | [], _, _, _, _, _, k, hk => by simp [bytesM] at hk
  | v :: ss, hv, h5, 0, m, last, k, hk => rfl
  | v :: ss, hv, h5, n + 1, m, last, k, hk => by
    obtain ⟨v1, v2, v3⟩ := hv v (by simp)
    have hb : bytesM (v :: ss) = toL (wrV v) ++ bytesM ss := by unfold bytesM; rw [List.flatMap_cons]
    rw [hb] at hk ⊢
    by_cases h0 : k = 0
    · subst h0
      rw [List.take_zero]
      have e : ([] : List UInt8).isEmpty = true := rfl
      show (if ([] : List UInt8).isEmpty = true then _ else _) = _
      rw [if_pos e, if_neg (by simp)]
    · have p1 := wr_pos v
      have hl := toL_len (wrV v)
      have hne : (((toL (wrV v)) ++ bytesM ss).take k).isEmpty = false := by
        cases h : ((toL (wrV v)) ++ bytesM ss).take k with
        | nil =>
          have := congrArg List.length h
          rw [List.length_take, List.length_append, hl, List.length_nil] at this
          omega
        | cons x t => rfl
      show (if (((toL (wrV v)) ++ bytesM ss).take k).isEmpty = true then _ else _) = _
      rw [hne, if_neg (by decide)]
      by_cases hlt : k < (wrV v).size
      · have hle : k ≤ (toL (wrV v)).length := by omega
        rw [List.take_append_of_le_length hle, dec_cut v v1 v2 v3 k hlt]
      · have hle : (toL (wrV v)).length ≤ k := by omega
        rw [List.take_append, List.take_of_length_le hle, dec_rt v v1 v2 v3]
        dsimp only
        cases hs : stepM m last v with
        | none => rfl
        | some m' =>
          dsimp only
          rw [List.drop_left' hl]
          have hss : ss ≠ [] := by
            rintro rfl
            rw [List.length_append, hl] at hk
            simp [bytesM] at hk; omega
          have h5v : sectS v ≠ 5 := h5 v (by
            rw [List.dropLast_cons_of_ne_nil hss]; simp)
          have e5 : (false || (sectS v == 5)) = false := by simpa using h5v
          rw [e5]
          exact getF_cut ss (fun w hw => hv w (by simp [hw])) (fun w hw => h5 w (by rw [List.dropLast_cons_of_ne_nil hss]; simp [hw])) n m' _ _ (by rw [List.length_append, hl] at hk; omega)
end Go.Bw.R1

/- Plain: what Get tells may be. -/
namespace Go.Bw.R1
set_option maxRecDepth 5000
open Go Go.Bw
theorem num_in {l : List Val} {i k n : Int} (h : (numS' l i k false n).2 = false) : (numS' l i k false n).1 = n ∨ ∃ x ∈ l, x.kind = k ∧ (numS' l i k false n).1 = x.num := by
  unfold numS' at h ⊢
  cases ha : atS l i with
  | none => exact .inl rfl
  | some x =>
    rw [ha] at h
    dsimp only at h ⊢
    by_cases hk : x.kind = k
    · rw [if_pos hk]
      exact .inr ⟨x, List.mem_of_getElem? (atS_len ha).2.2.1, hk, rfl⟩
    · rw [if_neg hk]; exact .inl rfl
theorem may_num {x : Val} (h : mayS x = true) : numS x.kind x.num = true ∧ textS x.kind x.text = true := by
  rw [mayS_eq] at h
  simp only [Bool.and_eq_true] at h
  exact ⟨h.2.1.1, h.2.1.2⟩
theorem num_rng {l : List Val} (hm : mayL l = true) (hw : Val.wfL l) {i n : Int} {B : Int} {k : Int} (hB : ∀ n, numS k n = true → n < B) (h0 : 0 ≤ n ∧ n < B) (h : (numS' l i k false n).2 = false) : 0 ≤ (numS' l i k false n).1 ∧ (numS' l i k false n).1 < B := by
  rcases num_in h with h | ⟨x, hx, hk, he⟩
  · rw [h]; exact h0
  · rw [he]
    rw [mayL_all, List.all_eq_true] at hm
    have h1 := (may_num (hm x hx)).1
    rw [hk] at h1
    exact ⟨(wfL_mem hw x hx).num, hB _ h1⟩
end Go.Bw.R1

/- Plain: more of messages: data in pieces; sections in any order. -/
namespace Go.Bw.R1
set_option maxRecDepth 5000
open Go Go.Bw
def joinB : List ByteArray → ByteArray
  | [] => e0
  | b :: l => b ++ joinB l
theorem ba_e0 (b : ByteArray) : b ++ e0 = b := ByteArray.append_empty
theorem getF_nil {n : Nat} {m : Msg} {last : Int} {bd : Bool} : getF (n + 1) m last bd [] = if bd = true ∧ m.body.size ≤ 2048 then some m else none := by
  have e : ([] : List UInt8).isEmpty = true := rfl
  show (if ([] : List UInt8).isEmpty = true then _ else _) = _
  rw [if_pos e]
/-- data in pieces -/
theorem getF_dats : ∀ (ps : List ByteArray) (k : Nat) (m : Msg) (last : Int) (bd : Bool), last ≤ 5 → (∀ p ∈ ps, p.size ≤ 30000000) → getF (ps.length + k + 1) m last bd (bytesM (ps.map datV)) = if (bd = true ∨ ps ≠ []) ∧ (m.body ++ joinB ps).size ≤ 2048 then some { m with body := m.body ++ joinB ps } else none
  | [], k, m, last, bd, hl, hp => by
    show getF (0 + k + 1) m last bd [] = _
    rw [Nat.zero_add, getF_nil]
    simp only [joinB, ba_e0, ne_eq, not_true_eq_false, or_false]
  | p :: ps, k, m, last, bd, hl, hp => by
    have hs : stepM m last (datV p) = some { m with body := m.body ++ p } := by
      unfold stepM
      rw [dat_sect, if_pos (by omega), dat_get]
    have hb : bytesM ((p :: ps).map datV) = toL (wrV (datV p)) ++ bytesM (ps.map datV) := by unfold bytesM; rw [List.map_cons, List.flatMap_cons]
    have h1 := getF_sec (n := ps.length + k + 1) (bd := bd) (r := bytesM (ps.map datV)) (by rw [dat_sz]; have := hp p (by simp); omega) (dat_right p) (dat_wf p) hs
    rw [hb, List.length_cons, show ps.length + 1 + k + 1 = ps.length + k + 1 + 1 by omega, h1, dat_sect]
    rw [getF_dats ps k _ 5 _ (by omega) (fun q hq => hp q (by simp [hq]))]
    simp only [joinB, ByteArray.append_assoc]
    simp
/-- what is told by a code, and what it has -/
def secV (k : Int) (x : Val) : Val := .mk 25 0 ⟨#[]⟩ [.mk 6 (112 + k) ⟨#[]⟩ [], x]
theorem sect_sec (k : Int) (h : 0 ≤ k) (x : Val) : sectS (secV k x) = if k ≤ 8 then k else -1 := by
  show (if (25 : Int) = 25 then (if (6 : Int) = 21 then _ else if 112 + k < 112 ∨ 120 < 112 + k then -1 else 112 + k - 112) else -1) = _
  rw [if_pos rfl, if_neg (by decide)]
  by_cases h8 : k ≤ 8
  · rw [if_neg (by omega), if_pos h8]; omega
  · rw [if_pos (by omega), if_neg h8]
def xvS (k : Int) (body : ByteArray) : Val := if k = 0 ∨ k = 3 ∨ k = 6 then .mk 22 0 ⟨#[]⟩ [] else if k = 5 then .mk 19 0 body [] else .mk 23 0 ⟨#[]⟩ []
def fineK (k last : Int) : Bool := !(k == 6 || k == 7 || k == 9) && (decide (last < k) || (k == 5 && last == 5))
def plainM (b : ByteArray) : Msg := ⟨4, 0, 0, e0, b⟩
theorem new_sec {k code : Int} {x : Val} {name : ByteArray} (hr : rightS (secV k x) = true) (hc : code = 112 + k) : newS (secV k x) code name = if x.kind = 22 then some x.kids else none := by
  unfold newS
  rw [if_pos ⟨hr, rfl⟩]
  have e : calledS (Val.mk 6 (112 + k) ⟨#[]⟩ []) code name = true := by simp [calledS, Val.kind_mk, Val.num_mk, hc]
  show (if x.kind = 22 ∧ calledS (Val.mk 6 (112 + k) ⟨#[]⟩ []) code name = true then some x.kids else none) = _
  rw [e]
  by_cases h : x.kind = 22
  · rw [if_pos ⟨h, rfl⟩, if_pos h]
  · rw [if_neg (fun hh => h hh.1), if_neg h]
theorem at_empty (i : Int) : atS [] i = none := by
  unfold atS
  split
  · rfl
  · simp
theorem hdr_empty (m : Msg) {x : Val} (hr : rightS (secV 0 x) = true) : hdrS m (secV 0 x) = if x.kind = 22 then (if x.kids = [] then some { m with pri := 4, ttl := 0, cnt := 0 } else hdrS m (secV 0 x)) else none := by
  by_cases h : x.kind = 22
  · rw [if_pos h]
    by_cases hk : x.kids = []
    · rw [if_pos hk]
      unfold hdrS
      rw [new_sec (code := 112) hr rfl, if_pos h, hk]
      have n : ∀ i k n, numS' [] i k false n = (n, false) := fun i k n => num_off (at_empty i)
      simp only [n]
      rfl
    · rw [if_neg hk]
  · rw [if_neg h]
    unfold hdrS
    rw [new_sec (code := 112) hr rfl, if_neg h]
theorem prp_empty (m : Msg) (hm : m.id.size ≤ 64) {x : Val} (hr : rightS (secV 3 x) = true) : prpS m (secV 3 x) = if x.kind = 22 then (if x.kids = [] then some m else prpS m (secV 3 x)) else none := by
  by_cases h : x.kind = 22
  · rw [if_pos h]
    by_cases hk : x.kids = []
    · rw [if_pos hk]
      unfold prpS
      rw [new_sec (code := 115) hr rfl, if_pos h, hk]
      have n : ∀ i ks, valS [] i ks = (vN, false) := fun i ks => by unfold valS; rw [at_empty]
      have hb : prBad [] = false := by
        unfold prBad
        simp only [n]
        rfl
      have hi : idOf m [] = m.id := by
        unfold idOf
        simp only [n]
        rfl
      dsimp only
      rw [hb, hi, if_pos ⟨rfl, Nat.zero_le _, hm⟩]
    · rw [if_neg hk]
  · rw [if_neg h]
    unfold prpS
    rw [new_sec (code := 115) hr rfl, if_neg h]
theorem sec_right {k : Int} {x : Val} (h : mayS x = true) (hd : x.depth ≤ 14) (hi : x.items ≤ 1000) : rightS (secV k x) = true := by
  have e1 : (secV k x).depth = max 1 x.depth + 1 := by
    simp only [secV, Val.depth, Val.depthL]; omega
  have e2 : (secV k x).items = x.items + 2 := by
    simp only [secV, Val.items, Val.itemsL]; omega
  have e3 : mayS (secV k x) = mayS x := by
    simp only [secV, mayS, mayL]
    show (true && ((true && true && (true && true && true)) && (mayS x && true)) && (true && true && true)) = mayS x
    simp
  rw [rightS, e1, e2, e3, h]
  simp only [Bool.and_true, Bool.and_eq_true, decide_eq_true_eq]
  omega
theorem ord_right (k : Int) (body : ByteArray) : rightS (secV k (xvS k body)) = true := by
  unfold xvS
  split
  · exact sec_right rfl (by decide) (by decide)
  · split
    · exact sec_right (leaf_may (by decide) (by decide) rfl rfl) (Nat.le_trans (leaf_di _ _ _).1 (by decide)) (Nat.le_trans (leaf_di _ _ _).2 (by decide))
    · exact sec_right rfl (by decide) (by decide)
theorem num_right (k : Int) : rightS (secV k (.mk 5 0 ⟨#[]⟩ [])) = true := sec_right rfl (by decide) (by decide)
theorem sect8 (k : Int) (h0 : 0 ≤ k) (h8 : k ≤ 8) (x : Val) : sectS (secV k x) = k := by rw [sect_sec k h0, if_pos h8]
theorem sect9 (x : Val) : sectS (secV 9 x) = -1 := by rw [sect_sec 9 (by decide), if_neg (by decide)]
theorem take0 (m : Msg) (v : Val) : takeS m 0 v = hdrS m v := rfl
theorem take3 (m : Msg) (v : Val) : takeS m 3 v = prpS m v := rfl
theorem step_ord {k last : Int} (h0 : 0 ≤ k) (h9 : k ≤ 9) (hl : -1 ≤ last) (B body : ByteArray) : stepM (plainM B) last (secV k (xvS k body)) = if fineK k last = true then some (plainM (if k = 5 then B ++ body else B)) else none := by
  have hr := ord_right k body
  have hk : k = 0 ∨ k = 1 ∨ k = 2 ∨ k = 3 ∨ k = 4 ∨ k = 5 ∨ k = 6 ∨ k = 7 ∨ k = 8 ∨ k = 9 := by omega
  have hsmall : ∀ c : Int, (c = 0 ∨ c = 1 ∨ c = 2 ∨ c = 3 ∨ c = 4 ∨ c = 8) → (fineK c last = true ↔ last < c) := fun c hc => by
    unfold fineK
    simp only [Bool.and_eq_true, Bool.not_eq_true', Bool.or_eq_false_iff, beq_eq_false_iff_ne, Bool.or_eq_true, decide_eq_true_eq, beq_iff_eq]
    omega
  rcases hk with rfl | rfl | rfl | rfl | rfl | rfl | rfl | rfl | rfl | rfl
  · unfold stepM
    rw [sect8 0 (by decide) (by decide)]
    by_cases hf : last < 0
    · rw [if_pos (.inl hf), if_pos ((hsmall 0 (by decide)).2 hf)]
      rw [take0, hdr_empty _ hr, if_pos (show (xvS 0 body).kind = 22 from rfl), if_pos (show (xvS 0 body).kids = [] from rfl)]; rfl
    · rw [if_neg (by omega), if_neg (fun h => hf ((hsmall 0 (by decide)).1 h))]
  · unfold stepM
    rw [sect8 1 (by decide) (by decide)]
    by_cases hf : last < 1
    · rw [if_pos (.inl hf), if_pos ((hsmall 1 (by decide)).2 hf)]; rfl
    · rw [if_neg (by omega), if_neg (fun h => hf ((hsmall 1 (by decide)).1 h))]
  · unfold stepM
    rw [sect8 2 (by decide) (by decide)]
    by_cases hf : last < 2
    · rw [if_pos (.inl hf), if_pos ((hsmall 2 (by decide)).2 hf)]; rfl
    · rw [if_neg (by omega), if_neg (fun h => hf ((hsmall 2 (by decide)).1 h))]
  · unfold stepM
    rw [sect8 3 (by decide) (by decide)]
    by_cases hf : last < 3
    · rw [if_pos (.inl hf), if_pos ((hsmall 3 (by decide)).2 hf)]
      rw [take3, prp_empty _ (show (plainM B).id.size ≤ 64 from (by show (0 : Nat) ≤ 64; omega)) hr, if_pos (show (xvS 3 body).kind = 22 from rfl), if_pos (show (xvS 3 body).kids = [] from rfl)]; rfl
    · rw [if_neg (by omega), if_neg (fun h => hf ((hsmall 3 (by decide)).1 h))]
  · unfold stepM
    rw [sect8 4 (by decide) (by decide)]
    by_cases hf : last < 4
    · rw [if_pos (.inl hf), if_pos ((hsmall 4 (by decide)).2 hf)]; rfl
    · rw [if_neg (by omega), if_neg (fun h => hf ((hsmall 4 (by decide)).1 h))]
  · unfold stepM
    rw [sect8 5 (by decide) (by decide)]
    have h5 : fineK 5 last = true ↔ last ≤ 5 := by
      have e : fineK 5 last = (decide (last < 5) || (last == 5)) := rfl
      rw [e, Bool.or_eq_true, decide_eq_true_eq, beq_iff_eq]
      omega
    by_cases hf : last ≤ 5
    · have h1 : last < 5 ∨ ((5 : Int) = last ∧ (5 : Int) = 5) := by omega
      rw [if_pos h1, if_pos (h5.2 hf)]; rfl
    · have h1 : ¬ (last < 5 ∨ ((5 : Int) = last ∧ (5 : Int) = 5)) := by omega
      rw [if_neg h1, if_neg (fun h => hf (h5.1 h))]
  · have hn : ¬ fineK 6 last = true := by unfold fineK; simp
    unfold stepM
    rw [sect8 6 (by decide) (by decide), if_neg hn]
    split <;> rfl
  · have hn : ¬ fineK 7 last = true := by unfold fineK; simp
    unfold stepM
    rw [sect8 7 (by decide) (by decide), if_neg hn]
    split <;> rfl
  · unfold stepM
    rw [sect8 8 (by decide) (by decide)]
    by_cases hf : last < 8
    · rw [if_pos (.inl hf), if_pos ((hsmall 8 (by decide)).2 hf)]; rfl
    · rw [if_neg (by omega), if_neg (fun h => hf ((hsmall 8 (by decide)).1 h))]
  · have hn : ¬ fineK 9 last = true := by unfold fineK; simp
    unfold stepM
    rw [sect9, if_neg hn, if_neg (by omega)]
theorem step_num {k last : Int} (h0 : 0 ≤ k) (h9 : k ≤ 9) (h5 : k ≠ 5) (hl : -1 ≤ last) (m : Msg) (hm : m.id.size ≤ 64) : stepM m last (secV k (.mk 5 0 ⟨#[]⟩ [])) = none := by
  have hr := num_right k
  have hk : k = 0 ∨ k = 1 ∨ k = 2 ∨ k = 3 ∨ k = 4 ∨ k = 6 ∨ k = 7 ∨ k = 8 ∨ k = 9 := by omega
  rcases hk with rfl | rfl | rfl | rfl | rfl | rfl | rfl | rfl | rfl
  · unfold stepM
    rw [sect8 0 (by decide) (by decide)]
    split
    · rw [take0, hdr_empty _ hr, if_neg (by decide)]
    · rfl
  · unfold stepM; rw [sect8 1 (by decide) (by decide)]; split <;> rfl
  · unfold stepM; rw [sect8 2 (by decide) (by decide)]; split <;> rfl
  · unfold stepM
    rw [sect8 3 (by decide) (by decide)]
    split
    · rw [take3, prp_empty _ hm hr, if_neg (by decide)]
    · rfl
  · unfold stepM; rw [sect8 4 (by decide) (by decide)]; split <;> rfl
  · unfold stepM; rw [sect8 6 (by decide) (by decide)]; split <;> rfl
  · unfold stepM; rw [sect8 7 (by decide) (by decide)]; split <;> rfl
  · unfold stepM; rw [sect8 8 (by decide) (by decide)]; split <;> rfl
  · unfold stepM
    rw [sect9, if_neg (by omega)]
end Go.Bw.R1

/- Plain: sections in any order, all of them. -/
namespace Go.Bw.R1
set_option maxRecDepth 5000
open Go Go.Bw
def ordS : List Int → Int → Bool
  | [], _ => true
  | k :: r, last => fineK k last && ordS r k
def lastS : List Int → Int → Int
  | [], l => l
  | k :: r, _ => lastS r k
def wholeS (body : ByteArray) : List Int → ByteArray
  | [] => e0
  | k :: r => (if k = 5 then body else e0) ++ wholeS body r
theorem wholeS_app (body : ByteArray) : ∀ a b, wholeS body (a ++ b) = wholeS body a ++ wholeS body b
  | [], b => by simp only [List.nil_append, wholeS]; exact (e0_app _).symm
  | k :: a, b => by simp only [List.cons_append, wholeS, wholeS_app body a b, ByteArray.append_assoc]
theorem ordS_app : ∀ (a b : List Int) (last : Int), ordS (a ++ b) last = (ordS a last && ordS b (lastS a last))
  | [], b, last => by simp [ordS, lastS]
  | k :: a, b, last => by
    simp only [List.cons_append, ordS, ordS_app a b k, Bool.and_assoc, lastS]
def okK (k : Int) : Prop := 0 ≤ k ∧ k ≤ 9
theorem sec_wf {k : Int} (h : okK k) {x : Val} (hx : x.wf) : (secV k x).wf := ⟨by decide, ⟨⟨by decide, by decide, by have := h.1; omega, by have := h.2; omega⟩, trivial⟩, hx, trivial⟩
theorem xv_wf (k : Int) (body : ByteArray) : (xvS k body).wf := by
  unfold xvS
  split
  · exact ⟨by decide, trivial⟩
  · split <;> exact ⟨by decide, trivial⟩
theorem sec_sz (k : Int) (x : Val) : (secV k x).sz = x.sz + 2 := by
  have e : (secV k x).sz = 0 + (0 + 0 + 1 + (x.sz + 0)) + 1 := rfl
  rw [e]; omega
theorem xv_sz (k : Int) (body : ByteArray) : (xvS k body).sz ≤ body.size + 1 := by
  unfold xvS
  split
  · show 0 + 0 + 1 ≤ _; omega
  · split
    · show body.size + 0 + 1 ≤ _; omega
    · show 0 + 0 + 1 ≤ _; omega
/-- sections in any order; behind them what follows -/
theorem getF_ord (body : ByteArray) (hb : body.size ≤ 1000000) : ∀ (ks : List Int) (n : Nat) (last : Int) (bd : Bool) (B : ByteArray) (r : List UInt8), (∀ k ∈ ks, okK k) → -1 ≤ last →
    getF (ks.length + n) (plainM B) last bd (bytesM (ks.map fun k => secV k (xvS k body)) ++ r) = if ordS ks last = true then getF n (plainM (B ++ wholeS body ks)) (lastS ks last) (bd || ks.any (· == 5)) r else none
  | [], n, last, bd, B, r, _, _ => by
    simp only [List.length_nil, Nat.zero_add, List.map_nil, bytesM, List.flatMap_nil, List.nil_append, ordS, wholeS, if_true, List.any_nil, Bool.or_false, lastS]
    rw [ba_e0]
  | k :: ks, n, last, bd, B, r, hk, hl => by
    obtain ⟨k0, k9⟩ := hk k (by simp)
    have hs := step_ord k0 k9 hl B body
    have e : bytesM ((k :: ks).map fun k => secV k (xvS k body)) ++ r = toL (wrV (secV k (xvS k body))) ++ (bytesM (ks.map fun k => secV k (xvS k body)) ++ r) := by
      unfold bytesM; rw [List.map_cons, List.flatMap_cons, List.append_assoc]
    rw [e, List.length_cons, show ks.length + 1 + n = ks.length + n + 1 by omega]
    have hz : (secV k (xvS k body)).sz ≤ 40000000 := by rw [sec_sz]; have := xv_sz k body; omega
    cases hf : fineK k last with
    | false =>
      rw [hf, if_neg (by decide)] at hs
      have hne : (toL (wrV (secV k (xvS k body))) ++ (bytesM (ks.map fun k => secV k (xvS k body)) ++ r)).isEmpty = false := by
        have := wr_pos (secV k (xvS k body))
        cases h : toL (wrV (secV k (xvS k body))) with
        | nil => have h2 := toL_len (wrV (secV k (xvS k body))); rw [h] at h2; simp at h2; omega
        | cons x t => rfl
      have : getF (ks.length + n + 1) (plainM B) last bd (toL (wrV (secV k (xvS k body))) ++ (bytesM (ks.map fun k => secV k (xvS k body)) ++ r)) = none := by
        show (if (toL (wrV (secV k (xvS k body))) ++ (bytesM (ks.map fun k => secV k (xvS k body)) ++ r)).isEmpty = true then _ else _) = _
        rw [hne, if_neg (by decide), dec_rt _ hz (ord_right k body) (sec_wf ⟨k0, k9⟩ (xv_wf k body))]
        dsimp only
        rw [hs]
      rw [this]
      simp only [ordS, hf, Bool.false_and, Bool.false_eq_true, if_false]
    | true =>
      rw [hf, if_pos rfl] at hs
      rw [getF_sec hz (ord_right k body) (sec_wf ⟨k0, k9⟩ (xv_wf k body)) hs]
      have h8 : k ≤ 8 := by
        rcases (show k ≤ 8 ∨ k = 9 by omega) with h | h
        · exact h
        · subst h; unfold fineK at hf; simp at hf
      rw [sect8 k k0 h8]
      rw [getF_ord body hb ks n k _ _ r (fun q hq => hk q (by simp [hq])) (by omega)]
      simp only [ordS, hf, Bool.true_and, wholeS, List.any_cons, lastS]
      rw [← ByteArray.append_assoc, Bool.or_assoc]
      have e5 : (if k = 5 then B ++ body else B) = B ++ (if k = 5 then body else e0) := by
        split
        · rfl
        · exact (ba_e0 B).symm
      rw [e5]
/-- behind sections, one that is none -/
theorem getF_bad {n : Nat} {m : Msg} {last : Int} {bd : Bool} {v : Val} {r : List UInt8} (hz : v.sz ≤ 40000000) (hr : rightS v = true) (hw : v.wf) (hs : stepM m last v = none) : getF (n + 1) m last bd (toL (wrV v) ++ r) = none := by
  have hne : (toL (wrV v) ++ r).isEmpty = false := by
    have := wr_pos v
    cases h : toL (wrV v) with
    | nil => have h2 := toL_len (wrV v); rw [h] at h2; simp at h2; omega
    | cons x t => rfl
  show (if (toL (wrV v) ++ r).isEmpty = true then _ else _) = _
  rw [hne, if_neg (by decide), dec_rt v hz hr hw r]
  dsimp only
  rw [hs]
end Go.Bw.R1

/- Plain: a header and properties with all their fields. -/
namespace Go.Bw.R1
set_option maxRecDepth 5000
open Go Go.Bw
end Go.Bw.R1

/- Messages: what is known of calls, once more; sections. -/
namespace Go.Bw.R1
set_option maxRecDepth 5000
open Go Go.Bw Go.Proofs
def own3 (f : FuncId) : Bool := ([3, 4, 5, 6, 7, 8, 9, 11] ++ [18, 44, 67, 68]).contains f
noncomputable def X3 : Orc := fun f ds es => if own3 f = true then none else EW f ds es
noncomputable abbrev EM : Orc := ev Tryz.prog gl0 An1 [44, 67, 68] X3
theorem soundX3 (hm : Tryz.prog.follows .mixedOrders = true) : SoundO Tryz.prog gl0 X3 := by
  intro f ds es r ts h
  have hEW := ev_sound (P := Tryz.prog) (GL := gl0) (nc := []) an1_its (soundX2 hm) hm
  unfold X3 at h
  split at h
  · cases h
  · exact hEW f ds es r ts h
theorem em_of {f : FuncId} {ds : List D} {es : Sto} {r : R × Sto} (hf : own3 f = false) (h : EW f ds es = some r) : EM f ds es = some r := by
  refine ev_x ?_
  unfold X3
  rw [if_neg (by rw [hf]; decide)]
  exact h
theorem em_ev {f : FuncId} {ds : List D} {es : Sto} {r : R × Sto} (hf : own3 f = false) (hf2 : (own2 f || f == 54) = false) (h : EV f ds es = some r) : EM f ds es = some r := em_of hf (ew_of hf2 h)
theorem pa_names : paOf Tryz.prog 89 = some 9 := by kernel_rfl
theorem names_len : namesL.length = 9 := nr rfl
theorem names_one : namesL.all D.one = true := rfl
theorem names_refs : D.refsL namesL = [] := nr rfl
theorem names_can : D.canL namesL = namesL := nr rfl
attribute [go_sem] names_len names_refs names_can
theorem idxB_lt (t : ByteArray) : ∀ (l : List ByteArray) (i : Int), 0 ≤ i → -1 ≤ idxB t l i ∧ idxB t l i < i + l.length
  | [], i, h => by simp only [idxB, List.length_nil]; omega
  | x :: l, i, h => by
    unfold idxB
    split
    · simp only [List.length_cons]; omega
    · have := idxB_lt t l (i + 1) (by omega)
      simp only [List.length_cons]; omega
set_option maxHeartbeats 1000000 in
theorem indexS_c (t : ByteArray) : EV 66 [.ro false namesL, .sc (.string t)] [] = some (.ret (I (idxB t nmT 0)), []) := by
  refine (ev_body ⟨[], [(0, [0, 1, 7, 8])], [], false, [], noIt⟩ [.tmp 4] rfl Tryz.func66 rfl rfl rfl (by kernel_rfl) (by show 2 ≤ 19; decide) (by kernel_rfl)).trans ?_
  simp +contextual (maxSteps := 10000000) only [go_sem]
  refine lpK_inv (fun m0 f es => ∃ (i : Nat) (j : Int), j = i ∧ i + m0 = 9 ∧ idxB t nmT 0 = idxB t (nmT.drop i) j ∧ f = [(0, .ro false namesL), (1, .sc (.string t)), (7, I 9), (8, I j)] ∧ es = []) 9 ⟨0, 0, rfl, by omega, rfl, rfl, rfl⟩ ?_
  rintro m0 _ _ ⟨i, j, hj, hi, hd, rfl, rfl⟩ ih
  have hl9 : nmT.length = 9 := rfl
  rcases Nat.lt_or_ge i 9 with hlt | hge
  · obtain ⟨x, hx⟩ := get_lt (l := nmT) (i := i) hlt
    have hlt' : decide (j < 9) = true := decide_eq_true (by omega)
    have g1 : namesL[j.toNat]? = some (.sc (.string x)) := by rw [show j.toNat = i by omega]; unfold namesL; rw [List.getElem?_map, hx]; rfl
    obtain ⟨p1, q1⟩ := List.getElem?_eq_some_iff.1 hx
    rw [List.drop_eq_getElem_cons p1, q1, idxB] at hd
    simp +contextual (maxSteps := 10000000) only [go_sem, hlt', g1, show 0 ≤ j by omega, show j < 9 by omega, wrap_i64 (n := j + 1) (by omega) (by omega)]
    by_cases h : x = t
    · rw [if_pos h] at hd
      have ht : decide (t = x) = true := decide_eq_true h.symm
      simp +contextual (maxSteps := 10000000) only [go_sem, ht, hd]
    · rw [if_neg h] at hd
      have ht : decide (t = x) = false := decide_eq_false (fun e => h e.symm)
      simp +contextual (maxSteps := 10000000) only [go_sem, ht]
      exact ih (m0-1) _ _ (by omega) ⟨i+1, _, by omega, by omega, hd, rfl, rfl⟩
  · have hlt' : decide (j < 9) = false := decide_eq_false (by omega)
    rw [List.drop_eq_nil_of_le (by omega), idxB] at hd
    simp +contextual (maxSteps := 10000000) only [go_sem, hlt', hd]
set_option maxHeartbeats 2000000 in
theorem section_c (v : Val) (hr : rightS v = true) (hw : v.wf) : EV 43 [v.d] [] = some (.ret (I (sectS v)), []) := by
  refine (ev_body ⟨[1], [], [(5, [(0, 0, false), (1, 0, false), (2, 0, false), (3, 0, false), (4, 0, false)])], false, [], noIt⟩ [.tmp 2] rfl Tryz.func43 rfl rfl rfl (by kernel_rfl) (by show 1 ≤ 30; decide) (by kernel_rfl)).trans ?_
  unfold sectS
  by_cases hk : v.kind = 25
  · obtain ⟨d, x, hkk, _, _⟩ := may_desc (right_may hr) hk
    rw [if_pos hk, hkk]
    dsimp only
    have e0 : (v.kind != 25) = false := by simpa using hk
    have hd0 : (v.kids.map Val.d)[0]? = some d.d := by rw [hkk]; rfl
    have hi := indexS_c d.text
    have hwk := hw.kids
    rw [hkk] at hwk
    have n0 := hwk.1.num
    have n1 := hwk.1.numU
    by_cases h21 : d.kind = 21
    · rw [if_pos h21]
      have e1 : (d.kind == 21) = true := by simpa using h21
      simp +contextual (maxSteps := 10000000) only [go_sem, e0, hd0, e1, hi, pa_names, names_one, gl0, show (9:Nat) ≤ 140737488355328 by decide]
    · rw [if_neg h21]
      have e1 : (d.kind == 21) = false := by simpa using h21
      by_cases ha : d.num < 112
      · have g1 : decide (d.num < 112) = true := decide_eq_true ha
        rw [if_pos (.inl ha)]
        simp +contextual (maxSteps := 10000000) only [go_sem, e0, hd0, e1, g1]
      · have g1 : decide (d.num < 112) = false := decide_eq_false ha
        by_cases hb : 120 < d.num
        · have g2 : decide (120 < d.num) = true := decide_eq_true hb
          rw [if_pos (.inr hb)]
          simp +contextual (maxSteps := 10000000) only [go_sem, e0, hd0, e1, g1, g2]
        · have g2 : decide (120 < d.num) = false := decide_eq_false hb
          rw [if_neg (by omega)]
          simp +contextual (maxSteps := 10000000) only [go_sem, e0, hd0, e1, g1, g2, fit_u64 (n := d.num - 112) (by omega) (by omega), wrap_i64 (n := d.num - 112) (by omega) (by omega)]
  · rw [if_neg hk]
    have e0 : (v.kind != 25) = true := by simpa using hk
    simp +contextual (maxSteps := 10000000) only [go_sem, e0]
end Go.Bw.R1
