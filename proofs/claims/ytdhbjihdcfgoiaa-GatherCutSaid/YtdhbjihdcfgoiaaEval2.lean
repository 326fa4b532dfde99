/- The evaluator, and that it is sound. -/
import Derived.Test.YtdhbjihdcfgoiaaEval1
set_option linter.unusedSimpArgs false
set_option linter.unusedVariables false
/- The evaluator, part 17: bytes read as a text. -/
namespace Go.Bw
open Go
section
variable {P : Program} {S : St} {es : Sto} {src dst : TypeId}
theorem cv_nilstr (h1 : isBytes P src = true) (h2 : isStr P dst = true) : convD P S src dst .nils = some (.sc (.string ⟨#[]⟩), S) := by
  obtain ⟨e, q1, q2⟩ := isBytes_spec h1
  simp only [convD, toStrD, q1, h2, isU8, q2, and_self, if_true, sliceCells]
  rfl
theorem cv_ro0 {ex : Bool} (h1 : isBytes P src = true) (h2 : isStr P dst = true) : convD P S src dst (.ro ex []) = some (.sc (.string ⟨#[]⟩), S) :=
  cv_str (s := ⟨#[]⟩) h1 h2
theorem cv_ref {id v : Nat} {s : ByteArray} (h1 : isBytes P src = true) (h2 : isStr P dst = true) (h : rowOf es id = some ⟨v, bytesD s⟩) : convD P (stL es) src dst (.ref id v 1 0 s.size) = some (.sc (.string s), stL es) := by
  obtain ⟨e, q1, q2⟩ := isBytes_spec h1
  obtain ⟨l, p1, p2⟩ := strOf_bytesD s
  have hr : (stL es).tab id = some ⟨v, bytesD s⟩ := h
  simp only [convD, toStrD, q1, h2, isU8, q2, and_self, if_true, sliceCells, hr, bytesD_len, Nat.mul_one, Nat.zero_add, Nat.le_refl, List.drop_zero]
  rw [List.take_of_length_le (by rw [bytesD_len]; exact Nat.le_refl _), p1]
  simp only [Option.map_some, p2, bytesD_len, if_true]
theorem cv_refn {id v n : Nat} {s : ByteArray} (hn : n = s.size) (h1 : isBytes P src = true) (h2 : isStr P dst = true) (h : rowOf es id = some ⟨v, bytesD s⟩) : convD P (stL es) src dst (.ref id v 1 0 n) = some (.sc (.string s), stL es) := by
  subst hn; exact cv_ref h1 h2 h
end
attribute [go_sem] cv_nilstr cv_ro0 cv_ref
end Go.Bw

/- The evaluator, part 18: bytes that are all nought. -/
namespace Go.Bw
open Go
def zs (n : Nat) : ByteArray := ⟨Array.replicate n 0⟩
theorem zs_size (n : Nat) : (zs n).size = n := by simp [zs, ByteArray.size]
theorem zs_app (a b : Nat) : zs a ++ zs b = zs (a + b) := by
  apply ByteArray.ext
  rw [ByteArray.data_append]; simp [zs]
theorem zs_zero : zs 0 = ⟨#[]⟩ := rfl
theorem rep_zs (n : Nat) : repD [.sc (.int .u8 0)] n = bytesD (zs n) := by
  have : ∀ k, repD [D.sc (.int .u8 0)] k = List.replicate k (.sc (.int .u8 0)) := fun k => by
    induction k with
    | zero => rfl
    | succ k ih => simp [repD, ih, List.replicate_succ]
  rw [this]
  simp [bytesD, zs]
theorem fsE_bytesn {es : Sto} {F : Nat → Bool} {n i v len : Nat} {s : ByteArray} (h : s.size = len) : fsE es F n i v 1 0 len true (some ⟨v, bytesD s⟩) = .ro false (bytesD s) := by
  subst h; exact fsE_bytes
theorem mk_bytes {P : Program} {es : Sto} {t t2 : TypeId} {n : Nat} (hb : ByteSlX P t t2) (hn : n ≤ 140737488355328) : makeSliceD P (stL es) t (.sc (.int .i64 n)) (.sc (.int .i64 n)) = some (.ref es.length 0 1 0 n, stL (es ++ [some ⟨0, bytesD (zs n)⟩])) := by
  obtain ⟨e, hb⟩ := hb
  simp only [makeSliceD, hb.el, hb.ze, hb.by1, List.length_cons, List.length_nil, Int.toNat_natCast, rep_zs, stL_next, stL_new]
  rw [if_pos ⟨trivial, by omega, by omega, by omega, by omega, by omega⟩]
attribute [go_sem] zs_size zs_app rep_zs fsE_bytesn
theorem frzL_eq (acc : List Nat) (l : Fr) (es : Sto) : frzL acc l es = (l.map (fun x => (x.1, frzN es (hasB acc) 20 x.2)), frzSto es (hasB acc) 20) := nr rfl
theorem hasB_eq (acc : List Nat) (i : Nat) : hasB acc i = acc.contains i := nr (by unfold hasB; first | rfl | simp)
attribute [go_sem] frzL_eq hasB_eq
end Go.Bw

/- The evaluator, part 19: orders, once more. -/
namespace Go.Bw
open Go
theorem drF_cons {ins : Bool} {es e0 : Sto} {L : List Sto} {g : Sto → Option (R × Sto)} {d : D} (h : g e0 = some (.ret d, e0)) : drF ins es (e0 :: L) g (some (.ret d, es)) = drF ins es L g (some (.ret d, es)) := by
  have e : (∀ e1 ∈ e0 :: L, g e1 = some (.ret d, e1)) ↔ ∀ e1 ∈ L, g e1 = some (.ret d, e1) := by
    constructor
    · exact fun hh e1 he => hh e1 (List.mem_cons_of_mem _ he)
    · intro hh e1 he
      rcases List.mem_cons.1 he with rfl | he
      · exact h
      · exact hh e1 he
  simp only [drF]
  by_cases hh : ∀ e1 ∈ L, g e1 = some (.ret d, e1)
  · have h2 := e.2 hh
    rw [if_pos ⟨rfl, .inr h2⟩, if_pos ⟨rfl, .inr hh⟩]
  · cases ins
    · rw [if_neg, if_neg]
      · rintro ⟨_, h1 | h1⟩
        · cases h1
        · exact hh h1
      · rintro ⟨_, h1 | h1⟩
        · cases h1
        · exact hh (e.1 h1)
    · rw [if_pos ⟨rfl, .inl rfl⟩, if_pos ⟨rfl, .inl rfl⟩]
attribute [go_sem] drF_cons
end Go.Bw

/- The evaluator, part 20: slices of slices; bytes behind bytes that stand in a row. -/
namespace Go.Bw
open Go
theorem ren_ro' {ρ : Nat → Nat → Nat × Nat} (ex : Bool) (l : List D) : (D.ro ex l).ren ρ = .ro ex (D.renL ρ l) := nr (by simp only [D.ren])
theorem app_src {P : Program} {es : Sto} {t1 t2 : TypeId} (hb : ByteSlX P t1 t2) {x : D} {id v : Nat} {s : ByteArray} (h : rowOf es id = some ⟨v, bytesD s⟩) : appM P es #[t1, t2] [x, .ref id v 1 0 s.size] = appM P es #[t1, t2] [x, .ro false (bytesD s)] := by
  obtain ⟨e, hb⟩ := hb
  have hr : (stL es).tab id = some ⟨v, bytesD s⟩ := h
  have e1 : newCells P (stL es) (some t2) [.sc (.int .u8 0)] (.ref id v 1 0 s.size) = newCells P (stL es) (some t2) [.sc (.int .u8 0)] (.ro false (bytesD s)) := by
    simp only [newCells, hb.ii, hb.un, sliceCells, hr, bytesD_cells, bytesD_len, Nat.mul_one, Nat.zero_add, Nat.le_refl, and_self, if_true, List.drop_zero]
    rw [List.take_of_length_le (by rw [bytesD_len]; exact Nat.le_refl _)]
  rw [appM_two, appM_two]
  simp only [appendD, List.getElem?_toArray, List.getElem?_cons_zero, List.getElem?_cons_succ, hb.el, hb.ze, e1]
attribute [go_sem] ren_ro'
attribute [go_sem high] app_src
end Go.Bw

/- The evaluator, part 21: bits of numbers. -/
namespace Go.Bw
open Go
theorem ofInt_nat {w n : Nat} (h : n < 2 ^ w) : (BitVec.ofInt w (n : Int)).toNat = n := by
  rw [BitVec.toNat_ofInt]
  have : ((n : Int) % ((2 ^ w : Nat) : Int)) = ((n % 2 ^ w : Nat) : Int) := by push_cast; rfl
  rw [this, Nat.mod_eq_of_lt h]; rfl
theorem bits_and {w : Nat} {x m : Int} {k : Nat} (hm : m = (2 ^ k : Nat) - 1) (h0 : 0 ≤ x) (h1 : x < (2 ^ w : Nat)) (hk : k ≤ w) : ((BitVec.ofInt w x &&& BitVec.ofInt w m).toNat : Int) = x % (2 ^ k : Nat) := by
  subst hm
  obtain ⟨n, rfl⟩ := Int.eq_ofNat_of_zero_le h0
  have hn : n < 2 ^ w := by exact_mod_cast h1
  have hp : 0 < 2 ^ k := Nat.two_pow_pos k
  have e : ((2 ^ k : Nat) - 1 : Int) = ((2 ^ k - 1 : Nat) : Int) := by omega
  have hlt : 2 ^ k - 1 < 2 ^ w := by have := Nat.pow_le_pow_right (n := 2) (by omega) hk; omega
  rw [e, BitVec.toNat_and, ofInt_nat hn, ofInt_nat hlt, Nat.and_two_pow_sub_one_eq_mod]
  push_cast; rfl
theorem bits_or {w : Nat} {x y : Int} {k : Nat} (h0 : 0 ≤ x) (h1 : x * (2 ^ k : Nat) + y < (2 ^ w : Nat)) (y0 : 0 ≤ y) (y1 : y < (2 ^ k : Nat)) : ((BitVec.ofInt w (x * (2 ^ k : Nat)) ||| BitVec.ofInt w y).toNat : Int) = x * (2 ^ k : Nat) + y := by
  obtain ⟨n, rfl⟩ := Int.eq_ofNat_of_zero_le h0
  obtain ⟨m, rfl⟩ := Int.eq_ofNat_of_zero_le y0
  have hm : m < 2 ^ k := by exact_mod_cast y1
  have hs : n * 2 ^ k + m < 2 ^ w := by exact_mod_cast h1
  have e : ((n : Int) * (2 ^ k : Nat)) = ((n * 2 ^ k : Nat) : Int) := by push_cast; rfl
  rw [e, BitVec.toNat_or, ofInt_nat (by omega), ofInt_nat (by omega)]
  have := Nat.two_pow_add_eq_or_of_lt hm n
  rw [Nat.mul_comm n (2 ^ k), ← this]
  push_cast; rfl
/-- and, or, of two numbers of a kind -/
def andB (k : IntKind) (a b : Int) : Int := k.wrap (BitVec.ofInt k.bits a &&& BitVec.ofInt k.bits b).toNat
def orB (k : IntKind) (a b : Int) : Int := k.wrap (BitVec.ofInt k.bits a ||| BitVec.ofInt k.bits b).toNat
section
variable {P : Program} {t : TypeId} {xo yo : Operand} {k : IntKind} {a b : Int}
theorem bin_andB : binD P .and t xo yo (.sc (.int k a)) (.sc (.int k b)) = some (.sc (.int k (andB k a b))) := by cases k <;> rfl
theorem bin_orB : binD P .or t xo yo (.sc (.int k a)) (.sc (.int k b)) = some (.sc (.int k (orB k a b))) := by cases k <;> rfl
end
attribute [go_sem high] bin_andB bin_orB
theorem mod_le {x : Int} {m : Nat} (hp : 0 < m) (h0 : 0 ≤ x) : 0 ≤ x % (m : Int) ∧ x % (m : Int) ≤ x := by
  obtain ⟨n, rfl⟩ := Int.eq_ofNat_of_zero_le h0
  have : ((n : Int) % (m : Int)) = ((n % m : Nat) : Int) := by push_cast; rfl
  rw [this]
  have := Nat.mod_le n m
  omega
theorem and_u8 {x m : Int} (j : Nat) (hm : m = (2 ^ j : Nat) - 1) (hj : j ≤ 8) (h0 : 0 ≤ x) (h1 : x < 256) : andB .u8 x m = x % (2 ^ j : Nat) := by
  have e : ((BitVec.ofInt IntKind.u8.bits x &&& BitVec.ofInt IntKind.u8.bits m).toNat : Int) = x % (2 ^ j : Nat) := bits_and (w := 8) hm h0 (by simpa using h1) hj
  unfold andB
  have := mod_le (Nat.two_pow_pos j) h0
  rw [e, fit_u8 this.1 (by omega)]
theorem and_u32 {x m : Int} (j : Nat) (hm : m = (2 ^ j : Nat) - 1) (hj : j ≤ 32) (h0 : 0 ≤ x) (h1 : x < 4294967296) : andB .u32 x m = x % (2 ^ j : Nat) := by
  have e : ((BitVec.ofInt IntKind.u32.bits x &&& BitVec.ofInt IntKind.u32.bits m).toNat : Int) = x % (2 ^ j : Nat) := bits_and (w := 32) hm h0 (by simpa using h1) hj
  unfold andB
  have := mod_le (Nat.two_pow_pos j) h0
  rw [e, fit_u32 this.1 (by omega)]
theorem or_u32 {x y z : Int} (j : Nat) (hz : z = x * (2 ^ j : Nat)) (h0 : 0 ≤ x) (h1 : x * (2 ^ j : Nat) + y < 4294967296) (y0 : 0 ≤ y) (y1 : y < (2 ^ j : Nat)) : orB .u32 z y = z + y := by
  subst hz
  have e : ((BitVec.ofInt IntKind.u32.bits (x * (2 ^ j : Nat)) ||| BitVec.ofInt IntKind.u32.bits y).toNat : Int) = x * (2 ^ j : Nat) + y := bits_or (w := 32) h0 (by simpa using h1) y0 y1
  unfold orB
  have := Int.mul_nonneg h0 (Int.natCast_nonneg (2 ^ j))
  rw [e, fit_u32 (by omega) (by omega)]
end Go.Bw
