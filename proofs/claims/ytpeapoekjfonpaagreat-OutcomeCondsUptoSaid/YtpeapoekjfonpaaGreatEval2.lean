/- The evaluator, and that it is sound. -/
import Derived.Test.YtpeapoekjfonpaaGreatEval1
set_option linter.unusedSimpArgs false
set_option linter.unusedVariables false
/- The evaluator, part 17: bytes read as a text. -/
namespace Go.Bw
open Go
section
variable {P : Program} {S : St} {es : Sto} {src dst : TypeId}
theorem cv_nilstr (h1 : isBytes P src = true) (h2 : isStr P dst = true) : convD P S src dst .nils = some (.sc (.string ⟨#[]⟩), S) := by
  obtain ⟨e, q1, q2⟩ := isBytes_spec h1
  simp only [convD, toStrD, q1, h2, isU8, q2, and_self, if_true, sliceCells]
  rfl
theorem cv_ro0 {ex : Bool} (h1 : isBytes P src = true) (h2 : isStr P dst = true) : convD P S src dst (.ro ex []) = some (.sc (.string ⟨#[]⟩), S) :=
  cv_str (s := ⟨#[]⟩) h1 h2
theorem cv_ref {id v : Nat} {s : ByteArray} (h1 : isBytes P src = true) (h2 : isStr P dst = true) (h : rowOf es id = some ⟨v, bytesD s⟩) : convD P (stL es) src dst (.ref id v 1 0 s.size) = some (.sc (.string s), stL es) := by
  obtain ⟨e, q1, q2⟩ := isBytes_spec h1
  obtain ⟨l, p1, p2⟩ := strOf_bytesD s
  have hr : (stL es).tab id = some ⟨v, bytesD s⟩ := h
  simp only [convD, toStrD, q1, h2, isU8, q2, and_self, if_true, sliceCells, hr, bytesD_len, Nat.mul_one, Nat.zero_add, Nat.le_refl, List.drop_zero]
  rw [List.take_of_length_le (by rw [bytesD_len]; exact Nat.le_refl _), p1]
  simp only [Option.map_some, p2, bytesD_len, if_true]
theorem cv_refn {id v n : Nat} {s : ByteArray} (hn : n = s.size) (h1 : isBytes P src = true) (h2 : isStr P dst = true) (h : rowOf es id = some ⟨v, bytesD s⟩) : convD P (stL es) src dst (.ref id v 1 0 n) = some (.sc (.string s), stL es) := by
  subst hn; exact cv_ref h1 h2 h
end
attribute [go_sem] cv_nilstr cv_ro0 cv_ref
end Go.Bw

/- The evaluator, part 18: bytes that are all nought. -/
namespace Go.Bw
open Go
def zs (n : Nat) : ByteArray := ⟨Array.replicate n 0⟩
theorem zs_size (n : Nat) : (zs n).size = n := by simp [zs, ByteArray.size]
theorem zs_app (a b : Nat) : zs a ++ zs b = zs (a + b) := by
  apply ByteArray.ext
  rw [ByteArray.data_append]; simp [zs]
theorem zs_zero : zs 0 = ⟨#[]⟩ := rfl
theorem rep_zs (n : Nat) : repD [.sc (.int .u8 0)] n = bytesD (zs n) := by
  have : ∀ k, repD [D.sc (.int .u8 0)] k = List.replicate k (.sc (.int .u8 0)) := fun k => by
    induction k with
    | zero => rfl
    | succ k ih => simp [repD, ih, List.replicate_succ]
  rw [this]
  simp [bytesD, zs]
theorem fsE_bytesn {es : Sto} {F : Nat → Bool} {n i v len : Nat} {s : ByteArray} (h : s.size = len) : fsE es F n i v 1 0 len true (some ⟨v, bytesD s⟩) = .ro false (bytesD s) := by
  subst h; exact fsE_bytes
theorem mk_bytes {P : Program} {es : Sto} {t t2 : TypeId} {n : Nat} (hb : ByteSlX P t t2) (hn : n ≤ 140737488355328) : makeSliceD P (stL es) t (.sc (.int .i64 n)) (.sc (.int .i64 n)) = some (.ref es.length 0 1 0 n, stL (es ++ [some ⟨0, bytesD (zs n)⟩])) := by
  obtain ⟨e, hb⟩ := hb
  simp only [makeSliceD, hb.el, hb.ze, hb.by1, List.length_cons, List.length_nil, Int.toNat_natCast, rep_zs, stL_next, stL_new]
  rw [if_pos ⟨trivial, by omega, by omega, by omega, by omega, by omega⟩]
attribute [go_sem] zs_size zs_app rep_zs fsE_bytesn
theorem frzL_eq (acc : List Nat) (l : Fr) (es : Sto) : frzL acc l es = (l.map (fun x => (x.1, frzN es (hasB acc) 20 x.2)), frzSto es (hasB acc) 20) := nr rfl
theorem hasB_eq (acc : List Nat) (i : Nat) : hasB acc i = acc.contains i := nr (by unfold hasB; first | rfl | simp)
attribute [go_sem] frzL_eq hasB_eq
end Go.Bw

/- The evaluator, part 19: orders, once more. -/
namespace Go.Bw
open Go
theorem drF_cons {ins : Bool} {es e0 : Sto} {L : List Sto} {g : Sto → Option (R × Sto)} {d : D} (h : g e0 = some (.ret d, e0)) : drF ins es (e0 :: L) g (some (.ret d, es)) = drF ins es L g (some (.ret d, es)) := by
  have e : (∀ e1 ∈ e0 :: L, g e1 = some (.ret d, e1)) ↔ ∀ e1 ∈ L, g e1 = some (.ret d, e1) := by
    constructor
    · exact fun hh e1 he => hh e1 (List.mem_cons_of_mem _ he)
    · intro hh e1 he
      rcases List.mem_cons.1 he with rfl | he
      · exact h
      · exact hh e1 he
  simp only [drF]
  by_cases hh : ∀ e1 ∈ L, g e1 = some (.ret d, e1)
  · have h2 := e.2 hh
    rw [if_pos ⟨rfl, .inr h2⟩, if_pos ⟨rfl, .inr hh⟩]
  · cases ins
    · rw [if_neg, if_neg]
      · rintro ⟨_, h1 | h1⟩
        · cases h1
        · exact hh h1
      · rintro ⟨_, h1 | h1⟩
        · cases h1
        · exact hh (e.1 h1)
    · rw [if_pos ⟨rfl, .inl rfl⟩, if_pos ⟨rfl, .inl rfl⟩]
attribute [go_sem] drF_cons
end Go.Bw

/- The evaluator, part 20: slices of slices; bytes behind bytes that stand in a row. -/
namespace Go.Bw
open Go
theorem ren_ro' {ρ : Nat → Nat → Nat × Nat} (ex : Bool) (l : List D) : (D.ro ex l).ren ρ = .ro ex (D.renL ρ l) := nr (by simp only [D.ren])
theorem app_src {P : Program} {es : Sto} {t1 t2 : TypeId} (hb : ByteSlX P t1 t2) {x : D} {id v : Nat} {s : ByteArray} (h : rowOf es id = some ⟨v, bytesD s⟩) : appM P es #[t1, t2] [x, .ref id v 1 0 s.size] = appM P es #[t1, t2] [x, .ro false (bytesD s)] := by
  obtain ⟨e, hb⟩ := hb
  have hr : (stL es).tab id = some ⟨v, bytesD s⟩ := h
  have e1 : newCells P (stL es) (some t2) [.sc (.int .u8 0)] (.ref id v 1 0 s.size) = newCells P (stL es) (some t2) [.sc (.int .u8 0)] (.ro false (bytesD s)) := by
    simp only [newCells, hb.ii, hb.un, sliceCells, hr, bytesD_cells, bytesD_len, Nat.mul_one, Nat.zero_add, Nat.le_refl, and_self, if_true, List.drop_zero]
    rw [List.take_of_length_le (by rw [bytesD_len]; exact Nat.le_refl _)]
  rw [appM_two, appM_two]
  simp only [appendD, List.getElem?_toArray, List.getElem?_cons_zero, List.getElem?_cons_succ, hb.el, hb.ze, e1]
attribute [go_sem] ren_ro'
attribute [go_sem high] app_src
end Go.Bw

/- The evaluator, part 21: bits of numbers. -/
namespace Go.Bw
open Go
theorem ofInt_nat {w n : Nat} (h : n < 2 ^ w) : (BitVec.ofInt w (n : Int)).toNat = n := by
  rw [BitVec.toNat_ofInt]
  have : ((n : Int) % ((2 ^ w : Nat) : Int)) = ((n % 2 ^ w : Nat) : Int) := by push_cast; rfl
  rw [this, Nat.mod_eq_of_lt h]; rfl
theorem bits_and {w : Nat} {x m : Int} {k : Nat} (hm : m = (2 ^ k : Nat) - 1) (h0 : 0 ≤ x) (h1 : x < (2 ^ w : Nat)) (hk : k ≤ w) : ((BitVec.ofInt w x &&& BitVec.ofInt w m).toNat : Int) = x % (2 ^ k : Nat) := by
  subst hm
  obtain ⟨n, rfl⟩ := Int.eq_ofNat_of_zero_le h0
  have hn : n < 2 ^ w := by exact_mod_cast h1
  have hp : 0 < 2 ^ k := Nat.two_pow_pos k
  have e : ((2 ^ k : Nat) - 1 : Int) = ((2 ^ k - 1 : Nat) : Int) := by omega
  have hlt : 2 ^ k - 1 < 2 ^ w := by have := Nat.pow_le_pow_right (n := 2) (by omega) hk; omega
  rw [e, BitVec.toNat_and, ofInt_nat hn, ofInt_nat hlt, Nat.and_two_pow_sub_one_eq_mod]
  push_cast; rfl
theorem bits_or {w : Nat} {x y : Int} {k : Nat} (h0 : 0 ≤ x) (h1 : x * (2 ^ k : Nat) + y < (2 ^ w : Nat)) (y0 : 0 ≤ y) (y1 : y < (2 ^ k : Nat)) : ((BitVec.ofInt w (x * (2 ^ k : Nat)) ||| BitVec.ofInt w y).toNat : Int) = x * (2 ^ k : Nat) + y := by
  obtain ⟨n, rfl⟩ := Int.eq_ofNat_of_zero_le h0
  obtain ⟨m, rfl⟩ := Int.eq_ofNat_of_zero_le y0
  have hm : m < 2 ^ k := by exact_mod_cast y1
  have hs : n * 2 ^ k + m < 2 ^ w := by exact_mod_cast h1
  have e : ((n : Int) * (2 ^ k : Nat)) = ((n * 2 ^ k : Nat) : Int) := by push_cast; rfl
  rw [e, BitVec.toNat_or, ofInt_nat (by omega), ofInt_nat (by omega)]
  have := Nat.two_pow_add_eq_or_of_lt hm n
  rw [Nat.mul_comm n (2 ^ k), ← this]
  push_cast; rfl
/-- and, or, of two numbers of a kind -/
def andB (k : IntKind) (a b : Int) : Int := k.wrap (BitVec.ofInt k.bits a &&& BitVec.ofInt k.bits b).toNat
def orB (k : IntKind) (a b : Int) : Int := k.wrap (BitVec.ofInt k.bits a ||| BitVec.ofInt k.bits b).toNat
section
variable {P : Program} {t : TypeId} {xo yo : Operand} {k : IntKind} {a b : Int}
theorem bin_andB : binD P .and t xo yo (.sc (.int k a)) (.sc (.int k b)) = some (.sc (.int k (andB k a b))) := by cases k <;> rfl
theorem bin_orB : binD P .or t xo yo (.sc (.int k a)) (.sc (.int k b)) = some (.sc (.int k (orB k a b))) := by cases k <;> rfl
end
attribute [go_sem high] bin_andB bin_orB
theorem mod_le {x : Int} {m : Nat} (hp : 0 < m) (h0 : 0 ≤ x) : 0 ≤ x % (m : Int) ∧ x % (m : Int) ≤ x := by
  obtain ⟨n, rfl⟩ := Int.eq_ofNat_of_zero_le h0
  have : ((n : Int) % (m : Int)) = ((n % m : Nat) : Int) := by push_cast; rfl
  rw [this]
  have := Nat.mod_le n m
  omega
theorem and_u8 {x m : Int} (j : Nat) (hm : m = (2 ^ j : Nat) - 1) (hj : j ≤ 8) (h0 : 0 ≤ x) (h1 : x < 256) : andB .u8 x m = x % (2 ^ j : Nat) := by
  have e : ((BitVec.ofInt IntKind.u8.bits x &&& BitVec.ofInt IntKind.u8.bits m).toNat : Int) = x % (2 ^ j : Nat) := bits_and (w := 8) hm h0 (by simpa using h1) hj
  unfold andB
  have := mod_le (Nat.two_pow_pos j) h0
  rw [e, fit_u8 this.1 (by omega)]
theorem and_u32 {x m : Int} (j : Nat) (hm : m = (2 ^ j : Nat) - 1) (hj : j ≤ 32) (h0 : 0 ≤ x) (h1 : x < 4294967296) : andB .u32 x m = x % (2 ^ j : Nat) := by
  have e : ((BitVec.ofInt IntKind.u32.bits x &&& BitVec.ofInt IntKind.u32.bits m).toNat : Int) = x % (2 ^ j : Nat) := bits_and (w := 32) hm h0 (by simpa using h1) hj
  unfold andB
  have := mod_le (Nat.two_pow_pos j) h0
  rw [e, fit_u32 this.1 (by omega)]
theorem or_u32 {x y z : Int} (j : Nat) (hz : z = x * (2 ^ j : Nat)) (h0 : 0 ≤ x) (h1 : x * (2 ^ j : Nat) + y < 4294967296) (y0 : 0 ≤ y) (y1 : y < (2 ^ j : Nat)) : orB .u32 z y = z + y := by
  subst hz
  have e : ((BitVec.ofInt IntKind.u32.bits (x * (2 ^ j : Nat)) ||| BitVec.ofInt IntKind.u32.bits y).toNat : Int) = x * (2 ^ j : Nat) + y := bits_or (w := 32) h0 (by simpa using h1) y0 y1
  unfold orB
  have := Int.mul_nonneg h0 (Int.natCast_nonneg (2 ^ j))
  rw [e, fit_u32 (by omega) (by omega)]
end Go.Bw

/- The evaluator, part 22: lists that are built behind other rows. -/
namespace Go.Bw
open Go
section
variable {α : Type} {f : α → D} {sz : Nat}
theorem fsE_rowE (h : EncOk f sz) {es : Sto} {F : Nat → Bool} {n i v len : Nat} {l : List α} (hl : l.length = len) : fsE es F n i v sz 0 len true (some ⟨v, rowE f l⟩) = .ro false (l.map f) := by
  subst hl
  have hm : (rowE f l).map (frzN es F n) = rowE f l := map_free (fun d hd => frz_free hd) (h.row_refs l)
  simp only [fsE, hm]
  rw [if_pos ⟨trivial, h.pos, by rw [h.row_len]; omega, h.row_one l⟩]
  rw [List.drop_zero, List.take_of_length_le (by rw [h.row_len]; omega), h.row_cut]
/-- what has been built of a list in row 'm' -/
def accB (m sz : Nat) (l : List α) : D := match l with | [] => .nils | _ :: _ => .ref m 0 sz 0 l.length
def stoB (f : α → D) (pre : Sto) (l : List α) : Sto := match l with | [] => pre | _ :: _ => pre ++ [some ⟨0, rowE f l⟩]
theorem accB_nil (m : Nat) : accB m sz ([] : List α) = .nils := rfl
theorem stoB_nil (pre : Sto) : stoB f pre ([] : List α) = pre := rfl
theorem accB_cons (m : Nat) (x : α) (l : List α) : accB m sz (x :: l) = .ref m 0 sz 0 (l.length + 1) := rfl
theorem stoB_cons (pre : Sto) (x : α) (l : List α) : stoB f pre (x :: l) = pre ++ [some ⟨0, rowE f (x :: l)⟩] := rfl
theorem accB_snoc (m : Nat) (x : α) (l : List α) : accB m sz (l ++ [x]) = .ref m 0 sz 0 (l.length + 1) := by cases l <;> simp [accB]
theorem stoB_snoc (pre : Sto) (x : α) (l : List α) : stoB f pre (l ++ [x]) = pre ++ [some ⟨0, rowE f l ++ (f x).cells⟩] := by
  rw [rowE_snoc]; cases l <;> rfl
end
theorem map_canB (s : ByteArray) : (bytesD s).map D.can = bytesD s := by rw [← D.canL_map]; exact canL_bytesD s
attribute [go_sem] map_canB
/-- numbers of a kind -/
def nums (k : IntKind) (n : Int) : D := .sc (.int k n)
theorem numsOk (k : IntKind) : EncOk (nums k) 1 := ⟨fun _ => rfl, by decide, fun _ => rfl, fun _ => rfl, fun _ => rfl, fun _ => rfl⟩
theorem nums_can (k : IntKind) (n : Int) : (nums k n).can = nums k n := nr rfl
theorem nums_refs (k : IntKind) (n : Int) : (nums k n).refs = [] := nr rfl
theorem nums_canL (k : IntKind) (l : List Int) : D.canL (l.map (nums k)) = l.map (nums k) := (numsOk k).mapcan l
theorem nums_refsL (k : IntKind) (l : List Int) : D.refsL (l.map (nums k)) = [] := by
  induction l with
  | nil => rfl
  | cons a l ih => simp only [List.map_cons, D.refsL, ih, nums_refs, List.nil_append]
theorem nums_row (k : IntKind) (l : List Int) : D.refsL (rowE (nums k) l) = [] := (numsOk k).row_refs l
theorem nums_cells (k : IntKind) (n : Int) : (nums k n).cells = [.sc (.int k n)] := nr rfl
theorem fsE_nums {k : IntKind} {es : Sto} {F : Nat → Bool} {n i v len : Nat} {l : List Int} (hl : l.length = len) : fsE es F n i v 1 0 len true (some ⟨v, rowE (nums k) l⟩) = .ro false (l.map (nums k)) := fsE_rowE (numsOk k) hl
theorem rowE_nums_len (k : IntKind) (l : List Int) : (rowE (nums k) l).length = l.length := by rw [(numsOk k).row_len]; omega
attribute [go_sem] nums_can nums_refs nums_canL nums_refsL nums_row fsE_nums rowE_nums_len
theorem rowE_nums (k : IntKind) : ∀ l : List Int, rowE (nums k) l = l.map (nums k)
  | [] => rfl
  | a :: l => by rw [rowE_cons, rowE_nums k l]; rfl
theorem nums_rowcan (k : IntKind) (l : List Int) : (rowE (nums k) l).map D.can = rowE (nums k) l := by rw [rowE_nums, ← D.canL_map]; exact nums_canL k l
theorem nums_hd {k : IntKind} {l : List Int} {i : Nat} {x : Int} (h : l[i]? = some x) : i + 1 ≤ (rowE (nums k) l).length ∧ ((rowE (nums k) l).drop i |>.take 1).head? = some (nums k x) := by
  rw [rowE_nums]
  obtain ⟨hl, hx⟩ := List.getElem?_eq_some_iff.1 h
  refine ⟨by rw [List.length_map]; omega, ?_⟩
  rw [List.head?_take]
  simp only [Nat.one_ne_zero, if_false]
  rw [List.head?_drop, List.getElem?_map, h]; rfl
attribute [go_sem] nums_rowcan
/-! texts in their order -/
def txtLe (a b : ByteArray) : Bool := Op.bytesLess a.toList b.toList || a.toList == b.toList
section
variable {P : Program} {t : TypeId} {xo yo : Operand} {a b : ByteArray}
theorem bin_sleq : binD P .leq t xo yo (.sc (.string a)) (.sc (.string b)) = some (.sc (.bool (txtLe a b))) := rfl
end
theorem less_irr : ∀ l : List UInt8, Op.bytesLess l l = false
  | [] => rfl
  | a :: l => by simp only [Op.bytesLess, less_irr l, Bool.and_false, Bool.or_false]; simp
theorem less_asymm : ∀ l m : List UInt8, Op.bytesLess l m = true → Op.bytesLess m l = false
  | _, [], h => by cases ‹List UInt8› <;> cases h
  | [], _ :: _, _ => rfl
  | a :: l, b :: m, h => by
    simp only [Op.bytesLess, Bool.or_eq_true, Bool.and_eq_true, decide_eq_true_eq, beq_iff_eq] at h
    simp only [Op.bytesLess, Bool.or_eq_false_iff, Bool.and_eq_false_imp, decide_eq_false_iff_not, beq_iff_eq]
    rcases h with h | ⟨rfl, h⟩
    · exact ⟨fun hh => absurd (UInt8.lt_trans h hh) (UInt8.lt_irrefl _), fun e => by subst e; exact absurd h (UInt8.lt_irrefl _)⟩
    · exact ⟨UInt8.lt_irrefl _, fun _ => less_asymm l m h⟩
theorem txtLe_eq (a b : ByteArray) : (txtLe a b && txtLe b a) = decide (a = b) := by
  rw [Bool.eq_iff_iff]
  simp only [txtLe, Bool.and_eq_true, Bool.or_eq_true, beq_iff_eq, decide_eq_true_eq]
  constructor
  · rintro ⟨h | h, k⟩
    · rcases k with k | k
      · rw [less_asymm _ _ h] at k; cases k
      · rw [ByteArray.toList_eq, ByteArray.toList_eq] at k
        exact (ByteArray.ext (Array.toList_inj.1 k)).symm
    · rw [ByteArray.toList_eq, ByteArray.toList_eq] at h
      exact ByteArray.ext (Array.toList_inj.1 h)
  · rintro rfl; exact ⟨.inr rfl, .inr rfl⟩
attribute [go_sem] bin_sleq Nat.mul_one Nat.zero_add Nat.add_zero
end Go.Bw

/- The evaluator, part 23: how much what is read of slices holds. -/
namespace Go.Bw
open Go
section
variable {P : Program}
def sumW {α : Type} (wt : α → Nat) : List α → Nat
  | [] => 0
  | x :: l => wt x + sumW wt l
theorem sumW_mem {α : Type} {wt : α → Nat} : ∀ {l : List α} {x : α}, x ∈ l → wt x ≤ sumW wt l
  | y :: l, x, h => by
    rcases List.mem_cons.1 h with rfl | h
    · simp [sumW]
    · have := sumW_mem (wt := wt) h; simp only [sumW]; omega
theorem sumW_one {α : Type} : ∀ l : List α, sumW (fun _ => 1) l = l.length
  | [] => rfl
  | x :: l => by rw [sumW, sumW_one l, List.length_cons]; omega
theorem sumW_len {α : Type} {wt : α → Nat} (h : ∀ x, 1 ≤ wt x) : ∀ l : List α, l.length ≤ sumW wt l
  | [] => Nat.le_refl _
  | x :: l => by have := sumW_len h l; have := h x; simp only [sumW, List.length_cons]; omega
theorem sumW_map {α β : Type} {wt : β → Nat} (f : α → β) : ∀ l : List α, sumW wt (l.map f) = sumW (fun x => wt (f x)) l
  | [] => rfl
  | x :: l => by simp only [List.map_cons, sumW, sumW_map f l]
theorem blk_whole {ag : Bool} {ds : List D} (h : ag = true ∨ ∃ d, ds = [d]) : D.blkL ds ≤ ((whole ag ds).getD .undef).blk := by
  rcases h with rfl | ⟨d, rfl⟩
  · simp [whole, D.blk]
  · cases ag <;> simp [whole, D.blk, D.blkL]

/-- a slice, each element of it as plain data, and how much they hold -/
theorem Rd.slice_wt {α : Type} {t e : TypeId} {ds : List D} (wt : α → Nat) (hu : P.underlying t = some (.slice e)) (ok : α → Prop) (cs : α → List D) (hk : ∀ x, ∃ d : D, (whole ((aggB P e).getD false) (cs x)) = some d ∧ d.cells = cs x)
    (hw : ∀ ds, Rd P e ds → ∃ x, ok x ∧ WkL ds (cs x) ∧ ((whole ((aggB P e).getD false) ds).getD .undef).cells = ds ∧ wt x ≤ ((whole ((aggB P e).getD false) ds).getD .undef).blk)
    (h : Rd P t ds) : ∃ xs : List α, (∀ x ∈ xs, ok x) ∧ WkL ds [.ro false (xs.map fun x => (whole ((aggB P e).getD false) (cs x)).getD .undef)] ∧ sumW wt xs + 1 ≤ D.blkL ds := by
  cases h with
  | nils h => exact ⟨[], by simp, .cons (.nils _) .nil, by simp [sumW, D.blkL, D.blk]⟩
  | ro h dss hl k =>
    rw [hu] at h
    simp only [Option.some.injEq, TypeDesc.slice.injEq] at h
    subst h
    have key : ∀ dss : List (List D), (∀ ds ∈ dss, Rd P e ds) → ∃ xs : List α, (∀ x ∈ xs, ok x) ∧ dss.length = xs.length ∧ sumW wt xs ≤ D.blkL (dss.map fun ds => (whole ((aggB P e).getD false) ds).getD .undef) ∧ ∀ (j : Nat) (ds : List D) (x : α), dss[j]? = some ds → xs[j]? = some x → WkL ds (cs x) ∧ ((whole ((aggB P e).getD false) ds).getD .undef).cells = ds := by
      intro dss
      induction dss with
      | nil => intro _; exact ⟨[], by simp, rfl, by simp [sumW, D.blkL], fun j ds x h => by simp at h⟩
      | cons ds dss ih =>
        intro hh
        obtain ⟨x, h1, h2, h2', hb⟩ := hw ds (hh ds (List.mem_cons_self ..))
        obtain ⟨xs, h3, h4, hc, h5⟩ := ih fun d hd => hh d (List.mem_cons_of_mem _ hd)
        refine ⟨x :: xs, by simp only [List.mem_cons, forall_eq_or_imp]; exact ⟨h1, h3⟩, by simp [h4], by simp only [List.map_cons, sumW, D.blkL]; clear h5 hh; omega, fun j ds' x' hd hx => ?_⟩
        cases j with
        | zero => simp at hd hx; subst hd hx; exact ⟨h2, h2'⟩
        | succ j => exact h5 j ds' x' (by simpa using hd) (by simpa using hx)
    obtain ⟨xs, h1, h2, hc, h3⟩ := key dss k
    refine ⟨xs, h1, .cons (Wk.ro (by simp [h2]) fun j e1 e2 he1 he2 => ?_) .nil, by simp only [D.blkL, D.blk]; clear h3 h1 k; omega⟩
    simp only [List.getElem?_map, Option.map_eq_some_iff] at he1 he2
    obtain ⟨d1, hd1, rfl⟩ := he1
    obtain ⟨x1, hx1, rfl⟩ := he2
    obtain ⟨q1, q2⟩ := h3 j d1 x1 hd1 hx1
    obtain ⟨d, w1, w2⟩ := hk x1
    rw [q2, w1]
    simp only [Option.getD_some, w2]
    exact q1
  | veil h n => unfold Bw.veil at h; rw [hu] at h; cases h
  | _ h => rw [hu] at h; simp at h

theorem Rd.slice_aggW {α : Type} {t e : TypeId} {ds : List D} (wt : α → Nat) (hu : P.underlying t = some (.slice e)) (ha : aggB P e = some true) (ok : α → Prop) (cs : α → List D) (hw : ∀ ds, Rd P e ds → ∃ x, ok x ∧ WkL ds (cs x) ∧ wt x ≤ D.blkL ds + 1) (h : Rd P t ds) :
    ∃ xs : List α, (∀ x ∈ xs, ok x) ∧ WkL ds [.ro false (xs.map fun x => .agg (cs x))] ∧ sumW wt xs + 1 ≤ D.blkL ds := by
  have := Rd.slice_wt wt hu ok cs (fun x => ⟨.agg (cs x), by rw [ha]; rfl, rfl⟩) (fun ds hd => by obtain ⟨x, h1, h2, h3⟩ := hw ds hd; exact ⟨x, h1, h2, by rw [ha]; rfl, by rw [ha]; exact h3⟩) h
  rw [ha] at this
  exact this

theorem Rd.slice_oneW {α : Type} {t e : TypeId} {ds : List D} (wt : α → Nat) (hu : P.underlying t = some (.slice e)) (ha : aggB P e = some false) (ok : α → Prop) (c : α → D) (hc : ∀ x, (c x).cells = [c x]) (hw : ∀ ds, Rd P e ds → ∃ x, ok x ∧ WkL ds [c x] ∧ (∀ d, ds = [d] → d.cells = [d]) ∧ wt x ≤ D.blkL ds) (h : Rd P t ds) :
    ∃ xs : List α, (∀ x ∈ xs, ok x) ∧ WkL ds [.ro false (xs.map c)] ∧ sumW wt xs + 1 ≤ D.blkL ds := by
  have := Rd.slice_wt wt hu ok (fun x => [c x]) (fun x => ⟨c x, by rw [ha]; rfl, hc x⟩) (fun ds hd => by
    obtain ⟨x, h1, h2, h3, h4⟩ := hw ds hd
    refine ⟨x, h1, h2, ?_⟩
    rw [ha]
    have hl := h2.1
    match ds, hl, h4 with
    | [d], _, h4 => exact ⟨h3 d rfl, by simpa [whole, D.blkL] using h4⟩) h
  rw [ha] at this
  exact this

theorem Rd.bytes_wt {t e : TypeId} {ds : List D} (hu : P.underlying t = some (.slice e)) (he : P.underlying e = some (.int .u8)) (h : Rd P t ds) : ∃ s : ByteArray, WkL ds [.ro false (bytesD s)] ∧ s.size + 1 ≤ D.blkL ds := by
  have ha : aggB P e = some false := by unfold aggB; rw [he]
  obtain ⟨xs, _, h2, h3⟩ := Rd.slice_oneW (α := UInt8) (fun _ => 1) hu ha (fun _ => True) (fun b => .sc (.int .u8 b.toNat)) (fun _ => rfl) (fun ds hd => by
    obtain ⟨n, rfl, h1, h2⟩ := hd.int_inv he
    have h3 : (0 : Int) ≤ n := h1
    have h4 : n ≤ 255 := h2
    refine ⟨UInt8.ofNat n.toNat, trivial, ?_, fun d hd => by simp at hd; subst hd; rfl, by simp [D.blkL, D.blk]⟩
    have : ((UInt8.ofNat n.toNat).toNat : Int) = n := by
      rw [UInt8.toNat_ofNat']
      omega
    rw [this]
    exact .refl _) h
  rw [sumW_one] at h3
  exact ⟨⟨xs.toArray⟩, by simpa [bytesD] using h2, h3⟩

theorem Rd.strs_wt {t e : TypeId} {ds : List D} (hu : P.underlying t = some (.slice e)) (he : P.underlying e = some .string) (h : Rd P t ds) : ∃ ss : List ByteArray, WkL ds [.ro false (ss.map fun s => .sc (.string s))] ∧ sumW (fun s => s.size + 1) ss + 1 ≤ D.blkL ds := by
  have ha : aggB P e = some false := by unfold aggB; rw [he]
  obtain ⟨xs, _, h2, h3⟩ := Rd.slice_oneW (fun s : ByteArray => s.size + 1) hu ha (fun _ => True) (fun s => .sc (.string s)) (fun _ => rfl) (fun ds hd => by
    obtain ⟨s, rfl, h1⟩ := hd.str_inv he
    exact ⟨s, trivial, .refl _, fun d hd => by simp at hd; subst hd; rfl, by simp [D.blkL, D.blk]⟩) h
  exact ⟨xs, h2, h3⟩

theorem Rd.ints_wt {t e : TypeId} {k : IntKind} {ds : List D} (hu : P.underlying t = some (.slice e)) (he : P.underlying e = some (.int k)) (h : Rd P t ds) : ∃ ns : List Int, (∀ n ∈ ns, k.min ≤ n ∧ n ≤ k.max) ∧ WkL ds [.ro false (ns.map fun n => .sc (.int k n))] ∧ ns.length + 1 ≤ D.blkL ds := by
  have ha : aggB P e = some false := by unfold aggB; rw [he]
  obtain ⟨xs, h1, h2, h3⟩ := Rd.slice_oneW (fun _ : Int => 1) hu ha (fun n => k.min ≤ n ∧ n ≤ k.max) (fun n => .sc (.int k n)) (fun _ => rfl) (fun ds hd => by
    obtain ⟨n, rfl, h1⟩ := hd.int_inv he
    exact ⟨n, h1, .refl _, fun d hd => by simp at hd; subst hd; rfl, by simp [D.blkL, D.blk]⟩) h
  rw [sumW_one] at h3
  exact ⟨xs, h1, h2, h3⟩

theorem Arg.oneW {α : Type} {t : TypeId} {d : D} (wt : α → Nat) (ha : aggB P t = some false) (ok : α → Prop) (c : α → D) (hw : ∀ ds, Rd P t ds → ∃ x, ok x ∧ WkL ds [c x] ∧ wt x ≤ D.blkL ds) (h : Arg P t d) : ∃ x, ok x ∧ Wk d (c x) ∧ wt x ≤ d.blk := by
  obtain ⟨ds, h1, h2, h3⟩ := h
  rw [ha] at h3
  obtain ⟨x, k1, k2, k3⟩ := hw ds h1
  match ds, k2.1, h3 with
  | [y], _, h3 =>
    have e : d = y := h3
    subst e
    exact ⟨x, k1, k2.2 0 d _ rfl rfl, by simpa [D.blkL] using k3⟩
theorem Arg.aggW {α : Type} {t : TypeId} {d : D} (wt : α → Nat) (ha : aggB P t = some true) (ok : α → Prop) (cs : α → List D) (hw : ∀ ds, Rd P t ds → ∃ x, ok x ∧ WkL ds (cs x) ∧ wt x ≤ D.blkL ds + 1) (h : Arg P t d) : ∃ x, ok x ∧ Wk d (.agg (cs x)) ∧ wt x ≤ d.blk := by
  obtain ⟨ds, h1, h2, h3⟩ := h
  rw [ha] at h3
  obtain ⟨x, k1, k2, k3⟩ := hw ds h1
  have e : d = .agg ds := h3
  subst e
  exact ⟨x, k1, .agg k2, by simpa [D.blk] using k3⟩
end
end Go.Bw
