/- The evaluator, and that it is sound. -/
import Derived.Test.YtdhbjihdcfgoiaaEval1
set_option linter.unusedSimpArgs false
set_option linter.unusedVariables false
/- The evaluator, part 22: lists that are built behind other rows. -/
namespace Go.Bw
open Go
section
variable {α : Type} {f : α → D} {sz : Nat}
theorem fsE_rowE (h : EncOk f sz) {es : Sto} {F : Nat → Bool} {n i v len : Nat} {l : List α} (hl : l.length = len) : fsE es F n i v sz 0 len true (some ⟨v, rowE f l⟩) = .ro false (l.map f) := by
  subst hl
  have hm : (rowE f l).map (frzN es F n) = rowE f l := map_free (fun d hd => frz_free hd) (h.row_refs l)
  simp only [fsE, hm]
  rw [if_pos ⟨trivial, h.pos, by rw [h.row_len]; omega, h.row_one l⟩]
  rw [List.drop_zero, List.take_of_length_le (by rw [h.row_len]; omega), h.row_cut]
/-- what has been built of a list in row 'm' -/
def accB (m sz : Nat) (l : List α) : D := match l with | [] => .nils | _ :: _ => .ref m 0 sz 0 l.length
def stoB (f : α → D) (pre : Sto) (l : List α) : Sto := match l with | [] => pre | _ :: _ => pre ++ [some ⟨0, rowE f l⟩]
theorem accB_nil (m : Nat) : accB m sz ([] : List α) = .nils := rfl
theorem stoB_nil (pre : Sto) : stoB f pre ([] : List α) = pre := rfl
theorem accB_cons (m : Nat) (x : α) (l : List α) : accB m sz (x :: l) = .ref m 0 sz 0 (l.length + 1) := rfl
theorem stoB_cons (pre : Sto) (x : α) (l : List α) : stoB f pre (x :: l) = pre ++ [some ⟨0, rowE f (x :: l)⟩] := rfl
theorem accB_snoc (m : Nat) (x : α) (l : List α) : accB m sz (l ++ [x]) = .ref m 0 sz 0 (l.length + 1) := by cases l <;> simp [accB]
theorem stoB_snoc (pre : Sto) (x : α) (l : List α) : stoB f pre (l ++ [x]) = pre ++ [some ⟨0, rowE f l ++ (f x).cells⟩] := by
  rw [rowE_snoc]; cases l <;> rfl
end
theorem map_canB (s : ByteArray) : (bytesD s).map D.can = bytesD s := by rw [← D.canL_map]; exact canL_bytesD s
attribute [go_sem] map_canB
/-- numbers of a kind -/
def nums (k : IntKind) (n : Int) : D := .sc (.int k n)
theorem numsOk (k : IntKind) : EncOk (nums k) 1 := ⟨fun _ => rfl, by decide, fun _ => rfl, fun _ => rfl, fun _ => rfl, fun _ => rfl⟩
theorem nums_can (k : IntKind) (n : Int) : (nums k n).can = nums k n := nr rfl
theorem nums_refs (k : IntKind) (n : Int) : (nums k n).refs = [] := nr rfl
theorem nums_canL (k : IntKind) (l : List Int) : D.canL (l.map (nums k)) = l.map (nums k) := (numsOk k).mapcan l
theorem nums_refsL (k : IntKind) (l : List Int) : D.refsL (l.map (nums k)) = [] := by
  induction l with
  | nil => rfl
  | cons a l ih => simp only [List.map_cons, D.refsL, ih, nums_refs, List.nil_append]
theorem nums_row (k : IntKind) (l : List Int) : D.refsL (rowE (nums k) l) = [] := (numsOk k).row_refs l
theorem nums_cells (k : IntKind) (n : Int) : (nums k n).cells = [.sc (.int k n)] := nr rfl
theorem fsE_nums {k : IntKind} {es : Sto} {F : Nat → Bool} {n i v len : Nat} {l : List Int} (hl : l.length = len) : fsE es F n i v 1 0 len true (some ⟨v, rowE (nums k) l⟩) = .ro false (l.map (nums k)) := fsE_rowE (numsOk k) hl
theorem rowE_nums_len (k : IntKind) (l : List Int) : (rowE (nums k) l).length = l.length := by rw [(numsOk k).row_len]; omega
attribute [go_sem] nums_can nums_refs nums_canL nums_refsL nums_row fsE_nums rowE_nums_len
theorem rowE_nums (k : IntKind) : ∀ l : List Int, rowE (nums k) l = l.map (nums k)
  | [] => rfl
  | a :: l => by rw [rowE_cons, rowE_nums k l]; rfl
theorem nums_rowcan (k : IntKind) (l : List Int) : (rowE (nums k) l).map D.can = rowE (nums k) l := by rw [rowE_nums, ← D.canL_map]; exact nums_canL k l
theorem nums_hd {k : IntKind} {l : List Int} {i : Nat} {x : Int} (h : l[i]? = some x) : i + 1 ≤ (rowE (nums k) l).length ∧ ((rowE (nums k) l).drop i |>.take 1).head? = some (nums k x) := by
  rw [rowE_nums]
  obtain ⟨hl, hx⟩ := List.getElem?_eq_some_iff.1 h
  refine ⟨by rw [List.length_map]; omega, ?_⟩
  rw [List.head?_take]
  simp only [Nat.one_ne_zero, if_false]
  rw [List.head?_drop, List.getElem?_map, h]; rfl
attribute [go_sem] nums_rowcan
/-! texts in their order -/
def txtLe (a b : ByteArray) : Bool := Op.bytesLess a.toList b.toList || a.toList == b.toList
section
variable {P : Program} {t : TypeId} {xo yo : Operand} {a b : ByteArray}
theorem bin_sleq : binD P .leq t xo yo (.sc (.string a)) (.sc (.string b)) = some (.sc (.bool (txtLe a b))) := rfl
end
theorem less_irr : ∀ l : List UInt8, Op.bytesLess l l = false
  | [] => rfl
  | a :: l => by simp only [Op.bytesLess, less_irr l, Bool.and_false, Bool.or_false]; simp
theorem less_asymm : ∀ l m : List UInt8, Op.bytesLess l m = true → Op.bytesLess m l = false
  | _, [], h => by cases ‹List UInt8› <;> cases h
  | [], _ :: _, _ => rfl
  | a :: l, b :: m, h => by
    simp only [Op.bytesLess, Bool.or_eq_true, Bool.and_eq_true, decide_eq_true_eq, beq_iff_eq] at h
    simp only [Op.bytesLess, Bool.or_eq_false_iff, Bool.and_eq_false_imp, decide_eq_false_iff_not, beq_iff_eq]
    rcases h with h | ⟨rfl, h⟩
    · exact ⟨fun hh => absurd (UInt8.lt_trans h hh) (UInt8.lt_irrefl _), fun e => by subst e; exact absurd h (UInt8.lt_irrefl _)⟩
    · exact ⟨UInt8.lt_irrefl _, fun _ => less_asymm l m h⟩
theorem txtLe_eq (a b : ByteArray) : (txtLe a b && txtLe b a) = decide (a = b) := by
  rw [Bool.eq_iff_iff]
  simp only [txtLe, Bool.and_eq_true, Bool.or_eq_true, beq_iff_eq, decide_eq_true_eq]
  constructor
  · rintro ⟨h | h, k⟩
    · rcases k with k | k
      · rw [less_asymm _ _ h] at k; cases k
      · rw [ByteArray.toList_eq, ByteArray.toList_eq] at k
        exact (ByteArray.ext (Array.toList_inj.1 k)).symm
    · rw [ByteArray.toList_eq, ByteArray.toList_eq] at h
      exact ByteArray.ext (Array.toList_inj.1 h)
  · rintro rfl; exact ⟨.inr rfl, .inr rfl⟩
attribute [go_sem] bin_sleq Nat.mul_one Nat.zero_add Nat.add_zero
end Go.Bw
