/- Abstract values, stores, operations, triples. -/
import Derived.Test.YtmhpipnapobbiaaGreatDoorRRRRFrame1
import Derived.ProofKit
import Derived.OpenShut
import Derived.JoinedCond
import Derived.Lib.LaidTab
set_option linter.unusedSimpArgs false
set_option linter.unusedVariables false
/- The framework, part 19: regions that draw their order, as they are typed; what is kept of the slots. -/
namespace Go.Bw
open Go

section
variable {P : Program} {GL : Nat → D} {n : Nat} {ops : Array Oper} {E0 : Nat → D} {Q : Post}

/-- the operations, in the plan's order; each that does not write the store, but looks at it, does the same in the stores it may come to see -/
def drawT (P : Program) (GL : Nat → D) (ops : Array Oper) : Plan → List St → (Nat → D) → ((Nat → D) → St → Prop) → Prop
  | [], Ss, E, K => match Ss with
    | S :: _ => K E S
    | [] => False
  | (i, lo, ch) :: rest, Ss, E, K =>
    match ops[i]?, Ss with
    | some o, S :: Sr =>
      match guardD ops E o.guard with
      | some true => match calleeOf o with
        | some (f, args) => ∃ d S', Call1 P GL (rhoD E GL f) (args.map (rhoD E GL)) S d S' ∧ (ch = true ∨ (S' = S ∧ ∀ S1 ∈ Sr.take (Sr.length - lo), Call1 P GL (rhoD E GL f) (args.map (rhoD E GL)) S1 d S1)) ∧
            drawT P GL ops rest (if ch = true then S' :: S :: Sr else S :: Sr) (updO E o.dst d) K
        | none => match opD P E GL S o with
          | some (d, S') => (ch = true ∨ insens o = true ∨ (S' = S ∧ ∀ S1 ∈ Sr.take (Sr.length - lo), opD P E GL S1 o = some (d, S1))) ∧
              drawT P GL ops rest (if ch = true then S' :: S :: Sr else S :: Sr) (updO E o.dst d) K
          | none => False
      | some false => drawT P GL ops rest (if ch = true then S :: S :: Sr else S :: Sr) (updO E o.dst (.tup [])) K
      | none => False
    | _, _ => False

theorem take_cons_sub {α : Type} {S : α} {Sr : List α} {lo : Nat} {x : α} (h : x ∈ (S :: Sr).take ((S :: Sr).length - lo)) : x = S ∨ x ∈ Sr.take (Sr.length - lo) := by
  rcases Nat.lt_or_ge Sr.length lo with hlt | hge
  · rw [show (S :: Sr).length - lo = 0 by simp; omega] at h; cases h
  · rw [show (S :: Sr).length - lo = (Sr.length - lo) + 1 by simp; omega, List.take_succ_cons] at h
    exact List.mem_cons.1 h

theorem drawT_cert (hdist : Distinct ops) : ∀ (plan : Plan) (done chs : List Nat) (Ss : List St) (r0 : Nat → D) (K : (Nat → D) → St → Prop), ordOk ops plan done chs = true → drawT P GL ops plan Ss (ov ops E0 r0 (fun j => done.contains j)) K →
    ∃ r Sf, (∀ j ∈ done, r j = r0 j) ∧ Cert P GL n ops E0 r plan done Ss Sf ∧ ∃ S, Sf.head? = some S ∧ K (ov ops E0 r (fun j => done.contains j || plan.any (fun x => x.1 == j))) S
  | [], done, chs, Ss, r0, K, _, h => by
    refine ⟨r0, Ss, fun _ _ => rfl, rfl, ?_⟩
    cases Ss with
    | nil => exact h.elim
    | cons S Sr => exact ⟨S, rfl, by simpa [drawT] using h⟩
  | (i, lo, ch) :: rest, done, chs, Ss, r0, K, hord, h => by
    unfold ordOk at hord
    unfold drawT at h
    split at hord
    · cases hord
    rename_i o ho
    simp only [Bool.and_eq_true, Bool.not_eq_true'] at hord
    obtain ⟨⟨⟨h1, h2⟩, h3⟩, h4⟩ := hord
    have hni : i ∉ done := by simpa using h1
    rw [ho] at h
    -- one step, whatever it is
    have key : ∀ (S : St) (Sr : List St) (d : D) (S' : St), Ss = S :: Sr → Step1 P GL n ops (ov ops E0 r0 (fun j => done.contains j)) S o d S' →
        (ch = true ∨ (insens o = true ∧ ∀ S1, Step1 P GL n ops (ov ops E0 r0 (fun j => done.contains j)) S1 o d S1) ∨ (S' = S ∧ ∀ S1 ∈ Sr.take (Sr.length - lo), Step1 P GL n ops (ov ops E0 r0 (fun j => done.contains j)) S1 o d S1)) → (ch = false → insens o = true ∨ insens o = false) →
        drawT P GL ops rest (if ch = true then S' :: S :: Sr else S :: Sr) (updO (ov ops E0 r0 (fun j => done.contains j)) o.dst d) K →
        (insens o = true → ch = false → ∀ S1, Step1 P GL n ops (ov ops E0 r0 (fun j => done.contains j)) S1 o d S1) →
        ∃ r Sf, (∀ j ∈ done, r j = r0 j) ∧ Cert P GL n ops E0 r ((i, lo, ch) :: rest) done Ss Sf ∧ ∃ S, Sf.head? = some S ∧ K (ov ops E0 r (fun j => done.contains j || ((i, lo, ch) :: rest).any (fun x => x.1 == j))) S := by
      intro S Sr d S' hSs hstep hcase _ hdraw hins
      subst hSs
      let r1 : Nat → D := fun j => if j = i then d else r0 j
      have e1 : ov ops E0 r1 (fun j => done.contains j) = ov ops E0 r0 (fun j => done.contains j) := by
        funext t
        refine ov_same fun j _ => ⟨rfl, fun hj => ?_⟩
        have : j ≠ i := by rintro rfl; exact hni (by simpa using hj)
        simp [r1, this]
      have e2 : ov ops E0 r1 (fun j => (i :: done).contains j) = updO (ov ops E0 r0 (fun j => done.contains j)) o.dst d := by
        rw [← e1, ov_add (r := r1) (dn := fun j => done.contains j) hdist ho (by simp) (fun j hj => by simp [hj])]
        simp [r1]
      rw [← e2] at hdraw
      obtain ⟨r, Sf, k1, k2, S2, k3, k4⟩ := drawT_cert hdist rest (i :: done) (if ch = true then i :: chs else chs) _ r1 K h4 hdraw
      have hri : r i = d := by rw [k1 i (List.mem_cons_self ..)]; simp [r1]
      have hagree : ∀ j ∈ done, r j = r0 j := fun j hj => by
        rw [k1 j (List.mem_cons_of_mem _ hj)]
        have : j ≠ i := by rintro rfl; exact hni hj
        simp [r1, this]
      have e3 : ov ops E0 r (fun j => done.contains j) = ov ops E0 r0 (fun j => done.contains j) := by
        funext t
        exact ov_same fun j _ => ⟨rfl, fun hj => hagree j (by simpa using hj)⟩
      refine ⟨r, Sf, hagree, ?_, S2, k3, ?_⟩
      · unfold Cert
        refine ⟨o, ho, ?_⟩
        rw [e3, hri]
        cases hch : ch with
        | true =>
          rw [if_pos rfl]
          rw [hch, if_pos rfl] at k2
          exact ⟨S, Sr, S', rfl, hstep, k2⟩
        | false =>
          rw [if_neg (by simp)]
          rw [hch, if_neg (by simp)] at k2
          refine ⟨fun S1 hS1 => ?_, k2⟩
          rcases hS1 with hS1 | hS1
          · exact hins hS1 hch S1
          · rcases hcase with hc | ⟨_, hc⟩ | ⟨hc1, hc2⟩
            · rw [hch] at hc; cases hc
            · exact hc S1
            · rcases take_cons_sub hS1 with rfl | hS1
              · rw [hc1] at hstep; exact hstep
              · exact hc2 S1 hS1
      · have : (fun j => (i :: done).contains j || rest.any fun x => x.1 == j) = (fun j => done.contains j || ((i, lo, ch) :: rest).any fun x => x.1 == j) := by
          funext j
          simp only [List.contains_cons, List.any_cons]
          cases hji : (j == i)
          · have : (i == j) = false := by rw [beq_eq_false_iff_ne] at hji ⊢; exact Ne.symm hji
            simp [this]
          · have : (i == j) = true := by rw [beq_iff_eq] at hji ⊢; exact hji.symm
            simp [this]
        rw [← this]
        exact k4
    cases Ss with
    | nil => exact h.elim
    | cons S Sr =>
      simp only at h
      split at h
      · rename_i hgd
        have mk : ∀ (S1 S' : St) (d : D), (∀ E', (∀ t ∈ o.looksAt ops, E' t = ov ops E0 r0 (fun j => done.contains j) t) → Op1 P GL n E' S1 o d S') → Step1 P GL n ops (ov ops E0 r0 (fun j => done.contains j)) S1 o d S' := fun S1 S' d hh => by
          unfold Step1; rw [hgd]; exact hh
        split at h
        · rename_i f args hc
          obtain ⟨d, S', c1, c2, c3⟩ := h
          have hnins : insens o = false := by
            unfold calleeOf at hc
            unfold insens
            split at hc
            · rename_i c hop
              rw [hop]
              simp only
              split at hc
              · rename_i f' hcal; simp only [hcal]
              · cases hc
            · cases hc
          refine key S Sr d S' rfl (mk _ _ _ (Op1.call_all hc c1)) (c2.imp id fun c2 => .inr ⟨c2.1, fun S1 hS1 => mk _ _ _ (Op1.call_all hc (c2.2 S1 hS1))⟩) (fun _ => by simp [hnins]) c3 (fun hi => by rw [hnins] at hi; cases hi)
        · split at h
          · rename_i d S' hop
            obtain ⟨c2, c3⟩ := h
            have hall : insens o = true → ∀ S1, Step1 P GL n ops (ov ops E0 r0 (fun j => done.contains j)) S1 o d S1 := fun hi S1 => mk _ _ _ (Op1.opD_all (opD_insens (S' := S1) hi hop).2)
            refine key S Sr d S' rfl (mk _ _ _ (Op1.opD_all hop)) ?_ (fun _ => by cases insens o <;> simp) c3 (fun hi _ => hall hi)
            rcases c2 with c2 | c2 | c2
            · exact .inl c2
            · exact .inr (.inl ⟨c2, hall c2⟩)
            · exact .inr (.inr ⟨c2.1, fun S1 hS1 => mk _ _ _ (Op1.opD_all (c2.2 S1 hS1))⟩)
          · exact h.elim
      · rename_i hgd
        have mk : ∀ S1, Step1 P GL n ops (ov ops E0 r0 (fun j => done.contains j)) S1 o (.tup []) S1 := fun S1 => by
          unfold Step1; rw [hgd]; exact ⟨rfl, rfl⟩
        exact key S Sr (.tup []) S rfl (mk S) (.inr (.inr ⟨rfl, fun S1 _ => mk S1⟩)) (fun _ => by cases insens o <;> simp) h (fun _ _ S1 => mk S1)
      · exact h.elim

/-- A REGION THAT DRAWS ITS ORDER -/
theorem any_draw {S : St} (plan : Plan) (hp : planOk n ops plan = true) (h : drawT P GL ops plan [S] E0 (Q .normal)) : AnyT P GL n ops E0 S Q := by
  have hp' := hp
  unfold planOk at hp
  simp only [Bool.and_eq_true, List.all_eq_true, List.mem_range] at hp
  obtain ⟨⟨⟨h1, h2⟩, h3⟩, h4⟩ := hp
  have e0 : ov ops E0 (fun _ => .undef) (fun j => ([] : List Nat).contains j) = E0 := by funext t; exact ov_not fun j _ => by simp
  rw [← e0] at h
  obtain ⟨r, Sf, k1, k2, S2, k3, k4⟩ := drawT_cert (n := n) (looks_spec h2).1 plan [] [] [S] _ _ h3 h
  refine any_cert hp' k2 fun S' hS' => ?_
  rw [k3] at hS'
  simp only [Option.some.injEq] at hS'
  subst hS'
  have : ov ops E0 r (fun i => decide (i < ops.size)) = ov ops E0 r (fun j => ([] : List Nat).contains j || plan.any fun x => x.1 == j) := by
    funext t
    refine ov_same fun j hj => ⟨?_, fun _ => rfl⟩
    have hlt := dstIs_lt hj
    simp only [hlt, decide_true, List.contains_nil, Bool.false_or]
    exact (h4 j hlt).symm
  rw [this]
  exact k4


/-! slots that are kept -/

def ofL : List (Nat × D) → Nat → D
  | [], _ => .undef
  | (k, d) :: r, t => if t = k then d else ofL r t

theorem ofL_same (k : Nat) (d : D) (r : List (Nat × D)) : ofL ((k, d) :: r) k = d := by simp [ofL]
theorem ofL_ne {t k : Nat} (d : D) (r : List (Nat × D)) (h : t ≠ k) : ofL ((k, d) :: r) t = ofL r t := by simp [ofL, h]
theorem ofL_nil (t : Nat) : ofL [] t = .undef := rfl

theorem ofL_wk (E : Nat → D) : ∀ (ks : List Nat) (t : Nat), Wk (E t) (ofL (ks.map fun k => (k, E k)) t)
  | [], t => .undef _
  | k :: ks, t => by
    simp only [List.map_cons, ofL]
    split
    · rename_i h; subst h; exact .refl _
    · exact ofL_wk E ks t



/-! operations one by one -/

theorem opsT_nil {E : Nat → D} {S : St} {K : (Nat → D) → St → Prop} {Kp : D → (Nat → D) → St → Prop} : opsT P GL ops [] E S K Kp = K E S := rfl

theorem opsT_cons {E : Nat → D} {S : St} {K : (Nat → D) → St → Prop} {Kp : D → (Nat → D) → St → Prop} {o : Oper} {rest : List Oper} (hc : calleeOf o = none) (hg : guardD ops E o.guard = some true) : opsT P GL ops (o :: rest) E S K Kp =
    match opD P E GL S o with
      | some (d, S') => opsT P GL ops rest (updO E o.dst d) S' K Kp
      | none => False := by
  conv => lhs; unfold opsT
  rw [hg]
  simp only
  unfold opT
  simp only [hc]
  all_goals rfl

theorem opsT_no {E : Nat → D} {S : St} {K : (Nat → D) → St → Prop} {Kp : D → (Nat → D) → St → Prop} {o : Oper} {rest : List Oper} (hg : guardD ops E o.guard = some false) : opsT P GL ops (o :: rest) E S K Kp = opsT P GL ops rest (updO E o.dst (.tup [])) S K Kp := by
  conv => lhs; unfold opsT
  rw [hg]







/-- the plan, its operations laid out -/
def planOps (ops : Array Oper) : Plan → List (Oper × Nat × Bool)
  | [] => []
  | (i, lo, ch) :: r => match ops[i]? with
    | some o => (o, lo, ch) :: planOps ops r
    | none => planOps ops r

def drawL (P : Program) (GL : Nat → D) (ops : Array Oper) : List (Oper × Nat × Bool) → List St → (Nat → D) → ((Nat → D) → St → Prop) → Prop
  | [], Ss, E, K => match Ss with
    | S :: _ => K E S
    | [] => False
  | (o, lo, ch) :: rest, Ss, E, K =>
    match Ss with
    | S :: Sr =>
      match guardD ops E o.guard with
      | some true => match calleeOf o with
        | some (f, args) => ∃ d S', Call1 P GL (rhoD E GL f) (args.map (rhoD E GL)) S d S' ∧ (ch = true ∨ (S' = S ∧ ∀ S1 ∈ Sr.take (Sr.length - lo), Call1 P GL (rhoD E GL f) (args.map (rhoD E GL)) S1 d S1)) ∧
            drawL P GL ops rest (if ch = true then S' :: S :: Sr else S :: Sr) (updO E o.dst d) K
        | none => match opD P E GL S o with
          | some (d, S') => (ch = true ∨ insens o = true ∨ (S' = S ∧ ∀ S1 ∈ Sr.take (Sr.length - lo), opD P E GL S1 o = some (d, S1))) ∧
              drawL P GL ops rest (if ch = true then S' :: S :: Sr else S :: Sr) (updO E o.dst d) K
          | none => False
      | some false => drawL P GL ops rest (if ch = true then S :: S :: Sr else S :: Sr) (updO E o.dst (.tup [])) K
      | none => False
    | [] => False

theorem drawT_of_L : ∀ (plan : Plan) (Ss : List St) (E : Nat → D) (K : (Nat → D) → St → Prop), (∀ x ∈ plan, x.1 < ops.size) → drawL P GL ops (planOps ops plan) Ss E K → drawT P GL ops plan Ss E K
  | [], Ss, E, K, _, h => h
  | (i, lo, ch) :: rest, Ss, E, K, hi, h => by
    have hlt := hi (i, lo, ch) (List.mem_cons_self ..)
    have ho : ops[i]? = some ops[i] := by simp [hlt]
    unfold planOps at h
    rw [ho] at h
    unfold drawT
    rw [ho]
    unfold drawL at h
    have ih : ∀ Ss E, drawL P GL ops (planOps ops rest) Ss E K → drawT P GL ops rest Ss E K := fun Ss E hh => drawT_of_L rest Ss E K (fun x hx => hi x (List.mem_cons_of_mem _ hx)) hh
    cases Ss with
    | nil => exact h.elim
    | cons S Sr =>
      simp only at h ⊢
      split at h
      · split at h
        · obtain ⟨d, S', h1, h2, h3⟩ := h
          exact ⟨d, S', h1, h2, ih _ _ h3⟩
        · split at h
          · exact ⟨h.1, ih _ _ h.2⟩
          · exact h.elim
      · exact ih _ _ h
      · exact h.elim

theorem plan_lt {plan : Plan} (h : planOk n ops plan = true) : ∀ x ∈ plan, x.1 < ops.size := by
  unfold planOk at h
  simp only [Bool.and_eq_true] at h
  have key : ∀ (pl : Plan) (dn cs : List Nat), ordOk ops pl dn cs = true → ∀ x ∈ pl, x.1 < ops.size := by
    intro pl
    induction pl with
    | nil => intro dn cs _ x hx; cases hx
    | cons y pl ih =>
      intro dn cs ho x hx
      obtain ⟨i, lo, ch⟩ := y
      unfold ordOk at ho
      split at ho
      · cases ho
      · rename_i o hoi
        simp only [Bool.and_eq_true] at ho
        rcases List.mem_cons.1 hx with rfl | hx
        · exact (Array.getElem?_eq_some_iff.1 hoi).1
        · exact ih _ _ ho.2 x hx
  exact key plan [] [] h.1.2

theorem drawL_nil {S : St} {Sr : List St} {E : Nat → D} {K : (Nat → D) → St → Prop} : drawL P GL ops [] (S :: Sr) E K = K E S := rfl

section
variable {lo : Nat} {rest : List (Oper × Nat × Bool)} {S : St} {Sr : List St} {E : Nat → D} {K : (Nat → D) → St → Prop} {o : Oper}

theorem drawL_cons {ch : Bool} (hc : calleeOf o = none) (hg : guardD ops E o.guard = some true) : drawL P GL ops ((o, lo, ch) :: rest) (S :: Sr) E K =
    match opD P E GL S o with
      | some (d, S') => (ch = true ∨ insens o = true ∨ (S' = S ∧ ∀ S1 ∈ Sr.take (Sr.length - lo), opD P E GL S1 o = some (d, S1))) ∧
              drawL P GL ops rest (if ch = true then S' :: S :: Sr else S :: Sr) (updO E o.dst d) K
      | none => False := by
  conv => lhs; unfold drawL
  simp only [hc, hg]

theorem drawL_no {ch : Bool} (hg : guardD ops E o.guard = some false) : drawL P GL ops ((o, lo, ch) :: rest) (S :: Sr) E K =
    drawL P GL ops rest (if ch = true then S :: S :: Sr else S :: Sr) (updO E o.dst (.tup [])) K := by
  conv => lhs; unfold drawL
  simp only [hg]







end



theorem guard_none (E : Nat → D) : guardD ops E none = some true := by
  have h : guardD ops E none = some true ∧ True := ⟨rfl, trivial⟩
  exact h.1
theorem guard_some (E : Nat → D) (j : Nat) (w : Bool) : guardD ops E (some (j, w)) = (match (ops[j]?).bind (·.dst) with | some t => gv (E t) w | none => none) := by
  have h : guardD ops E (some (j, w)) = (match (ops[j]?).bind (·.dst) with | some t => gv (E t) w | none => none) ∧ True := ⟨rfl, trivial⟩
  exact h.1
theorem gv_cond (b w : Bool) (x y : D) : gv (cond b x y) w = cond b (gv x w) (gv y w) := by cases b <;> rfl
theorem cond_some {α : Type} (b : Bool) (x y : α) : cond b (some x) (some y) = some (cond b x y) := by cases b <;> rfl
theorem gv_sc (b w : Bool) : gv (.sc (.bool b)) w = some (b == w) := rfl
theorem gv_no (w : Bool) : gv (.tup []) w = some false := rfl
theorem bq_true (b : Bool) : (b == true) = b := by cases b <;> rfl
theorem bq_false (b : Bool) : (b == false) = !b := by cases b <;> rfl
theorem pick_or (b v : Bool) (z : D) : (if b = true then D.sc (.bool true) else cond (!b) (.sc (.bool v)) z) = .sc (.bool (b || v)) := by cases b <;> rfl
theorem pick_and (b v : Bool) (z : D) : (if b = true then cond b (D.sc (.bool v)) z else .sc (.bool false)) = .sc (.bool (b && v)) := by cases b <;> rfl
theorem pick_or2 (b v : Bool) : (if b = true then D.sc (.bool true) else (.sc (.bool v))) = .sc (.bool (b || v)) := by cases b <;> rfl
theorem pick_and2 (b v : Bool) : (if b = true then (D.sc (.bool v)) else .sc (.bool false)) = .sc (.bool (b && v)) := by cases b <;> rfl

/-! what stands behind a piece -/
section
variable {S : St} {E : Nat → D} {y : Code}
theorem nx_seq (h : Tri P GL n y E S Q) : seqPost P GL n y Q .normal E S := h
section
variable {ι : Type} {lt : ι → ι → Prop} {I : ι → (Nat → D) → St → Prop} {i : ι}
end
end

end
end Go.Bw

/- The framework, part 20: what is handed in, read as abstract values; what a law that returns true leaves. -/
namespace Go.Bw
open Go Go.ChangeShapes Go.WideShapes Go.RowKit

/-- types whose values are not looked into -/
def veil (P : Program) (t : TypeId) : Bool :=
  match P.underlying t with
  | some (.array _ _) | some (.interface _) | some (.map _ _) | some (.func ..) | some (.chan ..) | some .unsafePointer => true
  | some (.pointer e) => P.cellsOf e == 0
  | _ => false

/-- the cells of a value of a type -/
inductive Rd (P : Program) : TypeId → List D → Prop where
  | bool {t : TypeId} (h : P.underlying t = some .bool) (b : Bool) : Rd P t [.sc (.bool b)]
  | int {t : TypeId} {k : IntKind} (h : P.underlying t = some (.int k)) (n : Int) (hw : (Lit.int k n).wf = true) : Rd P t [.sc (.int k n)]
  | float {t : TypeId} {k : FloatKind} (h : P.underlying t = some (.float k)) (n : Nat) (hw : (Lit.float k n).wf = true) : Rd P t [.sc (.float k n)]
  | str {t : TypeId} (h : P.underlying t = some .string) (s : ByteArray) (hs : s.size ≤ 9223372036854775807) : Rd P t [.sc (.string s)]
  | nilp {t e : TypeId} (h : P.underlying t = some (.pointer e)) : Rd P t [.nilp]
  | rp {t e : TypeId} (h : P.underlying t = some (.pointer e)) (ds : List D) (k : Rd P e ds) : Rd P t [.rp ds]
  | nils {t e : TypeId} (h : P.underlying t = some (.slice e)) : Rd P t [.nils]
  | ro {t e : TypeId} (h : P.underlying t = some (.slice e)) (dss : List (List D)) (hl : ∀ ds ∈ dss, ds.length = P.cellsOf e) (k : ∀ ds ∈ dss, Rd P e ds) : Rd P t [.ro false (dss.map fun ds => (whole ((aggB P e).getD false) ds).getD .undef)]
  | struct {t : TypeId} {fs : Array Field} (h : P.underlying t = some (.struct fs)) (dss : List (List D)) (hl : dss.length = fs.size) (k : ∀ (j : Nat) (f : Field) (ds : List D), fs.toList[j]? = some f → dss[j]? = some ds → Rd P f.type ds) : Rd P t dss.flatten
  | veil {t : TypeId} (h : veil P t = true) (n : Nat) : Rd P t (List.replicate n .undef)

section
variable {H : Type} {enc : TypeId × Value → H} {P : Program} {w : World} {base : Nat} {spare : Nat → Bool} {held : Bool}

theorem mapM_len {α β : Type} {f : α → Option β} : ∀ {l : List α} {r : List β}, l.mapM f = some r → r.length = l.length ∧ ∀ (j : Nat) (x : α), l[j]? = some x → ∃ y, r[j]? = some y ∧ f x = some y
  | [], r, h => by simp at h; subst h; exact ⟨rfl, fun j x hx => by simp at hx⟩
  | a :: l, r, h => by
    simp only [List.mapM_cons, Option.pure_def, Option.bind_eq_bind, Option.bind_eq_some_iff] at h
    obtain ⟨y, hy, ys, hys, hr⟩ := h
    simp only [Option.some.injEq] at hr
    subst hr
    obtain ⟨h1, h2⟩ := mapM_len hys
    refine ⟨by simp [h1], fun j x hx => ?_⟩
    cases j with
    | zero => simp at hx; subst hx; exact ⟨y, rfl, hy⟩
    | succ j => simpa using h2 j x (by simpa using hx)

theorem cells?_spec {a : Addr} {n : Nat} {cs : List Value} (h : w.cells? base a n = some cs) : cs.length = n ∧ (0 < n → ∃ c t fz, a.spot = none ∧ w.heap[a.block]? = some (.cells c t fz) ∧ a.off + n ≤ c.size ∧ ∀ j, j < n → cs.getD j undef = c.getD (a.off + j) undef) := by
  unfold World.cells? at h
  split at h
  · obtain ⟨h1, h2⟩ := mapM_len h
    simp only [List.length_range] at h1
    refine ⟨h1, fun hn => ?_⟩
    have hcell : ∀ j, j < n → ∃ y, cs[j]? = some y ∧ w.cell? (a.add j) = some y := fun j hj => h2 j j (by simp [hj])
    have add_block : ∀ j, (a.add j).block = a.block := fun j => by unfold Addr.add; split <;> rfl
    have add_off : ∀ j, (a.add j).off = a.off + j := fun j => by unfold Addr.add; split <;> simp_all
    obtain ⟨y0, _, hy0⟩ := hcell 0 hn
    unfold World.cell? at hy0
    rw [add_block] at hy0
    split at hy0
    · rename_i c t fz hc
      have hsp : a.spot = none := by
        have : a.add 0 = a := by simp [Addr.add]
        rw [this] at hy0
        split at hy0
        · cases hy0
        · rename_i hh; simpa using hh
      refine ⟨c, t, fz, hsp, hc, ?_, ?_⟩
      · obtain ⟨y, _, hy⟩ := hcell (n - 1) (by omega)
        unfold World.cell? at hy
        rw [add_block, hc] at hy
        simp only at hy
        split at hy
        · cases hy
        · have := (Array.getElem?_eq_some_iff.1 hy).1
          rw [add_off] at this
          omega
      · intro j hj
        obtain ⟨y, hcs, hy⟩ := hcell j hj
        unfold World.cell? at hy
        rw [add_block, hc] at hy
        simp only at hy
        split at hy
        · cases hy
        · rw [add_off] at hy
          rw [List.getD_eq_getElem?_getD, hcs, Array.getD_eq_getD_getElem?, hy]
    · cases hy0
  · cases h

theorem whole_cells {ag : Bool} {ds : List D} (h : ag = false → ∃ d, ds = [d] ∧ d.cells = [d]) : ((whole ag ds).getD .undef).cells = ds := by
  unfold whole
  cases ag with
  | true => rfl
  | false => obtain ⟨d, rfl, hd⟩ := h rfl; exact hd

theorem Rd.scalar {t : TypeId} {ds : List D} (h : Rd P t ds) (hl : ds.length = P.cellsOf t) (hp : aggB P t = some false) (hc : P.cellsOf t = 1) : ∃ d, ds = [d] ∧ d.cells = [d] := by
  cases h with
  | struct h => unfold aggB at hp; rw [h] at hp; cases hp
  | veil h n =>
    simp at hl
    rw [hl, hc]
    exact ⟨.undef, rfl, rfl⟩
  | _ => exact ⟨_, rfl, rfl⟩

/-- what is asked of the program's types -/
def tyOk (P : Program) : Bool := (List.range P.types.size).all fun t => match P.underlying t with
  | some (.struct _) => true
  | some (.slice e) => decide (0 < P.cellsOf e) && (aggB P e).isSome && decide (P.cellsOf t = 1)
  | some (.array _ _) => true
  | some _ => decide (P.cellsOf t = 1)
  | none => true

theorem tyOk_slice (h : tyOk P = true) {t e : TypeId} (ht : t < P.types.size) (hu : P.underlying t = some (.slice e)) : 0 < P.cellsOf e ∧ (aggB P e).isSome = true := by
  unfold tyOk at h
  have := List.all_eq_true.1 h t (List.mem_range.2 ht)
  rw [hu] at this
  simp only [Bool.and_eq_true, decide_eq_true_eq] at this
  exact this.1

theorem tyOk_one (h : tyOk P = true) {t : TypeId} (ht : t < P.types.size) (ha : aggB P t = some false) : P.cellsOf t = 1 := by
  unfold tyOk at h
  have := List.all_eq_true.1 h t (List.mem_range.2 ht)
  unfold aggB at ha
  cases hu : P.underlying t with
  | none => rw [hu] at ha; cases ha
  | some d =>
    rw [hu] at this ha
    cases d <;> simp_all

mutual
/-- how many values and letters a reading holds -/
def bulk0 {H : Type} : DataW H → Nat
  | .lit (.string s) => s.length + 1
  | .lit _ => 1
  | .ptr d => bulk0 d + 1
  | .slice es _ => bulk0L es + 1
  | .agg ps => bulk0L ps + 1
  | _ => 1
def bulk0L {H : Type} : List (DataW H) → Nat
  | [] => 0
  | d :: l => bulk0 d + bulk0L l
end
mutual
/-- and how many an abstract value holds -/
def D.blk : D → Nat
  | .sc (.string s) => s.size + 1
  | .sc _ => 1
  | .rp l => D.blkL l + 1
  | .ro _ l => D.blkL l + 1
  | .agg l => D.blkL l + 1
  | .undef => 0
  | _ => 1
def D.blkL : List D → Nat
  | [] => 0
  | d :: l => D.blk d + D.blkL l
end
theorem bulk0_pos {H : Type} (x : DataW H) : 1 ≤ bulk0 x := by
  cases x with
  | lit l => cases l <;> simp [bulk0]
  | _ => simp [bulk0]
theorem blkL_undef : ∀ n : Nat, D.blkL (List.replicate n .undef) = 0
  | 0 => rfl
  | n + 1 => by rw [List.replicate_succ, D.blkL, blkL_undef n]; rfl
theorem D.blkL_append : ∀ a b : List D, D.blkL (a ++ b) = D.blkL a + D.blkL b
  | [], b => by simp [D.blkL]
  | x :: a, b => by simp only [List.cons_append, D.blkL, D.blkL_append a b]; omega
/-- the weight of a value's cells -/
def wtB (P : Program) (t : TypeId) (n : Nat) : Nat := if aggB P t = some true then n + 1 else n
theorem wtB_le {t : TypeId} (n : Nat) : n ≤ wtB P t n := by unfold wtB; split <;> omega
theorem whole_blk {e : TypeId} (ds : List D) : ((whole ((aggB P e).getD false) ds).getD .undef).blk ≤ wtB P e (D.blkL ds) := by
  unfold wtB whole
  cases h : aggB P e with
  | none => cases ds <;> simp [D.blk, D.blkL]
  | some ag =>
    cases ag with
    | true => simp [D.blk]
    | false => cases ds <;> simp [D.blk, D.blkL]

theorem rd_fields {g : G} {cs : List Value} : ∀ (fs : List Field) (bs : List Nat) (k : Nat), fs.length = bs.length → (∀ (j : Nat) (f : Field), fs[j]? = some f → f.offset = k + ((fs.take j).map fun f => P.cellsOf f.type).sum) → cs.length = k + (fs.map fun f => P.cellsOf f.type).sum →
    (∀ (i : Nat) (f : Field) (b : Nat), fs[i]? = some f → bs[i]? = some b → ∃ ds, D.blkL ds ≤ b ∧ Rd P f.type ds ∧ ds.length = ((cs.drop f.offset).take (P.cellsOf f.type)).length ∧ ∀ (j : Nat) (d : D), ds[j]? = some d → V g d (((cs.drop f.offset).take (P.cellsOf f.type)).getD j undef)) →
    ∃ dss : List (List D), D.blkL dss.flatten ≤ bs.sum ∧ dss.length = fs.length ∧ (∀ (j : Nat) (f : Field) (ds : List D), fs[j]? = some f → dss[j]? = some ds → Rd P f.type ds) ∧ dss.flatten.length = (fs.map fun f => P.cellsOf f.type).sum ∧ ∀ (j : Nat) (d : D), dss.flatten[j]? = some d → V g d (cs.getD (k + j) undef)
  | [], bs, k, _, _, _, _ => ⟨[], by simp [D.blkL], rfl, fun j f ds h => by simp at h, rfl, fun j d h => by simp at h⟩
  | f :: fs, [], k, hbl, _, _, _ => by simp at hbl
  | f :: fs, b :: bs, k, hbl, hoff, hlen, hr => by
    have hf : f.offset = k := by simpa using hoff 0 f rfl
    obtain ⟨ds, h0, h1, h2, h3⟩ := hr 0 f b rfl rfl
    simp only [List.map_cons, List.sum_cons] at hlen
    have hdl : ds.length = P.cellsOf f.type := by rw [h2, hf]; simp; omega
    obtain ⟨dss, k0, k1, k2, k3, k4⟩ := rd_fields fs bs (k + P.cellsOf f.type) (by simpa using hbl) (fun j f' hj => by
      have := hoff (j + 1) f' (by simpa using hj)
      simp only [List.take_succ_cons, List.map_cons, List.sum_cons] at this
      omega) (by omega) (fun i f' b' hf' hb' => hr (i + 1) f' b' (by simpa using hf') (by simpa using hb'))
    refine ⟨ds :: dss, by rw [List.flatten_cons, D.blkL_append, List.sum_cons]; omega, by simp [k1], ?_, by simp [hdl, k3], ?_⟩
    · intro j f' ds' hj hd
      cases j with
      | zero => simp at hj hd; subst hj hd; exact h1
      | succ j => exact k2 j f' ds' (by simpa using hj) (by simpa using hd)
    · intro j d hd
      rw [List.flatten_cons] at hd
      rcases Nat.lt_or_ge j ds.length with hlt | hge
      · rw [List.getElem?_append_left hlt] at hd
        have := h3 j d hd
        rw [hf] at this
        have e : ((cs.drop k).take (P.cellsOf f.type)).getD j undef = cs.getD (k + j) undef := by
          simp only [List.getD_eq_getElem?_getD]
          rw [List.getElem?_take, if_pos (by omega), List.getElem?_drop]
        rwa [e] at this
      · rw [List.getElem?_append_right hge] at hd
        have := k4 _ d hd
        rwa [show k + P.cellsOf f.type + (j - ds.length) = k + j by omega] at this

theorem sum_range_getD : ∀ (l : List Nat), ((List.range l.length).map fun i => (l[i]?).getD 0).sum = l.sum
  | [] => rfl
  | x :: l => by
    rw [List.length_cons, List.range_succ_eq_map, List.map_cons, List.sum_cons, List.sum_cons, List.map_map]
    have := sum_range_getD l
    simp only [Function.comp_def, List.getElem?_cons_succ, List.getElem?_cons_zero, Option.getD_some]
    rw [this]
theorem bulk0L_map {H : Type} : ∀ l : List (DataW H × List MemPlace), bulk0L (l.map (·.1)) = (l.map fun y => bulk0 y.1).sum
  | [] => rfl
  | x :: l => by rw [List.map_cons, bulk0L, bulk0L_map l, List.map_cons, List.sum_cons]
theorem rd_row {g : G} (hg : ∀ b o, w.heap[b]? = some o → g.m b = some o) {e : TypeId} {a : Addr} {len cap : Nat} {b : Nat → Nat} (hz : 0 < P.cellsOf e) (hag : ∃ ag, aggB P e = some ag ∧ (ag = false → P.cellsOf e = 1)) (hlc : len ≤ cap) (hcm : cap ≤ 9223372036854775807)
    (h : ∀ i, i < len → ∃ cs, w.cells? base (a.add (i * P.cellsOf e)) (P.cellsOf e) = some cs ∧ ∃ ds, wtB P e (D.blkL ds) ≤ b i ∧ Rd P e ds ∧ ds.length = cs.length ∧ ∀ (j : Nat) (d : D), ds[j]? = some d → V g d (cs.getD j undef)) :
    ∃ dss : List (List D), D.blkL (dss.map fun ds => (whole ((aggB P e).getD false) ds).getD .undef) ≤ ((List.range len).map b).sum ∧ (∀ ds ∈ dss, ds.length = P.cellsOf e) ∧ (∀ ds ∈ dss, Rd P e ds) ∧ V g (.ro false (dss.map fun ds => (whole ((aggB P e).getD false) ds).getD .undef)) (.slice (some a) len cap) := by
  obtain ⟨ag, hag1, hag2⟩ := hag
  have add_block : ∀ j, (a.add j).block = a.block := fun j => by unfold Addr.add; split <;> rfl
  have add_off : ∀ j, (a.add j).off = a.off + j := fun j => by unfold Addr.add; split <;> simp_all
  rcases Nat.eq_zero_or_pos len with h0 | hpos
  · subst h0
    exact ⟨[], by simp [D.blkL], by simp, by simp, .roNone hcm (by simp)⟩
  · obtain ⟨cs0, hc0, _⟩ := h 0 hpos
    obtain ⟨_, hs0⟩ := cells?_spec hc0
    obtain ⟨c, t, fz, sp, hb, _, _⟩ := hs0 hz
    have a0 : a.add (0 * P.cellsOf e) = a := by simp [Addr.add]
    rw [a0] at sp hb
    -- the rows, one by one
    have key : ∀ m, m ≤ len → ∃ dss : List (List D), D.blkL (dss.map fun ds => (whole ((aggB P e).getD false) ds).getD .undef) ≤ ((List.range m).map b).sum ∧ dss.length = m ∧ (∀ ds ∈ dss, ds.length = P.cellsOf e) ∧ (∀ ds ∈ dss, Rd P e ds) ∧ (m = 0 ∨ a.off + m * P.cellsOf e ≤ c.size) ∧ ∀ (j : Nat) (d : D), dss.flatten[j]? = some d → V g d (c.getD (a.off + j) undef) := by
      intro m
      induction m with
      | zero => intro _; exact ⟨[], by simp [D.blkL], rfl, by simp, by simp, .inl rfl, fun j d hd => by simp at hd⟩
      | succ m ih =>
        intro hm
        obtain ⟨dss, k0, k1, k2, k3, k4, k5⟩ := ih (by omega)
        obtain ⟨cs, hc, ds, q0, q1, q2, q3⟩ := h m (by omega)
        obtain ⟨hl, hs⟩ := cells?_spec hc
        obtain ⟨c', t', fz', _, hb', hsz, hcs⟩ := hs hz
        rw [add_block, hb] at hb'
        simp only [Option.some.injEq, Obj.cells.injEq] at hb'
        obtain ⟨rfl, _, _⟩ := hb'
        rw [add_off] at hsz
        have hfl : dss.flatten.length = m * P.cellsOf e := by
          rw [List.length_flatten]
          have : dss.map List.length = List.replicate m (P.cellsOf e) := by
            rw [List.eq_replicate_iff]
            exact ⟨by simp [k1], fun x hx => by simp only [List.mem_map] at hx; obtain ⟨y, hy, rfl⟩ := hx; exact k2 y hy⟩
          rw [this]; simp
        refine ⟨dss ++ [ds], by
          have := whole_blk (P := P) (e := e) ds
          rw [List.map_append, D.blkL_append, List.range_succ, List.map_append, List.sum_append]
          simp only [List.map_cons, List.map_nil, D.blkL, List.sum_cons, List.sum_nil]
          omega, by simp [k1], ?_, ?_, .inr (by rw [Nat.add_mul]; omega), ?_⟩
        · intro x hx; simp only [List.mem_append, List.mem_singleton] at hx
          rcases hx with hx | rfl
          · exact k2 x hx
          · rw [q2, hl]
        · intro x hx; simp only [List.mem_append, List.mem_singleton] at hx
          rcases hx with hx | rfl
          · exact k3 x hx
          · exact q1
        · intro j d hd
          simp only [List.flatten_append, List.flatten_cons, List.flatten_nil, List.append_nil] at hd
          rcases Nat.lt_or_ge j dss.flatten.length with hlt | hge
          · rw [List.getElem?_append_left hlt] at hd; exact k5 j d hd
          · rw [List.getElem?_append_right hge, hfl] at hd
            have hj := (List.getElem?_eq_some_iff.1 hd).1
            rw [q2, hl] at hj
            have := q3 _ d hd
            rw [hcs _ hj, add_off] at this
            rw [hfl] at hge
            rwa [show a.off + m * P.cellsOf e + (j - m * P.cellsOf e) = a.off + j by omega] at this
    obtain ⟨dss, k0, k1, k2, k3, k4, k5⟩ := key len (Nat.le_refl _)
    have hcells : ∀ ds ∈ dss, ((whole ((aggB P e).getD false) ds).getD .undef).cells = ds := fun ds hds => by
      rw [hag1]
      refine whole_cells fun hf => ?_
      simp only [Option.getD_some] at hf
      exact (k3 ds hds).scalar (k2 ds hds) (by rw [hag1, hf]) (hag2 hf)
    have hflat : (dss.map fun ds => (whole ((aggB P e).getD false) ds).getD .undef).flatMap D.cells = dss.flatten := by
      rw [List.flatMap_def, List.map_map]
      congr 1
      have : ∀ ds ∈ dss, (D.cells ∘ fun ds => (whole ((aggB P e).getD false) ds).getD .undef) ds = id ds := fun ds hds => hcells ds hds
      rw [List.map_congr_left this]
      simp
    refine ⟨dss, k0, k2, k3, ?_⟩
    have ha : a = ⟨a.block, a.off, none⟩ := by cases a; simp only at sp; subst sp; rfl
    have := V.ro (g := g) (ex := false) (elems := dss.map fun ds => (whole ((aggB P e).getD false) ds).getD .undef) (b := a.block) (off := a.off) (cap := cap) (sz := P.cellsOf e) (hg _ _ hb) (by
      intro x hx
      simp only [List.mem_map] at hx
      obtain ⟨ds, hds, rfl⟩ := hx
      rw [hcells ds hds]; exact k2 ds hds) (by simp only [List.length_map, k1]; omega) (by simp only [List.length_map, k1]; exact hlc) hcm (by simp) (by
      intro j d hd
      rw [hflat] at hd
      exact k5 j d hd)
    rw [ha]
    simpa [k1] using this

theorem rd {g : G} (hg : ∀ b o, w.heap[b]? = some o → g.m b = some o) (hok : tyOk P = true) (K : Kids P (· < P.types.size)) : ∀ (n : Nat) (t : TypeId) (cs : List Value) (x : DataW H × List MemPlace), t < P.types.size → DataW.trod enc P w base spare held n t cs = some x →
    ∃ ds, wtB P t (D.blkL ds) ≤ bulk0 x.1 ∧ Rd P t ds ∧ ds.length = cs.length ∧ ∀ (j : Nat) (d : D), ds[j]? = some d → V g d (cs.getD j undef) := by
  intro n
  induction n with
  | zero => intro t cs x _ h; simp [DataW.trod] at h
  | succ n ih =>
    intro t cs x ht h
    have one : ∀ (d : D) (v : Value), wtB P t (D.blkL [d]) ≤ bulk0 x.1 → Rd P t [d] → V g d v → ∃ ds, wtB P t (D.blkL ds) ≤ bulk0 x.1 ∧ Rd P t ds ∧ ds.length = [v].length ∧ ∀ (j : Nat) (d : D), ds[j]? = some d → V g d ([v].getD j undef) := fun d v h0 h1 h2 =>
      ⟨[d], h0, h1, rfl, fun j d' hd => by
        cases j with
        | zero => simp at hd; subst hd; exact h2
        | succ j => simp at hd⟩
    have vl : veil P t = true → ∃ ds, wtB P t (D.blkL ds) ≤ bulk0 x.1 ∧ Rd P t ds ∧ ds.length = cs.length ∧ ∀ (j : Nat) (d : D), ds[j]? = some d → V g d (cs.getD j undef) := fun hv =>
      ⟨List.replicate cs.length .undef, by rw [blkL_undef]; have := bulk0_pos x.1; unfold wtB; split <;> omega, .veil hv _, by simp, fun j d hd => by
        have := List.mem_of_getElem? hd
        rw [(List.mem_replicate.1 this).2]; exact .undef⟩
    rw [DataW.trod_step] at h
    unfold DataW.trodStep at h
    split at h
    · rename_i b hu; exact one _ _ (by simp only [Option.some.injEq] at h; subst h; unfold wtB aggB; rw [hu]; simp [D.blk, D.blkL, bulk0]) (.bool hu b) (.sc trivial)
    · rename_i k k' m hu
      split at h
      · rename_i hc; obtain ⟨rfl, hw⟩ := hc; exact one _ _ (by simp only [Option.some.injEq] at h; subst h; unfold wtB aggB; rw [hu]; simp [D.blk, D.blkL, bulk0]) (.int hu m hw) (.sc trivial)
      · cases h
    · rename_i k k' m hu
      split at h
      · rename_i hc; obtain ⟨rfl, hw⟩ := hc; exact one _ _ (by simp only [Option.some.injEq] at h; subst h; unfold wtB aggB; rw [hu]; simp [D.blk, D.blkL, bulk0]) (.float hu m hw) (.sc trivial)
      · cases h
    · rename_i s hu
      split at h
      · rename_i hc; exact one _ _ (by simp only [Option.some.injEq] at h; subst h; unfold wtB aggB; rw [hu]; simp [D.blk, D.blkL, bulk0]) (.str hu s hc) (.sc hc)
      · cases h
    · rename_i hu; exact one _ _ (by simp only [Option.some.injEq] at h; subst h; unfold wtB aggB; rw [hu]; simp [D.blk, D.blkL, bulk0]) (.nilp hu) .nilp
    · rename_i e a hu
      simp only [Option.map_eq_some_iff, Option.bind_eq_some_iff] at h
      obtain ⟨y, ⟨cs', hcs, hy⟩, hx⟩ := h
      obtain ⟨ds, h0, h1, h2, h3⟩ := ih e cs' y (K.pointer ht hu) hy
      obtain ⟨hl, hs⟩ := cells?_spec hcs
      rcases Nat.eq_zero_or_pos (P.cellsOf e) with hz | hz
      · exact vl (by unfold veil; rw [hu]; simp [hz])
      · obtain ⟨c, t', fz, sp, hb, hsz, hc⟩ := hs hz
        refine one _ _ (by have := wtB_le (P := P) (t := e) (D.blkL ds); rw [← hx]; unfold wtB aggB; rw [hu]; simp [D.blk, D.blkL, bulk0]; omega) (.rp hu ds h1) ?_
        have ha : a = ⟨a.block, a.off, none⟩ := by cases a; simp only at sp; subst sp; rfl
        rw [ha]
        refine .rp (hg _ _ hb) (by rw [h2, hl]; exact hsz) fun j d hd => ?_
        have hj := (List.getElem?_eq_some_iff.1 hd).1
        rw [h2, hl] at hj
        rw [← hc j hj]
        exact h3 j d hd
    · rename_i e hu; exact one _ _ (by simp only [Option.some.injEq] at h; subst h; unfold wtB aggB; rw [hu]; simp [D.blk, D.blkL, bulk0]) (.nils hu) .nils
    · rename_i e a len cap hu
      simp only at h
      split at h
      · rename_i hcond
        simp only [Option.bind_eq_some_iff, Option.map_eq_some_iff] at h
        obtain ⟨elems, he, rest, _, hx⟩ := h
        obtain ⟨he1, he2⟩ := mapM_len he
        obtain ⟨hz, hai⟩ := tyOk_slice hok ht hu
        obtain ⟨ag, hag⟩ := Option.isSome_iff_exists.1 hai
        have hte := K.slice ht hu
        obtain ⟨dss, k0, k1, k2, k3⟩ := rd_row (base := base) (b := fun i => ((elems.map fun y => bulk0 y.1)[i]?).getD 0) (len := len) (cap := cap) (a := a) hg hz ⟨ag, hag, fun hf => by
          subst hf
          exact tyOk_one hok hte hag⟩ hcond.2.1 (by have := hcond.2.2; unfold maxLen at this; omega) (fun i hi => by
          obtain ⟨y, hyi, hy⟩ := he2 i i (by simp [hi])
          simp only [Option.bind_eq_some_iff] at hy
          obtain ⟨cs', hcs, hy⟩ := hy
          obtain ⟨ds, q0, q1, q2, q3⟩ := ih e cs' y hte hy
          exact ⟨cs', hcs, ds, by simpa [hyi] using q0, q1, q2, q3⟩)
        refine one _ _ ?_ (.ro hu dss k1 k2) k3
        have hlen : len = (elems.map fun y => bulk0 y.1).length := by rw [List.length_map, he1, List.length_range]
        rw [hlen, sum_range_getD, ← bulk0L_map] at k0
        have hw : ∀ n, wtB P t n = n := fun n => by unfold wtB aggB; rw [hu]; simp
        rw [← hx, hw]; simp [D.blk, D.blkL, bulk0]; omega
      · cases h
    · rename_i cs _ _ fs hu
      split at h
      · rename_i hlen
        simp only [Option.map_eq_some_iff] at h
        obtain ⟨xs, hxs, hx⟩ := h
        obtain ⟨hx1, hx2⟩ := mapM_len hxs
        obtain ⟨s1, s2, s3⟩ := K.struct ht hu
        obtain ⟨dss, k0, k1, k2, k3, k4⟩ := rd_fields (P := P) (g := g) (cs := cs) fs.toList (xs.map fun y => bulk0 y.1) 0 (by rw [List.length_map, hx1]) (fun j f hj => by rw [s3 j f hj]; simp) (by rw [hlen, s2]; simp) (fun j f b hj hb => by
          obtain ⟨y, hyj, hy⟩ := hx2 j f hj
          obtain ⟨ds, q0, q⟩ := ih f.type _ y (s1 f (List.mem_of_getElem? hj)) hy
          rw [List.getElem?_map, hyj] at hb
          simp only [Option.map_some, Option.some.injEq] at hb
          exact ⟨ds, by have := wtB_le (P := P) (t := f.type) (D.blkL ds); omega, q⟩)
        refine ⟨dss.flatten, by rw [← bulk0L_map] at k0; rw [← hx]; unfold wtB aggB; rw [hu]; simp [bulk0]; omega, .struct hu dss (by rw [k1]; simp) k2, by rw [k3, hlen, s2], fun j d hd => by simpa using k4 j d hd⟩
      · cases h
    · rename_i hu; exact vl (by unfold veil; rw [hu])
    · rename_i hu; exact vl (by unfold veil; rw [hu])
    · rename_i hu; exact vl (by unfold veil; rw [hu])
    · rename_i hu; exact vl (by unfold veil; rw [hu])
    · rename_i hu; exact vl (by unfold veil; rw [hu])
    · rename_i hu; exact vl (by unfold veil; rw [hu])
    · rename_i hu; exact vl (by unfold veil; rw [hu])
    · rename_i hu; exact vl (by unfold veil; rw [hu])
    · rename_i hu; exact vl (by unfold veil; rw [hu])
    · rename_i hu; exact vl (by unfold veil; rw [hu])
    · rename_i hu; exact vl (by unfold veil; rw [hu])
    · cases h

end
end Go.Bw

/- The framework, part 21: a law, from a call of it. -/
namespace Go.Bw
open Go Go.ChangeShapes Go.WideShapes Go.RowKit

/-- an abstract argument of a type -/
def Arg (P : Program) (t : TypeId) (d : D) : Prop := ∃ cs, Rd P t cs ∧ cs.length = P.cellsOf t ∧ d = (whole ((aggB P t).getD false) cs).getD .undef

def Args (P : Program) (ts : List TypeId) (dl : List D) : Prop := dl.length = ts.length ∧ ∀ (j : Nat) (t : TypeId) (d : D), ts[j]? = some t → dl[j]? = some d → Arg P t d

theorem Args.nil {P : Program} : Args P [] [] := ⟨rfl, fun j t d h => by simp at h⟩

theorem Args.cons {P : Program} {t : TypeId} {ts : List TypeId} {dl : List D} (h : Args P (t :: ts) dl) : ∃ d r, dl = d :: r ∧ Arg P t d ∧ Args P ts r := by
  obtain ⟨h1, h2⟩ := h
  cases dl with
  | nil => simp at h1
  | cons d r => exact ⟨d, r, rfl, h2 0 t d rfl rfl, by simpa using h1, fun j t' d' hj hd => h2 (j + 1) t' d' (by simpa using hj) (by simpa using hd)⟩

theorem Args.none {P : Program} {dl : List D} (h : Args P [] dl) : dl = [] := List.length_eq_zero_iff.1 h.1

section
variable {H : Type} {enc : TypeId × Value → H} {P : Program}

theorem okWide_cell {W : World} {r : Reach} {base : Nat} {t : TypeId} {v : Value} (ha : aggB P t = some false) (h : Value.okWide P W r base t v) : v.cells.toList = [v] := by
  unfold aggB at ha
  unfold Value.okWide at h
  cases v with
  | agg cs =>
    cases hu : P.underlying t with
    | none => rw [hu] at ha; cases ha
    | some d => rw [hu] at h ha; cases d <;> simp_all [Cell.okWide, Cell.ok]
  | _ => rfl

theorem okWide_agg {W : World} {r : Reach} {base : Nat} {t : TypeId} {v : Value} (ha : aggB P t = some true) (h : Value.okWide P W r base t v) : ∃ cs, v = .agg cs := by
  unfold aggB at ha
  unfold Value.okWide at h
  cases hu : P.underlying t with
  | none => rw [hu] at ha; cases ha
  | some d =>
    rw [hu] at h ha
    cases d <;> simp at ha
    · obtain ⟨cs, h1, _⟩ := h; exact ⟨cs, h1⟩
    · obtain ⟨cs, h1, _⟩ := h; exact ⟨cs, h1⟩

def g0 (W : World) : G := ⟨fun b => W.heap[b]?, fun _ _ => none⟩

theorem sim0 (W : World) : Sim (g0 W) St.empty W where
  imm := fun b o h => h
  sto := fun i e h => by cases h
  inj := fun i j e e' b n n' h => by cases h
  fresh := fun i v _ => rfl
  tabs := fun i _ => rfl
  later := fun i e v h => by cases h
  inb := fun i v b n h => by cases h

theorem law_arg {W : World} {base : Nat} (hok : tyOk P = true) (K : Kids P (· < P.types.size)) {sp : Nat → Bool} {hd : Bool} {b0 : Nat} {t : TypeId} {v : Value} {x : DataW H} {ps : List MemPlace} (ht : t < P.types.size) (ha : (aggB P t).isSome = true) (hl : laidOutB P = true)
    (hval : Value.okWide P W .any base t v) (h : DataW.Trod enc P W b0 sp hd t v x ps) : ∃ d, d.blk ≤ bulk0 x ∧ Arg P t d ∧ V (g0 W) d v := by
  obtain ⟨n, hn⟩ := h
  obtain ⟨cs, h0, h1, h2, h3⟩ := rd (g := g0 W) (fun b o k => k) hok K n t v.cells.toList _ ht hn
  obtain ⟨ag, hag⟩ := Option.isSome_iff_exists.1 ha
  cases ag with
  | true =>
    obtain ⟨vs, rfl⟩ := okWide_agg hag hval
    have hsz : vs.size = P.cellsOf t := by
      unfold aggB at hag
      unfold Value.okWide at hval
      cases hu : P.underlying t with
      | none => rw [hu] at hag; cases hag
      | some d =>
        rw [hu] at hag hval
        cases d <;> simp at hag
        · obtain ⟨cs, q1, q2, _⟩ := hval; simp at q1; subst q1; exact q2
        · obtain ⟨cs, q1, q2, _⟩ := hval; simp at q1; subst q1; exact q2
    refine ⟨.agg cs, by simpa [wtB, hag, D.blk] using h0, ⟨cs, h1, by rw [h2]; simpa [Value.cells] using hsz, by rw [hag]; rfl⟩, .agg (by rw [h2]; simp [Value.cells]) fun j d hd => ?_⟩
    have := h3 j d hd
    simpa [Value.cells, Array.getD_eq_getD_getElem?, List.getD_eq_getElem?_getD] using this
  | false =>
    have hc := okWide_cell hag hval
    rw [hc] at h2 h3
    have hone := tyOk_one hok ht hag
    obtain ⟨d, rfl, hd⟩ := h1.scalar (by rw [h2, hone]; rfl) hag hone
    exact ⟨d, by simpa [wtB, hag, D.blkL] using h0, ⟨[d], h1, by rw [hone]; rfl, by rw [hag]; rfl⟩, by simpa using h3 0 d rfl⟩

theorem law_args {W : World} {base : Nat} (hok : tyOk P = true) (K : Kids P (· < P.types.size)) (hl : laidOutB P = true) {sp : Nat → Bool} {hd : Bool} {b0 : Nat} : ∀ (ts : List TypeId) (vs : List Value) (ds : List (DataW H)) (ps : List MemPlace), (∀ t ∈ ts, t < P.types.size ∧ (aggB P t).isSome = true) →
    (∀ (j : Nat) t v, ts[j]? = some t → vs[j]? = some v → Value.okWide P W .any base t v) → DataW.TrodAll enc P W b0 sp hd ts vs ds ps →
    ∃ dl, D.blkL dl ≤ bulk0L ds ∧ Args P ts dl ∧ vs.length = dl.length ∧ ∀ (j : Nat) (d : D), dl[j]? = some d → V (g0 W) d (vs.getD j undef)
  | [], vs, ds, ps, _, _, h => by
    obtain ⟨rfl, rfl, _⟩ := trodAll_nil h
    exact ⟨[], by simp [D.blkL], .nil, rfl, fun j d hd => by simp at hd⟩
  | t :: ts, vs, ds, ps, ht, hval, h => by
    obtain ⟨v, vs', d, ds', p, q, rfl, rfl, rfl, h1, h2⟩ := trodAll_cons h
    obtain ⟨a, ha0, ha1, ha2⟩ := law_arg hok K (ht t (List.mem_cons_self ..)).1 (ht t (List.mem_cons_self ..)).2 hl (hval 0 t v rfl rfl) h1
    obtain ⟨dl, k0, k1, k2, k3⟩ := law_args hok K hl ts vs' ds' q (fun t' ht' => ht t' (List.mem_cons_of_mem _ ht')) (fun j t' v' hj hv => hval (j + 1) t' v' (by simpa using hj) (by simpa using hv)) h2
    refine ⟨a :: dl, by simp only [D.blkL, bulk0L]; omega, ⟨by simp [k1.1], fun j t' d' hj hd => ?_⟩, by simp [k2], fun j d' hd => ?_⟩
    · cases j with
      | zero => simp at hj hd; subst hj hd; exact ha1
      | succ j => exact k1.2 j t' d' (by simpa using hj) (by simpa using hd)
    · cases j with
      | zero => simp at hd; subst hd; exact ha2
      | succ j => simpa using k3 j d' (by simpa using hd)

/-- old memory is as it was: so what came in reads as it did -/
theorem trod_after {W W' : World} (hold : ∀ b, b < W.heap.size → W'.heap[b]? = W.heap[b]?) (hok : tyOk P = true) (K : Kids P (· < P.types.size)) {ts : List TypeId} {vs : List Value} {ds : List (DataW H)} {ps : List MemPlace} (ht : ∀ t ∈ ts, t < P.types.size)
    (h : DataW.TrodAll enc P W 0 (fun _ => true) true ts vs ds ps) {sp : Nat → Bool} (hsp : ∀ p ∈ ps, sp p.block = true) : DataW.TrodAll enc P W' 0 sp true ts vs ds ps := by
  have h1 := DataW.TrodAll.respare (spare' := sp) K (fun t e hT hu => (tyOk_slice hok hT hu).1) ht h hsp
  have hlt := DataW.TrodAll.lt h
  have carry : ∀ {ts : List TypeId} {vs : List Value} {ds : List (DataW H)} {ps : List MemPlace}, DataW.TrodAll enc P W 0 sp true ts vs ds ps → (∀ p ∈ ps, p.block < W.heap.size) → DataW.TrodAll enc P W' 0 sp true ts vs ds ps := by
    intro ts
    induction ts with
    | nil =>
      intro vs ds ps h _
      obtain ⟨rfl, rfl, rfl⟩ := trodAll_nil h
      exact trodAll_mk0
    | cons t ts ih =>
      intro vs ds ps h hb
      obtain ⟨v, vs', d, ds', p, q, rfl, rfl, rfl, ⟨n, hn⟩, h2⟩ := trodAll_cons h
      refine ⟨p, q, ⟨n, DataW.trod_carry n _ _ _ hn fun x hx => ?_⟩, ih h2 (fun x hx => hb x (List.mem_append_right _ hx)), rfl⟩
      have hlt := hb x (List.mem_append_left _ hx)
      cases x with
      | cell b off =>
        have := hold b hlt
        simp only [World.sameAt, World.cell?]
        rw [this]
      | map b => exact hold b hlt
  exact carry h1 hlt

theorem law_post {f : Func} {s : ChangeSpec} {W W' : World} {args : Array Value} {ds gs : List (DataW H)} {before : List MemPlace} {tb : TypeId} (hok : tyOk P = true) (K : Kids P (· < P.types.size)) (ht : ∀ t ∈ f.params.toList, t < P.types.size) (hvars : s.vars = [])
    (hres : f.resultTypes = #[tb]) (htb : P.underlying tb = some .bool) (hspec : s.fn H ds = { results := [.lit (.bool true)], args := ds, vars := [] }) (hW : DataW.Whole enc P f.params.toList s.vars false W args.toList ds gs before)
    (hold : ∀ b, b < W.heap.size → W'.heap[b]? = W.heap[b]?) (hsz : W.heap.size ≤ W'.heap.size) (hos : W'.os = W.os) (hout : W'.output = W.output) : s.post enc P f false true false false W args (.bool true) W' := by
  have hW' := hW
  obtain ⟨p, q, hA, hV, rfl, hz, hn⟩ := hW'
  rw [hvars] at hV
  obtain ⟨rfl, rfl⟩ := trodVars_none hV
  have hlt := DataW.TrodAll.lt hA
  have hA' : ∀ sp : Nat → Bool, (∀ x ∈ p, sp x.block = true) → DataW.TrodAll enc P W' 0 sp true f.params.toList args.toList ds p := fun sp hsp => trod_after hold hok K ht hA hsp
  have hR : ∀ (b : Nat) (sp : Nat → Bool) (hd : Bool), DataW.TrodAll enc P W' b sp hd f.resultTypes.toList ((Value.bool true).resultList f.resultTypes.size) [.lit (.bool true)] [] := fun b sp hd => by
    rw [hres]
    exact trodAll_mk1 (shut_bool htb true)
  refine ⟨ds, [], p ++ [], [], p, [], hW, ?_, ?_, ?_, ?_, fun _ => ⟨?_, _, _, ([] ++ p) ++ [], ⟨[] ++ p, [], trodAll_append (hA' _ (fun _ _ => rfl)) (hR _ _ _), (by rw [hvars]; exact rfl : DataW.TrodVars enc P W' (fun _ => true) s.vars [] []), rfl, ?_, fun h => by cases h⟩, ?_⟩⟩
  · rw [List.append_nil, hspec]; exact hR _ _ _
  · rw [List.append_nil, hspec]; exact hA' _ (fun x hx => by simpa using hlt x hx)
  · rw [List.append_nil, hspec, hvars]; rfl
  · refine ⟨hos, hout, fun i hi => ?_⟩
    have h1 := hold i hi
    rw [h1]
    cases hh : W.heap[i]? with
    | none => trivial
    | some o =>
      cases o with
      | cells c t fr => exact ⟨rfl, rfl, rfl, fun _ _ => rfl⟩
      | map es clock => exact .inr ⟨rfl, rfl⟩
      | _ => rfl
  · exact ok_one hres rfl (okWide_bool_mk htb true)
  · intro b off hp
    simp only [List.nil_append, List.append_nil] at hp
    have h1 := hold b (by simpa [MemPlace.block] using hlt _ hp)
    have h2 := hz b off (by simpa using hp)
    unfold World.frozen? at h2 ⊢
    simp only [h1]
    exact h2
  · intro x hx _
    simpa using hx



end
end Go.Bw

/- The framework, part 22: a call that writes one row, proved in a small store, is used in any store. -/
namespace Go.Bw
open Go

def St.one (ob : List D) : St := ⟨1, fun i => if i = 0 then some ⟨0, ob⟩ else none⟩

theorem St.one_next (ob : List D) : (St.one ob).next = 1 := rfl
theorem St.one_tab (ob : List D) (i : Nat) : (St.one ob).tab i = if i = 0 then some ⟨0, ob⟩ else none := rfl

section
variable {P : Program} {GL : Nat → D} {S : St}

/-- ids that are let go of: 'id's row alone is known -/
def G.only (g : G) (id ver : Nat) : G := ⟨g.m, fun i v => if i = 0 ∧ v = 0 then g.r id ver else none⟩

theorem Sim.only {g : G} {w : World} {id ver : Nat} {ob : List D} (hs : Sim g S w) (he : S.tab id = some ⟨ver, ob⟩) (hf : ∀ d ∈ ob, d.free) : Sim (g.only id ver) (St.one ob) w where
  imm := hs.imm
  sto := fun i e h => by
    rw [St.one_tab] at h
    split at h
    · rename_i hi
      simp only [Option.some.injEq] at h
      subst h hi
      obtain ⟨b, n, c, t, fz, a1, a2, a3, a4, a5, a6, a7⟩ := hs.sto id _ he
      exact ⟨b, n, c, t, fz, by simp [G.only, a1], a2, a3, a4, a5, a6, fun j d hd => V.free (g := g) (g' := g.only id ver) (fun _ _ k => k) (a7 j d hd) (hf d (List.mem_of_getElem? hd))⟩
    · cases h
  inj := fun i j e e' b n n' h1 h2 _ _ => by
    rw [St.one_tab] at h1 h2
    split at h1
    · split at h2
      · rename_i a c; rw [a, c]
      · cases h2
    · cases h1
  fresh := fun i v h => by
    have : ¬ (i = 0 ∧ v = 0) := by rw [St.one_next] at h; omega
    simp [G.only, this]
  tabs := fun i h => by rw [St.one_next] at h; rw [St.one_tab, if_neg (by omega)]
  later := fun i e v h hv => by
    rw [St.one_tab] at h
    split at h
    · simp only [Option.some.injEq] at h
      subst h
      have : ¬ (i = 0 ∧ v = 0) := by simp only at hv; omega
      simp [G.only, this]
    · cases h
  inb := fun i v b n h => by
    simp only [G.only] at h
    split at h
    · exact hs.inb _ _ _ _ h
    · cases h


end
end Go.Bw

/- The framework, part 23: the set of the walk; conversions. -/
namespace Go.Bw
open Go

section
variable {P : Program} {S : St} {src dst : TypeId}

theorem pureRun_bind {α β : Type} (P : Program) (f : α → Sem β) : ∀ s : Sem α, pureRun P (s >>= f) = (pureRun P s).bind (fun a => pureRun P (f a)) := by
  intro s
  show pureRun P (Sem.bind s f) = _
  induction s with
  | pure a => rfl
  | program k ih => exact ih P
  | mark _ k ih => exact ih
  | _ => rfl

theorem pureRun_pure {α : Type} (P : Program) (a : α) : pureRun P (pure a) = some a := rfl
theorem pureRun_choose (P : Program) (q : Question) : pureRun P (choose q) = none := rfl

theorem pureRun_underlying {t : TypeId} {d : TypeDesc} (h : P.underlying t = some d) : pureRun P (underlying t) = some d := by
  unfold underlying program
  rw [pureRun_bind]
  show (some P).bind _ = _
  simp [h, pureRun_pure]

theorem conv_int {k k' : IntKind} {n : Int} (h1 : P.underlying src = some (.int k)) (h2 : P.underlying dst = some (.int k')) : convD P S src dst (.sc (.int k n)) = some (.sc (.int k' (k'.wrap n)), S) := by
  simp [convD, pureD, convert, pureRun_bind, pureRun_underlying h1, pureRun_underlying h2, Conv.intToInt, pureRun_pure, resD]

theorem conv_bytes {e : TypeId} {s : ByteArray} (h1 : P.underlying src = some .string) (h2 : P.underlying dst = some (.slice e)) (h3 : P.underlying e = some (.int .u8)) : convD P S src dst (.sc (.string s)) = some (.ref S.next 0 1 0 s.size, S.new (bytesD s)) := by
  have hp : pureD P (convert src dst (.string s)) = none := by
    simp [pureD, convert, pureRun_bind, pureRun_underlying h1, pureRun_underlying h2, pureRun_underlying h3, Conv.stringToBytes, pureRun_choose, resD]
  simp [convD, hp, toBytesD, h2, isStr, isU8, h1, h3]

theorem strOf_bytesD (s : ByteArray) : ∃ l, intsOf (bytesD s) = some l ∧ strOf l = s := by
  refine ⟨s.data.toList.map fun b => (b.toNat : Int), ?_, ?_⟩
  · unfold bytesD
    induction s.data.toList with
    | nil => rfl
    | cons b l ih => simp only [List.map_cons, intsOf, ih, Option.map_some]
  · unfold strOf
    have : (s.data.toList.map fun b => (b.toNat : Int)).map (fun n => UInt8.ofNat n.toNat) = s.data.toList := by
      rw [List.map_map]
      conv => rhs; rw [← List.map_id s.data.toList]
      exact List.map_congr_left fun b _ => by simp
    rw [this]

theorem bytesD_cells (s : ByteArray) : (bytesD s).flatMap D.cells = bytesD s := by
  unfold bytesD
  induction s.data.toList with
  | nil => rfl
  | cons b l ih => simp only [List.map_cons, List.flatMap_cons, ih]; rfl
theorem bytesD_one (s : ByteArray) : (bytesD s).all D.one = true := by simp only [bytesD, List.all_map, List.all_eq_true]; intro x _; rfl
theorem bytesD_append (a b : ByteArray) : bytesD a ++ bytesD b = bytesD (a ++ b) := by
  simp [bytesD, ByteArray.data_append]

/-- bytes as a string -/
theorem conv_str_ro {e : TypeId} {ex : Bool} {s : ByteArray} (h1 : P.underlying src = some (.slice e)) (h2 : P.underlying dst = some .string) (h3 : P.underlying e = some (.int .u8)) : convD P S src dst (.ro ex (bytesD s)) = some (.sc (.string s), S) := by
  obtain ⟨l, q1, q2⟩ := strOf_bytesD s
  simp only [convD, toStrD, h1, isStr, h2, isU8, h3, and_self, if_true, sliceCells, bytesD_cells, bytesD_len, q1, q2, Option.map_some]

end
end Go.Bw

/- The framework, part 24: what is handed in, as plain data. -/
namespace Go.Bw
open Go

section
variable {P : Program}

theorem WkL.append {a a' b b' : List D} (h : WkL a a') (k : WkL b b') : WkL (a ++ b) (a' ++ b') := ⟨by simp [h.1, k.1], fun j d d' hd hd' => by
  rcases Nat.lt_or_ge j a.length with hlt | hge
  · rw [List.getElem?_append_left hlt] at hd
    rw [List.getElem?_append_left (by rw [← h.1]; exact hlt)] at hd'
    exact h.2 j d d' hd hd'
  · rw [List.getElem?_append_right hge] at hd
    rw [List.getElem?_append_right (by rw [← h.1]; exact hge)] at hd'
    rw [h.1] at hd
    exact k.2 _ d d' hd hd'⟩

theorem Wk.ro {ex : Bool} {es es' : List D} (hl : es.length = es'.length) (hc : ∀ (j : Nat) (e e' : D), es[j]? = some e → es'[j]? = some e' → WkL e.cells e'.cells) : Wk (.ro ex es) (.ro ex es') := by
  have hflat : ∀ (es es' : List D), es.length = es'.length → (∀ (j : Nat) (e e' : D), es[j]? = some e → es'[j]? = some e' → WkL e.cells e'.cells) → WkL (es.flatMap D.cells) (es'.flatMap D.cells) := by
    intro es
    induction es with
    | nil => intro es' h _; cases es' with
      | nil => exact .nil
      | cons => simp at h
    | cons x xs ih => intro es' h hh; cases es' with
      | nil => simp at h
      | cons y ys =>
        simp only [List.flatMap_cons]
        exact (hh 0 x y rfl rfl).append (ih ys (by simpa using h) fun j e e' h1 h2 => hh (j + 1) e e' (by simpa using h1) (by simpa using h2))
  intro g v hv
  have hnil : es = [] → es' = [] := fun h => by subst h; exact List.length_eq_zero_iff.1 (by simpa using hl.symm)
  cases hv with
  | roNil => rw [hnil rfl]; exact .roNil
  | roNone a b => rw [hnil rfl]; exact .roNone a b
  | ro hm hs h1 h2 h3 h4 h5 =>
    rw [hl]
    refine .ro hm (fun e' he' => ?_) (by rw [← hl]; exact h1) (by rw [← hl]; exact h2) h3 (by rw [← hl]; exact h4) ((hflat es es' hl hc).VL h5)
    obtain ⟨j, hj⟩ := List.getElem?_of_mem he'
    have hlt : j < es.length := by rw [hl]; exact (List.getElem?_eq_some_iff.1 hj).1
    have he : es[j]? = some es[j] := by simp [hlt]
    rw [← (hc j _ e' he hj).1]
    exact hs _ (List.mem_of_getElem? he)

theorem Rd.int_inv {t : TypeId} {k : IntKind} {ds : List D} (hu : P.underlying t = some (.int k)) (h : Rd P t ds) : ∃ n : Int, ds = [.sc (.int k n)] ∧ k.min ≤ n ∧ n ≤ k.max := by
  cases h with
  | int h n hw => rw [hu] at h; simp at h; subst h; exact ⟨n, rfl, by simpa [Lit.wf] using hw⟩
  | veil h n => unfold Bw.veil at h; rw [hu] at h; cases h
  | _ h => rw [hu] at h; simp at h

theorem Rd.bool_inv {t : TypeId} {ds : List D} (hu : P.underlying t = some .bool) (h : Rd P t ds) : ∃ b : Bool, ds = [.sc (.bool b)] := by
  cases h with
  | bool h b => exact ⟨b, rfl⟩
  | veil h n => unfold Bw.veil at h; rw [hu] at h; cases h
  | _ h => rw [hu] at h; simp at h

theorem Rd.str_inv {t : TypeId} {ds : List D} (hu : P.underlying t = some .string) (h : Rd P t ds) : ∃ s : ByteArray, ds = [.sc (.string s)] ∧ s.size ≤ 9223372036854775807 := by
  cases h with
  | str h s hs => exact ⟨s, rfl, hs⟩
  | veil h n => unfold Bw.veil at h; rw [hu] at h; cases h
  | _ h => rw [hu] at h; simp at h

/-- a slice, each element of it as plain data -/
theorem Rd.slice_inv {α : Type} {t e : TypeId} {ds : List D} (hu : P.underlying t = some (.slice e)) (ok : α → Prop) (cs : α → List D) (hk : ∀ x, ∃ d : D, (whole ((aggB P e).getD false) (cs x)) = some d ∧ d.cells = cs x) (hw : ∀ ds, Rd P e ds → ∃ x, ok x ∧ WkL ds (cs x) ∧ ((whole ((aggB P e).getD false) ds).getD .undef).cells = ds)
    (h : Rd P t ds) : ∃ xs : List α, (∀ x ∈ xs, ok x) ∧ WkL ds [.ro false (xs.map fun x => (whole ((aggB P e).getD false) (cs x)).getD .undef)] := by
  cases h with
  | nils h => exact ⟨[], by simp, .cons (.nils _) .nil⟩
  | ro h dss hl k =>
    rw [hu] at h
    simp only [Option.some.injEq, TypeDesc.slice.injEq] at h
    subst h
    have key : ∀ dss : List (List D), (∀ ds ∈ dss, Rd P e ds) → ∃ xs : List α, (∀ x ∈ xs, ok x) ∧ dss.length = xs.length ∧ ∀ (j : Nat) (ds : List D) (x : α), dss[j]? = some ds → xs[j]? = some x → WkL ds (cs x) ∧ ((whole ((aggB P e).getD false) ds).getD .undef).cells = ds := by
      intro dss
      induction dss with
      | nil => intro _; exact ⟨[], by simp, rfl, fun j ds x h => by simp at h⟩
      | cons ds dss ih =>
        intro hh
        obtain ⟨x, h1, h2, h2'⟩ := hw ds (hh ds (List.mem_cons_self ..))
        obtain ⟨xs, h3, h4, h5⟩ := ih fun d hd => hh d (List.mem_cons_of_mem _ hd)
        refine ⟨x :: xs, by simp only [List.mem_cons, forall_eq_or_imp]; exact ⟨h1, h3⟩, by simp [h4], fun j ds' x' hd hx => ?_⟩
        cases j with
        | zero => simp at hd hx; subst hd hx; exact ⟨h2, h2'⟩
        | succ j => exact h5 j ds' x' (by simpa using hd) (by simpa using hx)
    obtain ⟨xs, h1, h2, h3⟩ := key dss k
    refine ⟨xs, h1, .cons (Wk.ro (by simp [h2]) fun j e1 e2 he1 he2 => ?_) .nil⟩
    simp only [List.getElem?_map, Option.map_eq_some_iff] at he1 he2
    obtain ⟨d1, hd1, rfl⟩ := he1
    obtain ⟨x1, hx1, rfl⟩ := he2
    obtain ⟨q1, q2⟩ := h3 j d1 x1 hd1 hx1
    obtain ⟨d, w1, w2⟩ := hk x1
    rw [q2, w1]
    simp only [Option.getD_some, w2]
    exact q1
  | veil h n => unfold Bw.veil at h; rw [hu] at h; cases h
  | _ h => rw [hu] at h; simp at h


/-- a slice of single cells -/
theorem Rd.slice_one {α : Type} {t e : TypeId} {ds : List D} (hu : P.underlying t = some (.slice e)) (ha : aggB P e = some false) (ok : α → Prop) (c : α → D) (hc : ∀ x, (c x).cells = [c x]) (hw : ∀ ds, Rd P e ds → ∃ x, ok x ∧ WkL ds [c x] ∧ ∀ d, ds = [d] → d.cells = [d]) (h : Rd P t ds) :
    ∃ xs : List α, (∀ x ∈ xs, ok x) ∧ WkL ds [.ro false (xs.map c)] := by
  have := Rd.slice_inv hu ok (fun x => [c x]) (fun x => ⟨c x, by rw [ha]; rfl, hc x⟩) (fun ds hd => by
    obtain ⟨x, h1, h2, h3⟩ := hw ds hd
    refine ⟨x, h1, h2, ?_⟩
    rw [ha]
    have hl := h2.1
    match ds, hl with
    | [d], _ => exact h3 d rfl) h
  rw [ha] at this
  exact this

theorem Rd.bytes_inv {t e : TypeId} {ds : List D} (hu : P.underlying t = some (.slice e)) (he : P.underlying e = some (.int .u8)) (h : Rd P t ds) : ∃ s : ByteArray, WkL ds [.ro false (bytesD s)] := by
  have ha : aggB P e = some false := by unfold aggB; rw [he]
  obtain ⟨xs, _, h2⟩ := Rd.slice_one (α := UInt8) hu ha (fun _ => True) (fun b => .sc (.int .u8 b.toNat)) (fun _ => rfl) (fun ds hd => by
    obtain ⟨n, rfl, h1, h2⟩ := hd.int_inv he
    have h3 : (0 : Int) ≤ n := h1
    have h4 : n ≤ 255 := h2
    refine ⟨UInt8.ofNat n.toNat, trivial, ?_, fun d hd => by simp at hd; subst hd; rfl⟩
    have : ((UInt8.ofNat n.toNat).toNat : Int) = n := by
      rw [UInt8.toNat_ofNat']
      omega
    rw [this]
    exact .refl _) h
  exact ⟨⟨xs.toArray⟩, by simpa [bytesD] using h2⟩




/-- any slice: its elements are free -/
theorem Rd.free {t : TypeId} {ds : List D} (h : Rd P t ds) : ∀ d ∈ ds, d.free := by
  induction h with
  | bool => intro d hd; simp at hd; subst hd; exact .sc
  | int => intro d hd; simp at hd; subst hd; exact .sc
  | float => intro d hd; simp at hd; subst hd; exact .sc
  | str => intro d hd; simp at hd; subst hd; exact .sc
  | nilp => intro d hd; simp at hd; subst hd; exact .nilp
  | rp h ds k ih => intro d hd; simp at hd; subst hd; exact .rp ih
  | nils => intro d hd; simp at hd; subst hd; exact .nils
  | ro h dss hl k ih =>
    intro d hd
    simp only [List.mem_singleton] at hd
    subst hd
    refine .ro fun d hd => ?_
    simp only [List.mem_flatMap, List.mem_map] at hd
    obtain ⟨x, ⟨ds, hds, rfl⟩, hd⟩ := hd
    unfold whole at hd
    split at hd
    · simp at hd; exact ih ds hds d hd
    · cases ds with
      | nil => simp [D.cells] at hd; subst hd; exact .undef
      | cons y ys =>
        simp at hd
        have hy := ih (y :: ys) hds y (List.mem_cons_self ..)
        cases y with
        | agg cs => cases hy with | agg hh => exact hh d (by simpa using hd)
        | _ => simp [D.cells] at hd; subst hd; exact hy
  | struct h dss hl k ih =>
    intro d hd
    obtain ⟨ds, h1, h2⟩ := List.mem_flatten.1 hd
    obtain ⟨j, hj⟩ := List.getElem?_of_mem h1
    have hlt : j < dss.length := (List.getElem?_eq_some_iff.1 hj).1
    rename_i fs
    have : fs.toList[j]? = some (fs.toList[j]'(by simpa [← hl] using hlt)) := by simp
    exact ih j _ ds this hj d h2
  | veil h n => intro d hd; rw [(List.mem_replicate.1 hd).2]; exact .undef

theorem Rd.slice_any {t e : TypeId} {ds : List D} (hu : P.underlying t = some (.slice e)) (h : Rd P t ds) : ∃ es : List D, (D.ro false es).free ∧ WkL ds [.ro false es] := by
  have hf := h.free
  cases h with
  | nils h => exact ⟨[], .ro (by simp), .cons (.nils _) .nil⟩
  | ro h dss hl k => exact ⟨_, hf _ (List.mem_singleton.2 rfl), .refl _⟩
  | veil h n => unfold Bw.veil at h; rw [hu] at h; cases h
  | _ h => rw [hu] at h; simp at h

def RdF (P : Program) : List TypeId → List D → Prop
  | [], ds => ds = []
  | t :: ts, ds => ∃ a b, ds = a ++ b ∧ Rd P t a ∧ RdF P ts b

theorem Rd.fields {t : TypeId} {fs : Array Field} {ds : List D} (hu : P.underlying t = some (.struct fs)) (h : Rd P t ds) : RdF P (fs.toList.map (·.type)) ds := by
  cases h with
  | struct h dss hl k =>
    rw [hu] at h
    simp only [Option.some.injEq, TypeDesc.struct.injEq] at h
    subst h
    have key : ∀ (fs : List Field) (dss : List (List D)), dss.length = fs.length → (∀ (j : Nat) (f : Field) (ds : List D), fs[j]? = some f → dss[j]? = some ds → Rd P f.type ds) → RdF P (fs.map (·.type)) dss.flatten := by
      intro fs
      induction fs with
      | nil => intro dss h _; rw [List.length_eq_zero_iff.1 h]; rfl
      | cons f fs ih =>
        intro dss h hh
        cases dss with
        | nil => simp at h
        | cons ds dss => exact ⟨ds, dss.flatten, by simp, hh 0 f ds rfl rfl, ih dss (by simpa using h) fun j f' ds' h1 h2 => hh (j + 1) f' ds' (by simpa using h1) (by simpa using h2)⟩
    exact key fs.toList dss (by simpa using hl) k
  | veil h n => unfold Bw.veil at h; rw [hu] at h; cases h
  | _ h => rw [hu] at h; simp at h

theorem Arg.agg {α : Type} {t : TypeId} {d : D} (ha : aggB P t = some true) (ok : α → Prop) (cs : α → List D) (hw : ∀ ds, Rd P t ds → ∃ x, ok x ∧ WkL ds (cs x)) (h : Arg P t d) : ∃ x, ok x ∧ Wk d (.agg (cs x)) := by
  obtain ⟨ds, h1, h2, rfl⟩ := h
  obtain ⟨x, h3, h4⟩ := hw ds h1
  rw [ha]
  exact ⟨x, h3, .agg h4⟩

theorem Arg.one {α : Type} {t : TypeId} {d : D} (ha : aggB P t = some false) (ok : α → Prop) (c : α → D) (hw : ∀ ds, Rd P t ds → ∃ x, ok x ∧ WkL ds [c x]) (h : Arg P t d) : ∃ x, ok x ∧ Wk d (c x) := by
  obtain ⟨ds, h1, h2, rfl⟩ := h
  obtain ⟨x, h3, h4⟩ := hw ds h1
  rw [ha]
  match ds, h4.1 with
  | [y], _ => exact ⟨x, h3, h4.2 0 y (c x) rfl rfl⟩

end

theorem cells_sc (v : Value) : (D.sc v).cells = [.sc v] := rfl
theorem cells_nilp : D.nilp.cells = [.nilp] := rfl
theorem cells_ptr (a b c : Nat) : (D.ptr a b c).cells = [.ptr a b c] := rfl
theorem cells_rp (l : List D) : (D.rp l).cells = [.rp l] := rfl
theorem cells_nils : D.nils.cells = [.nils] := rfl
theorem cells_ro (e : Bool) (l : List D) : (D.ro e l).cells = [.ro e l] := rfl
theorem cells_ref (a b c d e : Nat) : (D.ref a b c d e).cells = [.ref a b c d e] := rfl
theorem cells_fn (f : Fn) (a b : List D) : (D.fn f a b).cells = [.fn f a b] := rfl
theorem cells_nilfn : D.nilfn.cells = [.nilfn] := rfl
theorem cells_ifc (t : TypeId) (d : D) : (D.ifc t d).cells = [.ifc t d] := rfl
theorem cells_nilifc : D.nilifc.cells = [.nilifc] := rfl
theorem cells_agg (l : List D) : (D.agg l).cells = l := rfl
theorem cells_undef : D.undef.cells = [.undef] := rfl

theorem fd_agg {P : Program} {s : TypeId} {f : Nat} {cells : List D} : fdD P s f (.agg cells) = (match fldD P s f with | some (o, n, ag) => if o + n ≤ cells.length then whole ag ((cells.drop o).take n) else none | none => none) := rfl
attribute [go_sem] ne_eq not_false_eq_true if_true true_and and_true false_or or_false true_or or_true List.take_nil List.not_mem_nil false_implies implies_true forall_const List.mem_cons forall_eq_or_imp forall_eq Nat.sub_zero Nat.sub_self Nat.zero_lt_one Int.le_refl Int.toNat_zero List.size_toArray Nat.le_refl Nat.zero_le Int.toNat_natCast Int.natCast_nonneg List.getElem?_map List.length_map bytesD_len opsT_nil opsT_cons opsT_no planOps drawL_nil drawL_cons drawL_no calleeOf guard_none guard_some List.getElem?_toArray List.getElem?_cons_succ List.getElem?_cons_zero Option.bind_some gv_cond cond_some gv_sc gv_no bq_true bq_false Bool.not_true Bool.not_false pick_or pick_and pick_or2 pick_and2 cond_true cond_false opD rhoD argsE ofConst ofConst1 updO upd_same upd_ne ofL_same ofL_ne ofL_nil ldD stD St.new_tab St.new_next St.put_tab St.put_next St.one_tab St.one_next faD fd_agg iaD ixD boundD slD lenD bltD
  bin_add bin_sub bin_mul bin_quo bin_rem bin_lss bin_leq bin_gtr bin_geq bin_eql bin_neq bin_and bin_or bin_shl bin_shr bin_seql bin_sneq un_not max_int min_int toValL toVal toVal1 cells_sc cells_nilp cells_ptr cells_rp cells_nils cells_ro cells_ref cells_fn cells_nilfn cells_ifc cells_nilifc cells_agg cells_undef D.one whole buildD layD exD nilOk buildSliceD repD cutD insens
  List.all_cons List.all_nil Bool.and_true Bool.and_self List.getD_cons_zero List.getD_cons_succ List.length_cons List.length_nil List.take_succ_cons List.take_zero List.drop_succ_cons List.drop_zero List.cons_append List.nil_append List.append_nil List.head?_cons List.headD_cons Option.map_some Option.map_none
  List.map_cons List.map_nil resultsD retD ofL_wk

end Go.Bw

/- The framework, part 25: a row is cut; more of the set of the walk. -/
namespace Go.Bw
open Go

section
variable {P : Program} {GL : Nat → D} {n : Nat} {S : St} {E : Nat → D} {Q : Post}

theorem Sim.cut {g : G} {w : World} (h : Sim g S w) {id v : Nat} {ob : List D} (he : S.tab id = some ⟨v, ob⟩) (k : Nat) : Sim g (S.put id (some ⟨v, ob.take k⟩)) w := by
  have back : ∀ i (e' : En), (if i = id then some ⟨v, ob.take k⟩ else S.tab i) = some e' → ∃ e'', S.tab i = some e'' ∧ e''.ver = e'.ver := fun i e' hh => by
    split at hh
    · rename_i hi; simp only [Option.some.injEq] at hh; subst hh hi; exact ⟨_, he, rfl⟩
    · exact ⟨e', hh, rfl⟩
  have hidn : id < S.next := by
    rcases Nat.lt_or_ge id S.next with hl | hl
    · exact hl
    · rw [h.tabs id hl] at he; cases he
  refine ⟨h.imm, ?_, ?_, h.fresh, ?_, ?_, h.inb⟩
  · intro i e hie
    rw [St.put_tab] at hie
    split at hie
    · rename_i hi
      simp only [Option.some.injEq] at hie
      subst hie hi
      obtain ⟨b, n', c, t, fz, a1, a2, a3, a4, a5, a6, a7⟩ := h.sto i _ he
      refine ⟨b, n', c, t, fz, a1, a2, a3, by simp only [List.length_take] at a4 ⊢; omega, a5, a6, fun j d hd => ?_⟩
      simp only [List.getElem?_take] at hd
      split at hd
      · exact a7 j d hd
      · cases hd
    · exact h.sto i e hie
  · intro i j e e' b n1 n2 h1 h2 r1 r2
    rw [St.put_tab] at h1 h2
    obtain ⟨f1, f2, f3⟩ := back i e h1
    obtain ⟨f4, f5, f6⟩ := back j e' h2
    exact h.inj i j f1 f4 b n1 n2 f2 f5 (by rw [f3]; exact r1) (by rw [f6]; exact r2)
  · intro i hi
    rw [St.put_next] at hi
    rw [St.put_tab, if_neg (by omega)]
    exact h.tabs i hi
  · intro i e u hie hlt
    rw [St.put_tab] at hie
    obtain ⟨f1, f2, f3⟩ := back i e hie
    exact h.later i f1 u f2 (by rw [f3]; exact hlt)

theorem Tri.cut {c : Code} {id v : Nat} {ob : List D} (k : Nat) (he : S.tab id = some ⟨v, ob⟩) (h : Tri P GL n c E (S.put id (some ⟨v, ob.take k⟩)) Q) : Tri P GL n c E S Q :=
  fun _ g a w h1 h2 h3 h4 h5 => h g a w (h1.cut he k) h2 h3 h4 h5




theorem St.put_put (S : St) (i : Nat) (a b : Option En) : (S.put i a).put i b = S.put i b := by
  simp only [St.put, St.mk.injEq, true_and]; funext j; split <;> simp_all

def isSl (P : Program) (t : TypeId) : Bool := match P.underlying t with | some (.slice _) => true | _ => false
theorem cap_nil {t ty : TypeId} (h : isSl P t = true) : pureD P (Builtin.cap_ #[t] ty #[.slice none 0 0]) = some (.sc (.int .i64 0)) := by
  unfold isSl at h
  split at h
  case h_2 => cases h
  rename_i e hh
  clear h
  have h := hh
  simp [pureD, Builtin.cap_, pureRun_bind, pureRun_underlying h, pureRun_pure, resD, goInt]

def isPtr (P : Program) (t : TypeId) : Bool := match P.underlying t with | some (.pointer _) => true | _ => false
def isBoolT (P : Program) (t : TypeId) : Bool := match P.underlying t with | some .bool => true | _ => false
def isBytes (P : Program) (t : TypeId) : Bool := match P.underlying t with | some (.slice e) => isU8 P e | _ => false
def intKind (P : Program) (t : TypeId) : Option IntKind := match P.underlying t with | some (.int k) => some k | _ => none
theorem isPtr_spec {t : TypeId} (h : isPtr P t = true) : ∃ e, P.underlying t = some (.pointer e) := by
  unfold isPtr at h; split at h
  · exact ⟨_, by assumption⟩
  · cases h
theorem isBoolT_spec {t : TypeId} (h : isBoolT P t = true) : P.underlying t = some .bool := by
  unfold isBoolT at h; split at h
  · assumption
  · cases h
theorem isBytes_spec {t : TypeId} (h : isBytes P t = true) : ∃ e, P.underlying t = some (.slice e) ∧ P.underlying e = some (.int .u8) := by
  unfold isBytes at h; split at h
  · refine ⟨_, by assumption, ?_⟩
    unfold isU8 at h; split at h
    · assumption
    · cases h
  · cases h
theorem intKind_spec {t : TypeId} {k : IntKind} (h : intKind P t = some k) : P.underlying t = some (.int k) := by
  unfold intKind at h; split at h
  · simp only [Option.some.injEq] at h; subst h; assumption
  · cases h
section nils
variable {t : TypeId} {xo yo : Operand} (h : isPtr P t = true)
include h
theorem bin_ptr_eql (i v o : Nat) : binD P .eql t xo yo (.ptr i v o) .nilp = some (.sc (.bool false)) := by obtain ⟨e, h⟩ := isPtr_spec h; simp [binD, toVal, toVal1, unlikeNil, h]
theorem bin_ptr_neq (i v o : Nat) : binD P .neq t xo yo (.ptr i v o) .nilp = some (.sc (.bool true)) := by obtain ⟨e, h⟩ := isPtr_spec h; simp [binD, toVal, toVal1, unlikeNil, h]
theorem bin_rp_eql (cs : List D) : binD P .eql t xo yo (.rp cs) .nilp = some (.sc (.bool false)) := by obtain ⟨e, h⟩ := isPtr_spec h; simp [binD, toVal, toVal1, unlikeNil, h]
theorem bin_rp_neq (cs : List D) : binD P .neq t xo yo (.rp cs) .nilp = some (.sc (.bool true)) := by obtain ⟨e, h⟩ := isPtr_spec h; simp [binD, toVal, toVal1, unlikeNil, h]
theorem eq_nilp : pureRun P (Op.equal t (.pointer none) (.pointer none)) = some true := by
  obtain ⟨e, h⟩ := isPtr_spec h
  unfold Op.equal Op.maxDepth
  rw [show (10000 : Nat) = 9999 + 1 from rfl]
  unfold Op.equalIn
  rw [pureRun_bind, pureRun_underlying h]
  rfl
theorem bin_nilp_eql : binD P .eql t xo yo .nilp .nilp = some (.sc (.bool true)) := by
  simp only [binD, toVal, toVal1, pureD, eqGuard, binOp]
  simp only [pureRun_bind, pureRun_pure, eq_nilp h, Option.bind_some, resD]
  first | rfl | simp [pureRun_bind, pureRun_pure, eq_nilp h, resD]
theorem bin_nilp_neq : binD P .neq t xo yo .nilp .nilp = some (.sc (.bool false)) := by
  simp only [binD, toVal, toVal1, pureD, eqGuard, binOp]
  simp only [pureRun_bind, pureRun_pure, eq_nilp h, Option.bind_some, resD]
  first | rfl | simp [pureRun_bind, pureRun_pure, eq_nilp h, resD]
end nils
section bools
variable {t : TypeId} {xo yo : Operand} (h : isBoolT P t = true) (a b : Bool)
include h
theorem eq_bool : pureRun P (Op.equal t (.bool a) (.bool b)) = some (a == b) := by
  have h := isBoolT_spec h
  unfold Op.equal Op.maxDepth
  rw [show (10000 : Nat) = 9999 + 1 from rfl]
  unfold Op.equalIn
  rw [pureRun_bind, pureRun_underlying h]
  rfl
theorem bin_beql : binD P .eql t xo yo (.sc (.bool a)) (.sc (.bool b)) = some (.sc (.bool (a == b))) := by
  simp only [binD, toVal, toVal1, pureD, eqGuard, binOp]
  simp only [pureRun_bind, pureRun_pure, eq_bool h, Option.bind_some, resD]
  first | rfl | simp [pureRun_bind, pureRun_pure, eq_bool h, resD]
theorem bin_bneq : binD P .neq t xo yo (.sc (.bool a)) (.sc (.bool b)) = some (.sc (.bool (!(a == b)))) := by
  simp only [binD, toVal, toVal1, pureD, eqGuard, binOp]
  simp only [pureRun_bind, pureRun_pure, eq_bool h, Option.bind_some, resD]
  first | rfl | simp [pureRun_bind, pureRun_pure, eq_bool h, resD]
end bools
theorem cv_int {src dst : TypeId} {k : IntKind} {m : Int} (h1 : intKind P src = some k) (h2 : (intKind P dst).isSome = true) : convD P S src dst (.sc (.int k m)) = (match intKind P dst with | some k' => some (.sc (.int k' (k'.wrap m)), S) | none => none) := by
  obtain ⟨k', hk⟩ := Option.isSome_iff_exists.1 h2
  rw [hk]
  exact conv_int (intKind_spec h1) (intKind_spec hk)
theorem cv_bytes {src dst : TypeId} {s : ByteArray} (h1 : isStr P src = true) (h2 : isBytes P dst = true) : convD P S src dst (.sc (.string s)) = some (.ref S.next 0 1 0 s.size, S.new (bytesD s)) := by
  obtain ⟨e, q1, q2⟩ := isBytes_spec h2
  exact conv_bytes (isStr_spec h1) q1 q2
theorem cv_str {src dst : TypeId} {ex : Bool} {s : ByteArray} (h1 : isBytes P src = true) (h2 : isStr P dst = true) : convD P S src dst (.ro ex (bytesD s)) = some (.sc (.string s), S) := by
  obtain ⟨e, q1, q2⟩ := isBytes_spec h1
  exact conv_str_ro q1 (isStr_spec h2) q2
/-- a store, laid out -/
def stL (es : List (Option En)) : St := ⟨es.length, fun i => (es[i]?).getD none⟩
theorem stL_next (es : List (Option En)) : (stL es).next = es.length := rfl
theorem stL_tab (es : List (Option En)) (i : Nat) : (stL es).tab i = (es[i]?).getD none := rfl
theorem stL_new (es : List (Option En)) (ob : List D) : (stL es).new ob = stL (es ++ [some ⟨0, ob⟩]) := by
  have hx : (stL es).new ob = ⟨es.length + 1, fun j => if j = es.length then some ⟨0, ob⟩ else (es[j]?).getD none⟩ := rfl
  rw [hx]
  simp only [stL, St.mk.injEq, List.length_append, List.length_cons, List.length_nil, true_and]
  funext j
  rcases Nat.lt_trichotomy j es.length with h | h | h
  · rw [if_neg (by omega), List.getElem?_append_left h]
  · rw [if_pos h, List.getElem?_append_right (by omega)]; subst h; simp
  · rw [if_neg (by omega), List.getElem?_append_right (by omega), List.getElem?_eq_none (by omega), List.getElem?_eq_none (by simp; omega)]
theorem stL_put (es : List (Option En)) (i : Nat) (e : Option En) (hs : (es[i]?).isSome = true) : (stL es).put i e = stL (es.set i e) := by
  have h : i < es.length := by
    rcases Nat.lt_or_ge i es.length with h | h
    · exact h
    · rw [List.getElem?_eq_none h] at hs; cases hs
  have hx : (stL es).put i e = ⟨es.length, fun j => if j = i then e else (es[j]?).getD none⟩ := rfl
  rw [hx]
  simp only [stL, St.mk.injEq, List.length_set, true_and]
  funext j
  rw [List.getElem?_set]
  by_cases hj : j = i
  · subst hj; simp [h]
  · rw [if_neg hj, if_neg (Ne.symm hj)]
theorem St.empty_next : St.empty.next = 0 := rfl
theorem St.empty_tab (i : Nat) : St.empty.tab i = none := rfl
end
attribute [go_sem] stL_next stL_tab stL_new stL_put List.set_cons_zero List.set_cons_succ Option.getD_some Option.getD_none List.getElem?_nil isSl isPtr isBoolT isBytes intKind isStr isU8 cv_int cv_bytes cv_str Option.isSome_some bin_beql bin_bneq bin_ptr_eql bin_ptr_neq bin_rp_eql bin_rp_neq bin_nilp_eql bin_nilp_neq St.empty_next St.empty_tab if_false St.put_put cap_nil
end Go.Bw

/- The framework, part 26: appends of bytes. -/
namespace Go.Bw
open Go

section
variable {P : Program} {GL : Nat → D} {n : Nat} {S : St} {E : Nat → D} {Q : Post} {t1 t2 e : TypeId}

structure ByteSl (P : Program) (t1 t2 e : TypeId) : Prop where
  el : elOf P t1 = some (e, 1)
  ze : zeroD P e = some [.sc (.int .u8 0)]
  by1 : P.bytesOf e = 1
  ii : isInt P t2 = false
  un : (P.underlying t2).isSome = true


theorem bytes_nil {s : ByteArray} (h : s.size = 0) (b : ByteArray) : b ++ s = b := by
  apply ByteArray.ext
  have : s.data = #[] := Array.eq_empty_of_size_eq_zero h
  rw [ByteArray.data_append, this]; simp










end
end Go.Bw

/- The framework, part 27: a row is let go, and what other rows tell of it. -/
namespace Go.Bw
open Go

section
variable {P : Program} {GL : Nat → D} {n : Nat} {S : St} {E : Nat → D} {Q : Post}


end
end Go.Bw

/- The framework, part 28: guarded calls that read the store. -/
namespace Go.Bw
open Go

section
variable {P : Program} {GL : Nat → D} {ops : Array Oper} {E : Nat → D} {S : St}


end
end Go.Bw

/- The framework, part 29: regions that draw their order, two operations of which stand in either order. -/
namespace Go.Bw
open Go

section
variable {P : Program} {GL : Nat → D} {n mb : Nat} {ops : Array Oper} {E : Nat → D} {S : St} {Q : Post}

/-- 'j' waits for 'i', too -/
def addEdge (ops : Array Oper) (j i : Nat) : Array Oper := ops.modify j fun o => { o with after := o.after.push ⟨i, .data⟩ }

theorem addEdge_size (j i : Nat) : (addEdge ops j i).size = ops.size := by simp [addEdge]

theorem addEdge_get (j i k : Nat) : (addEdge ops j i)[k]? = (ops[k]?).map fun o => if k = j then { o with after := o.after.push ⟨i, .data⟩ } else o := by
  unfold addEdge
  rw [Array.getElem?_modify]
  by_cases h : j = k
  · subst h; simp
  · simp [h, Ne.symm h]

theorem addEdge_dst (j i k : Nat) : ((addEdge ops j i)[k]?).bind (·.dst) = (ops[k]?).bind (·.dst) := by
  rw [addEdge_get]
  cases ops[k]? with
  | none => rfl
  | some o => simp only [Option.map_some, Option.bind_some]; split <;> rfl

theorem addEdge_yielded (j i : Nat) (ts : Array Value) : yielded (addEdge ops j i) ts = yielded ops ts := by
  funext k
  unfold yielded
  rw [addEdge_dst]

theorem wpOps_edge {Q : Exit → Act → World → Prop} (j i : Nat) : ∀ (l : List Nat) (a : Act) (w : World), wpOps P (addEdge ops j i) Q l a w = wpOps P ops Q l a w
  | [], a, w => rfl
  | k :: l, a, w => by
    have ih : wpOps P (addEdge ops j i) Q l = wpOps P ops Q l := by funext a w; exact wpOps_edge j i l a w
    unfold wpOps
    rw [addEdge_yielded, addEdge_get, ih]
    cases ops[k]? with
    | none => rfl
    | some o =>
      simp only [Option.map_some]
      by_cases h : k = j
      · simp only [if_pos h]; rfl
      · simp only [if_neg h]

/-- an order in which they may come -/
inductive Sch (ops : Array Oper) : Nat → Array Bool → List Nat → Prop where
  | zero {listed : Array Bool} : Sch ops 0 listed []
  | done {f : Nat} {listed : Array Bool} : Region.ready .any ops listed = [] → Sch ops (f + 1) listed []
  | step {f i : Nat} {listed : Array Bool} {l : List Nat} : i ∈ Region.ready .any ops listed → Sch ops f (listed.setIfInBounds i true) l → Sch ops (f + 1) listed (i :: l)

theorem lin_sch : ∀ (fuel t : Nat) (listed : Array Bool), Sch ops fuel listed (Region.linearise.go .any ops fuel t listed []) := by
  intro fuel
  induction fuel with
  | zero => intro t listed; exact .zero
  | succ fuel ih =>
    intro t listed
    simp only [Region.linearise.go]
    change Sch ops (fuel + 1) listed (match (Region.ready .any ops listed)[t % (Region.ready .any ops listed).length]? with
      | some i => Region.linearise.go .any ops fuel (t / (Region.ready .any ops listed).length) (listed.setIfInBounds i true) [i]
      | none => [].reverse)
    cases hi : (Region.ready .any ops listed)[t % (Region.ready .any ops listed).length]? with
    | none =>
      have hnil : Region.ready .any ops listed = [] := by
        cases hr : Region.ready .any ops listed with
        | nil => rfl
        | cons x xs =>
          rw [hr] at hi
          have hlt : t % (x :: xs).length < (x :: xs).length := Nat.mod_lt _ (by simp)
          simp at hi
          simp at hlt
          omega
      exact .done hnil
    | some i =>
      simp only []
      rw [linearise_go_acc, List.reverse_singleton, List.singleton_append]
      exact .step (List.mem_of_getElem? hi) (ih _ _)

theorem wpAny_sch {Q : Exit → Act → World → Prop} : ∀ (fuel : Nat) (listed : Array Bool) (l : List Nat), Sch ops fuel listed l → ∀ (a : Act) (w : World), wpAny P .any ops Q fuel listed a w → wpOps P ops Q l a w := by
  intro fuel listed l h
  induction h with
  | zero => intro a w h; exact h.2
  | done h0 => intro a w h; exact h.1 h0
  | step hi _ ih =>
    intro a w h
    rw [wpOps_cons]
    exact wpOp_mono ih (h.2 _ hi)

theorem ready_edge {j i k : Nat} {listed : Array Bool} (h : k ∈ Region.ready .any ops listed) (hb : k = j → listed.getD i false = true) : k ∈ Region.ready .any (addEdge ops j i) listed := by
  obtain ⟨h0, o, ho, h1⟩ := mem_ready.1 h
  refine mem_ready.2 ⟨h0, _, by rw [addEdge_get, ho]; rfl, fun e he hbb => ?_⟩
  dsimp only at he
  by_cases hk : k = j
  · rw [if_pos hk] at he
    rcases Array.mem_push.1 he with he | rfl
    · exact h1 e he hbb
    · exact hb hk
  · rw [if_neg hk] at he
    exact h1 e he hbb

theorem edge_ready {j i k : Nat} {listed : Array Bool} (h : k ∈ Region.ready .any (addEdge ops j i) listed) : k ∈ Region.ready .any ops listed := by
  obtain ⟨h0, o, ho, h1⟩ := mem_ready.1 h
  rw [addEdge_get] at ho
  cases hk : ops[k]? with
  | none => rw [hk] at ho; cases ho
  | some o' =>
    rw [hk] at ho
    simp only [Option.map_some, Option.some.injEq] at ho
    refine mem_ready.2 ⟨h0, o', hk, fun e he hbb => h1 e ?_ hbb⟩
    subst ho
    split
    · exact Array.mem_push.2 (.inl he)
    · exact he

theorem edge_nil {j i : Nat} {listed : Array Bool} (h : Region.ready .any ops listed = []) : Region.ready .any (addEdge ops j i) listed = [] := by
  cases hr : Region.ready .any (addEdge ops j i) listed with
  | nil => rfl
  | cons x xs =>
    have : x ∈ Region.ready .any ops listed := edge_ready (by rw [hr]; exact List.mem_cons_self ..)
    rw [h] at this
    cases this

theorem set_keeps {listed : Array Bool} {i k : Nat} (h : listed.getD i false = true) : (listed.setIfInBounds k true).getD i false = true := by
  by_cases hki : k = i
  · subst hki
    have : k < listed.size := by
      rcases Nat.lt_or_ge k listed.size with hl | hl
      · exact hl
      · simp [Array.getD, Nat.not_lt.2 hl] at h
    simp [this]
  · rw [getD_set_ne false hki]; exact h

theorem sch_edge {j i : Nat} : ∀ {f : Nat} {listed : Array Bool} {l : List Nat}, Sch ops f listed l → listed.getD i false = true → Sch (addEdge ops j i) f listed l := by
  intro f listed l h
  induction h with
  | zero => intro _; exact .zero
  | done h0 => intro _; exact .done (edge_nil h0)
  | step hi _ ih => intro hb; exact .step (ready_edge hi fun _ => hb) (ih (set_keeps hb))

theorem sch_split {j i : Nat} (hj : j < ops.size) (hi : i < ops.size) (hne : i ≠ j) : ∀ {f : Nat} {listed : Array Bool} {l : List Nat}, Sch ops f listed l → listed.size = ops.size → Sch (addEdge ops j i) f listed l ∨ Sch (addEdge ops i j) f listed l := by
  intro f listed l h
  induction h with
  | zero => intro _; exact .inl .zero
  | done h0 => intro _; exact .inl (.done (edge_nil h0))
  | @step f k listed l hk h ih =>
    intro hsz
    by_cases h1 : k = i
    · subst h1
      exact .inl (.step (ready_edge hk fun h => absurd h hne) (sch_edge h (by simp [hsz, hi])))
    · by_cases h2 : k = j
      · subst h2
        exact .inr (.step (ready_edge hk fun h => absurd h.symm hne) (sch_edge h (by simp [hsz, hj])))
      · rcases ih (by simp [hsz]) with h | h
        · exact .inl (.step (ready_edge hk fun h => absurd h h2) h)
        · exact .inr (.step (ready_edge hk fun h => absurd h h1) h)

/-- in any order that there may be -/
def SchT (P : Program) (GL : Nat → D) (n : Nat) (ops : Array Oper) (E : Nat → D) (S : St) (Q : Post) : Prop :=
  ∀ ⦃mb : Nat⦄ (g : G) (a : Act) (w : World), Sim g S w → Env g E a → Glob g GL → a.tmps.size = n → Mk mb g w a.defers → ∀ l, Sch ops ops.size (Array.replicate ops.size false) l → wpOps P ops (Lift n mb g w Q) l a { w with drawn := w.drawn + 1 }

theorem AnyT.sch (h : AnyT P GL n ops E S Q) : SchT P GL n ops E S Q := fun _ g a w hs he hg hn hd l hl => wpAny_sch _ _ _ hl _ _ (h g a w hs he hg hn hd)

theorem SchT.split {i j : Nat} (hj : j < ops.size) (hi : i < ops.size) (hne : i ≠ j) (h1 : SchT P GL n (addEdge ops j i) E S Q) (h2 : SchT P GL n (addEdge ops i j) E S Q) : SchT P GL n ops E S Q := by
  intro mb g a w hs he hg hn hd l hl
  rcases sch_split hj hi hne hl (by simp) with h | h
  · have := h1 g a w hs he hg hn hd l (by rw [addEdge_size]; exact h)
    rwa [wpOps_edge] at this
  · have := h2 g a w hs he hg hn hd l (by rw [addEdge_size]; exact h)
    rwa [wpOps_edge] at this

theorem tri_sch {id : Nat} (hm : P.follows .mixedOrders = true) (h : SchT P GL n ops E S Q) : Tri P GL n (.region id ops true) E S Q :=
  fun _ g a w hs he hg hn hd => wp_region_draw fun t => by
    simp only [Region.schedule, hm, Bool.true_or, if_true]
    exact h g a w hs he hg hn hd _ (lin_sch ..)

/-- the same, in the plan's order -/
theorem drawT_edge (j i : Nat) {E : Nat → D} {K : (Nat → D) → St → Prop} : ∀ (plan : Plan) (Ss : List St) (E : Nat → D), drawT P GL (addEdge ops j i) plan Ss E K = drawT P GL ops plan Ss E K
  | [], Ss, E => rfl
  | (k, lo, ch) :: rest, [], E => by
    unfold drawT
    rw [addEdge_get]
    cases ops[k]? <;> rfl
  | (k, lo, ch) :: rest, S :: Sr, E => by
    have ih : ∀ Ss E, drawT P GL (addEdge ops j i) rest Ss E K = drawT P GL ops rest Ss E K := fun Ss E => drawT_edge j i (E := E) rest Ss E
    have hg : ∀ g, guardD (addEdge ops j i) E g = guardD ops E g := fun g => by
      cases g with
      | none => rfl
      | some g => obtain ⟨a, b⟩ := g; simp only [guardD, addEdge_dst]
    unfold drawT
    rw [addEdge_get]
    cases hk : ops[k]? with
    | none => rfl
    | some o =>
      simp only [Option.map_some]
      by_cases h : k = j
      · simp only [if_pos h, hg, ih]; rfl
      · simp only [if_neg h, hg, ih]
end
end Go.Bw

/- The framework, part 30: a region that draws its order, one operation of which panics. -/
namespace Go.Bw
open Go

section
variable {P : Program} {GL : Nat → D} {n mb : Nat} {ops : Array Oper} {E0 : Nat → D} {Q : Post}

theorem op_mono2 {o : Oper} {a : Act} {w : World} {next next' : Act → World → Prop} {Q Q' : Exit → Act → World → Prop} (hn : ∀ a w, next a w → next' a w) (hq : ∀ e a w, Q e a w → Q' e a w) (h : o.wp P a w next Q) : o.wp P a w next' Q' := by
  unfold Oper.wp at h ⊢
  generalize (execOp a.eval o).run P w = r at *
  cases r with
  | ok nx w' =>
    cases nx <;> simp only [Oper.upon] at h ⊢ <;> first
      | exact hn _ _ h
      | exact Calls.mono h (fun e w'' he => by
          cases e with
          | returned v => exact hn _ _ he
          | panicked c => exact hq _ _ _ he
          | outgrown => obtain ⟨a, w, hh⟩ := he; exact ⟨a, w, hq _ _ _ hh⟩)
      | exact Rows.mono h (fun v w'' he => hn _ _ he)
  | halt hh w' =>
    cases hh <;> simp only [Oper.upon] at h ⊢ <;> first | exact hq _ _ _ h | exact h

/-- an operation panics, just so -/
def OpP (P : Program) (GL : Nat → D) (n : Nat) (E : Nat → D) (S : St) (o : Oper) (d : D) (S' : St) : Prop :=
  ∀ ⦃mb : Nat⦄ (g : G) (a : Act) (w : World), Sim g S w → Env g E a → Glob g GL → a.tmps.size = n → Mk mb g w a.defers →
    o.wp P a w (fun _ _ => False) (Lift n mb g w (fun x E S1 => x = .pan d ∧ E = (fun _ => .undef) ∧ S1 = S'))

/-- ahead of what panics: each that must stand ahead of it does; each that does not waits for it -/
def panOk (n : Nat) (ops : Array Oper) (i0 : Nat) (pre : Plan) : Bool :=
  dstOk n ops && looksOk ops && ordOk ops pre [] [] && (!pre.any fun x => x.1 == i0) && decide (i0 < ops.size) &&
  (match ops[i0]? with | some o => o.after.all fun e => !Region.binds .any e || pre.any fun x => x.1 == e.on | none => false) && ((chOf pre).all fun j => dep2 ops i0 j) &&
  (List.range ops.size).all fun j => j == i0 || (pre.any fun x => x.1 == j) || dep2 ops j i0


theorem pan_wp {r : Nat → D} {pre : Plan} {Sf : List St} {g0 : G} {w0 : World} {i0 : Nat} {o0 : Oper} {d : D} {S2 : St} (hdst : dstOk n ops = true) (hlooks : looksOk ops = true) (hord : ordOk ops pre [] [] = true) (h0 : ops[i0]? = some o0)
    (hni0 : ∀ x ∈ pre, x.1 ≠ i0) (hdep0 : ∀ j, dep ops i0 j = true → ∃ x ∈ pre, x.1 = j) (hch0 : ∀ j ∈ chOf pre, dep2 ops i0 j = true) (hrest : ∀ j, j < ops.size → j = i0 ∨ (∃ x ∈ pre, x.1 = j) ∨ dep2 ops j i0 = true)
    (hlen : Sf.length = (chOf pre).length + 1) (hf : ∀ x ∈ pre, ∃ o done' c, Fact P GL n ops E0 r (chOf pre) Sf x.1 o done' c)
    (hP : ∀ S, Sf.reverse[(chOf pre).length]? = some S → guardD ops (ov ops E0 r (fun j => pre.any fun x => x.1 == j)) o0.guard = some true ∧ ∀ E', (∀ t ∈ o0.looksAt ops, E' t = ov ops E0 r (fun j => pre.any fun x => x.1 == j) t) → OpP P GL n E' S o0 d S2)
    (hQ : Q (.pan d) (fun _ => .undef) S2) :
    ∀ (fuel : Nat) (listed : Array Bool) (g : G) (a : Act) (w : World) (p : Nat) (S : St), listed.size = ops.size → (∀ i k, listed.getD i false = true → dep ops i k = true → listed.getD k false = true) → listed.getD i0 false = false →
      (∀ (q i : Nat), (chOf pre)[q]? = some i → (listed.getD i false = true ↔ q < p)) → p ≤ (chOf pre).length → Sf.reverse[p]? = some S → Sim g S w → Env g (ov ops E0 r (fun i => listed.getD i false)) a → Glob g GL →
      a.tmps.size = n → Mk mb g w a.defers → Keep g0 g w0 w → unl ops listed ≤ fuel → wpAny P .any ops (Lift n mb g0 w0 Q) fuel listed a w := by
  obtain ⟨hdist, hlook⟩ := looks_spec hlooks
  have hndp : (chOf pre).Nodup := List.Nodup.sublist (chOf_sub pre) (ord_nodup pre _ _ hord).1
  have hlt0 := (Array.getElem?_eq_some_iff.1 h0).1
  have hpreany : ∀ j, (pre.any fun x => x.1 == j) = true ↔ ∃ x ∈ pre, x.1 = j := fun j => by simp [List.any_eq_true]
  -- of those ahead, each waits for such alone
  have hclpre : ∀ (pl : Plan) (dn cs : List Nat), ordOk ops pl dn cs = true → (∀ j ∈ dn, ∃ x ∈ pre, x.1 = j) → (∀ x ∈ pl, x ∈ pre) → ∀ x ∈ pl, ∀ k, dep ops x.1 k = true → ∃ y ∈ pre, y.1 = k := by
    intro pl
    induction pl with
    | nil => intro dn cs _ _ _ x hx; cases hx
    | cons y pl ih =>
      intro dn cs ho hdn hsub x hx k hk
      obtain ⟨i, lo, ch⟩ := y
      unfold ordOk at ho
      split at ho
      · cases ho
      rename_i o hoi
      simp only [Bool.and_eq_true, Bool.not_eq_true', Array.all_eq_true_iff_forall_mem, Bool.or_eq_true] at ho
      obtain ⟨⟨⟨g1, g2⟩, g3⟩, g4⟩ := ho
      rcases List.mem_cons.1 hx with rfl | hx
      · obtain ⟨e, he, hb, rfl⟩ := (dep_iff hoi).1 hk
        rcases g2 e he with h | h
        · rw [hb] at h; simp at h
        · exact hdn _ (by simpa using h)
      · exact ih (i :: dn) _ g4 (fun j hj => by
          rcases List.mem_cons.1 hj with rfl | hj
          · exact ⟨(j, lo, ch), hsub _ (List.mem_cons_self ..), rfl⟩
          · exact hdn j hj) (fun z hz => hsub z (List.mem_cons_of_mem _ hz)) x hx k hk
  have hcp : ∀ x ∈ pre, ∀ k, dep ops x.1 k = true → ∃ y ∈ pre, y.1 = k := hclpre pre [] [] hord (fun j hj => by cases hj) (fun x hx => hx)
  -- there is always one more
  have more : ∀ listed : Array Bool, listed.size = ops.size → listed.getD i0 false = false → Region.ready .any ops listed = [] → False := by
    intro listed hsz hi hr
    have hall := ord_all hsz hr pre [] [] hord (fun j hj => by cases hj)
    have : i0 ∈ Region.ready .any ops listed := by
      refine mem_ready.2 ⟨?_, o0, h0, fun e he hbb => ?_⟩
      · have : i0 < listed.size := by rw [hsz]; exact hlt0
        simp [this] at hi ⊢; exact hi
      · obtain ⟨x, hx, hxe⟩ := hdep0 e.on ((dep_iff h0).2 ⟨e, he, hbb, rfl⟩)
        rw [← hxe]; exact hall x hx
    rw [hr] at this; cases this
  intro fuel
  induction fuel with
  | zero =>
    intro listed g a w p S hsz hcl hi0 hch hp hS hs he hg hn hd hk hfu
    have := unl_set hsz hlt0 hi0
    omega
  | succ fuel ih =>
    intro listed g a w p S hsz hcl hi0 hch hp hS hs he hg hn hd hk hfu
    refine ⟨fun hr => (more listed hsz hi0 hr).elim, fun i hi => ?_⟩
    obtain ⟨hb0, o, ho, hready⟩ := mem_ready.1 hi
    have hlt := (Array.getElem?_eq_some_iff.1 ho).1
    have hLi : listed.getD i false = false := by simp [hsz, hlt] at hb0 ⊢; exact hb0
    have hdepL : ∀ k, dep ops i k = true → listed.getD k false = true := fun k hk => by
      obtain ⟨e, he, hb, rfl⟩ := (dep_iff ho).1 hk
      exact hready e he hb
    have hthruN : ∀ n j k, listed.getD j false = true → depN ops n j k = true → listed.getD k false = true := fun n => by
      induction n with
      | zero => intro j k hj hk; exact hcl j k hj hk
      | succ n ih =>
        intro j k hj hk
        simp only [depN, Bool.or_eq_true, List.any_eq_true, Bool.and_eq_true] at hk
        rcases hk with hk | ⟨m, _, h1, h2⟩
        · exact hcl j k hj hk
        · exact ih m k (hcl j m hj h1) h2
    have hthru : ∀ j k, listed.getD j false = true → dep2 ops j k = true → listed.getD k false = true := fun j k hj hk => hthruN 4 j k hj hk
    have hdep2L : ∀ k, dep2 ops i k = true → listed.getD k false = true := fun k hk => by
      unfold dep2 at hk
      simp only [depN, Bool.or_eq_true, List.any_eq_true, Bool.and_eq_true] at hk
      rcases hk with hk | ⟨m, _, h1, h2⟩
      · exact hdepL k hk
      · exact hthruN 3 m k (hdepL m h1) (by simp only [depN, Bool.or_eq_true, List.any_eq_true, Bool.and_eq_true]; exact h2)
    have hset : ∀ k, (listed.setIfInBounds i true).getD k false = if k = i then true else listed.getD k false := by
      intro k
      by_cases h : k = i
      · subst h; simp [hsz, hlt]
      · rw [getD_set_ne false (Ne.symm h), if_neg h]
    rcases hrest i hlt with rfl | hin | hdp
    · -- it is its turn
      rw [h0] at ho
      simp only [Option.some.injEq] at ho
      subst ho
      have hpc : p = (chOf pre).length := by
        rcases Nat.lt_or_ge p (chOf pre).length with hl | hl
        · have hget : (chOf pre)[p]? = some (chOf pre)[p] := by simp [hl]
          have := (hch p _ hget).1 (hdep2L _ (hch0 _ (List.mem_of_getElem? hget)))
          omega
        · omega
      subst hpc
      have hagree : ∀ t ∈ o0.looksAt ops, ov ops E0 r (fun i => listed.getD i false) t = ov ops E0 r (fun j => pre.any fun x => x.1 == j) t := by
        intro t ht
        refine ov_same fun j hj => ⟨?_, fun _ => rfl⟩
        obtain ⟨hne, hdd⟩ := hlook i o0 h0 t ht j hj
        rcases hdd with hdd | hdd
        · rw [hdepL j hdd]; exact ((hpreany j).2 (hdep0 j hdd)).symm
        · have h1 : listed.getD j false = false := by
            cases hb : listed.getD j false with
            | false => rfl
            | true => have := hcl j i hb hdd; rw [hLi] at this; cases this
          have h2 : (pre.any fun x => x.1 == j) = false := by
            cases hb : (pre.any fun x => x.1 == j) with
            | false => rfl
            | true =>
              obtain ⟨x, hx, rfl⟩ := (hpreany j).1 hb
              obtain ⟨y, hy, hye⟩ := hcp x hx i hdd
              exact absurd hye (hni0 y hy)
          rw [h1, h2]
      obtain ⟨hgd, hop⟩ := hP S hS
      rw [← guard_same hagree] at hgd
      unfold wpOp
      simp only [h0]
      rw [if_pos (guard_wanted he hgd)]
      refine .inl (op_mono2 (fun _ _ h => h.elim) (fun e a' w' hh => ?_) (hop _ hagree g a w hs he hg hn hd))
      obtain ⟨g', E', S', x, k1, k2, k3, k4, k5, k6, q1, q2, q3⟩ := hh
      subst q1 q2 q3
      exact ⟨g', _, _, .pan d, hk.trans k1, k2, k3, k4, k5, k6, hQ⟩
    · -- one ahead of it
      obtain ⟨x, hx, hxi⟩ := hin
      have hii : i ≠ i0 := by rw [← hxi]; exact hni0 x hx
      obtain ⟨o', done, c, F⟩ := hf x hx
      rw [hxi] at F
      have hoo : o' = o := by have := F.ho; rw [ho] at this; simpa using this.symm
      subst hoo
      have hagree : ∀ t ∈ o'.looksAt ops, ov ops E0 r (fun i => listed.getD i false) t = ov ops E0 r (fun j => done.contains j) t := by
        intro t ht
        refine ov_same fun j hj => ⟨?_, fun _ => rfl⟩
        obtain ⟨hne, hdd⟩ := hlook i o' ho t ht j hj
        rcases hdd with hdd | hdd
        · rw [hdepL j hdd]; have := F.hdep j hdd; simp [this]
        · have h1 : listed.getD j false = false := by
            cases hb : listed.getD j false with
            | false => rfl
            | true => have := hcl j i hb hdd; rw [hLi] at this; cases this
          have h2 : j ∉ done := fun hjd => F.hni (F.hcl j hjd i hdd)
          rw [h1]; simp [h2]
      have hdo : ∀ t, o'.dst = some t → t < a.tmps.size := by
        intro t ht
        unfold dstOk at hdst
        rw [Array.all_eq_true_iff_forall_mem] at hdst
        have := hdst o' (Array.mem_of_getElem? ho)
        rw [ht] at this
        simpa [hn] using this
      have hcl' : ∀ j k, (listed.setIfInBounds i true).getD j false = true → dep ops j k = true → (listed.setIfInBounds i true).getD k false = true := by
        intro j k hj hjk
        rw [hset] at hj ⊢
        split
        · rfl
        · split at hj
          · rename_i h; subst h; exact hdepL k hjk
          · exact hcl j k hj hjk
      have hfu' : unl ops (listed.setIfInBounds i true) ≤ fuel := by have := unl_set hsz hlt hLi; omega
      have hi0' : (listed.setIfInBounds i true).getD i0 false = false := by rw [hset, if_neg (Ne.symm hii)]; exact hi0
      have go : ∀ (S1 S' : St) (p' : Nat), S = S1 → Step1 P GL n ops (ov ops E0 r (fun j => done.contains j)) S1 o' (r i) S' → Sf.reverse[p']? = some S' → p' ≤ (chOf pre).length →
          (∀ (q k : Nat), (chOf pre)[q]? = some k → ((listed.setIfInBounds i true).getD k false = true ↔ q < p')) →
          wpOp P ops (Lift n mb g0 w0 Q) i (wpAny P .any ops (Lift n mb g0 w0 Q) fuel (listed.setIfInBounds i true)) a w := by
        intro S1 S' p' hSS hstep hS' hp' hch'
        subst hSS
        unfold wpOp
        simp only [ho]
        have hnext : ∀ g' w' v, Keep g g' w w' → Sim g' S' w' → V g' (r i) v → wpAny P .any ops (Lift n mb g0 w0 Q) fuel (listed.setIfInBounds i true) (a.put o'.dst v) w' := by
          intro g' w' v k1 k2 k3
          refine ih _ g' _ w' p' S' (by simp [hsz]) hcl' hi0' hch' hp' hS' k2 ?_ (hg.mono k1.le) (by rw [put_size]; exact hn) (by rw [put_defers]; exact hd.keep k1) (hk.trans k1) hfu'
          rw [ov_add (dn := fun k => listed.getD k false) hdist ho (by rw [hset]; simp) (fun j hj => by rw [hset, if_neg hj])]
          exact (he.mono k1.le).put k3 hdo
        unfold Step1 at hstep
        rw [← guard_same hagree] at hstep
        split at hstep
        · rename_i hgd
          rw [if_pos (guard_wanted he hgd)]
          exact .inl (wp_sure (hstep _ hagree g a w hs he hg hn hd) fun a' w' ⟨g', v, k1, k2, k3, k4⟩ => by rw [k4]; exact hnext g' w' v k1 k2 k3)
        · rename_i hgd
          have := guard_wanted he hgd
          rw [if_neg (by rw [this]; simp)]
          obtain ⟨h1, h2⟩ := hstep
          subst h2
          exact hnext g w undef (.refl _ _) hs (by rw [h1]; exact V_tup0 g)
        · exact hstep.elim
      rcases F.step with ⟨s1, s2, S1, S', s3, s4, s5⟩ | ⟨s1, lo, s2, s3⟩
      · have hpc : p = c := by
          have h1 : ¬ c < p := fun h => by have := (hch c i s1).2 h; rw [hLi] at this; cases this
          rcases Nat.lt_or_ge p c with h2 | h2
          · have hcl2 : c < (chOf pre).length := (List.getElem?_eq_some_iff.1 s1).1
            have hget : (chOf pre)[p]? = some ((chOf pre)[p]'(by omega)) := by simp
            have := (hch p _ hget).1 (hdep2L _ (s2 p _ h2 hget))
            omega
          · omega
        subst hpc
        have hSS : S = S1 := by rw [hS] at s3; simpa using s3
        have hcl2 : p < (chOf pre).length := (List.getElem?_eq_some_iff.1 s1).1
        refine go S1 S' (p + 1) hSS s5 s4 (by omega) fun q k hq => ?_
        rw [hset]
        split
        · rename_i hki
          subst hki
          have : q = p := by
            have e1 := List.getElem?_eq_some_iff.1 hq
            have e2 := List.getElem?_eq_some_iff.1 s1
            obtain ⟨l1, e1⟩ := e1
            obtain ⟨l2, e2⟩ := e2
            exact (List.getElem_inj hndp).1 (e1.trans e2.symm)
          subst this
          simp
        · rename_i hki
          rw [hch q k hq]
          have : q ≠ p := by rintro rfl; rw [hq] at s1; simp at s1; exact hki s1
          omega
      · refine go S S p rfl (s3 p S ?_ hS) hS hp fun q k hq => ?_
        · rcases s2 with s2 | ⟨t1, t2, t3⟩
          · exact .inl s2
          · have hcl2 := F.hc
            refine .inr ⟨?_, ?_⟩
            · rcases Nat.lt_or_ge p lo with h2 | h2
              · have hget : (chOf pre)[p]? = some ((chOf pre)[p]'(by omega)) := by simp
                have := (hch p _ hget).1 (hdep2L _ (t1 p _ h2 hget))
                omega
              · exact h2
            · rcases Nat.lt_or_ge c p with h2 | h2
              · have hget : (chOf pre)[c]? = some ((chOf pre)[c]'(by omega)) := by simp
                have h3 := (hch c _ hget).2 h2
                have := hthru _ _ h3 (t3 c _ (Nat.le_refl _) hget)
                rw [hLi] at this
                cases this
              · exact h2
        · rw [hset]
          split
          · rename_i hki; subst hki; exact absurd hq (s1 q)
          · exact hch q k hq
    · -- one that waits for it
      have := hdep2L i0 hdp
      rw [hi0] at this
      cases this

theorem drawT_mono {K K' : (Nat → D) → St → Prop} (hk : ∀ E S, K E S → K' E S) : ∀ (plan : Plan) (Ss : List St) (E : Nat → D), drawT P GL ops plan Ss E K → drawT P GL ops plan Ss E K'
  | [], Ss, E, h => by
    unfold drawT at h ⊢
    cases Ss with
    | nil => exact h
    | cons S Sr => exact hk _ _ h
  | (i, lo, ch) :: rest, Ss, E, h => by
    unfold drawT at h ⊢
    cases ho : ops[i]? with
    | none => rw [ho] at h; exact h.elim
    | some o =>
      rw [ho] at h
      cases Ss with
      | nil => exact h.elim
      | cons S Sr =>
        simp only at h ⊢
        split at h
        · split at h
          · obtain ⟨d, S', h1, h2, h3⟩ := h
            exact ⟨d, S', h1, h2, drawT_mono hk _ _ _ h3⟩
          · split at h
            · exact ⟨h.1, drawT_mono hk _ _ _ h.2⟩
            · exact h.elim
        · exact drawT_mono hk _ _ _ h
        · exact h.elim

/-- A REGION THAT DRAWS ITS ORDER, AND PANICS -/
theorem any_pan {i0 : Nat} {pre : Plan} {o0 : Oper} {d : D} {S S2 : St} (hp : panOk n ops i0 pre = true) (h0 : ops[i0]? = some o0)
    (h : drawT P GL ops pre [S] E0 fun E S1 => guardD ops E o0.guard = some true ∧ ∀ E', (∀ t ∈ o0.looksAt ops, E' t = E t) → OpP P GL n E' S1 o0 d S2) (hQ : Q (.pan d) (fun _ => .undef) S2) : AnyT P GL n ops E0 S Q := by
  unfold panOk at hp
  simp only [Bool.and_eq_true, List.all_eq_true, List.mem_range, Bool.or_eq_true, Bool.not_eq_true', decide_eq_true_eq, beq_iff_eq] at hp
  obtain ⟨⟨⟨⟨⟨⟨⟨p1, p2⟩, p3⟩, p4⟩, p5⟩, p6⟩, p7⟩, p8⟩ := hp
  have hpreany : ∀ j, (pre.any fun x => x.1 == j) = true ↔ ∃ x ∈ pre, x.1 = j := fun j => by simp [List.any_eq_true]
  have e0 : ov ops E0 (fun _ => .undef) (fun j => ([] : List Nat).contains j) = E0 := by funext t; exact ov_not fun j _ => by simp
  rw [← e0] at h
  obtain ⟨r, Sf, k1, k2, S3, k3, k4⟩ := drawT_cert (n := n) (looks_spec p2).1 pre [] [] [S] _ _ p3 h
  intro mb g a w hs he hg hn hd
  obtain ⟨T, hT, hTl⟩ := cert_len _ _ _ _ k2
  have hlen : Sf.length = (chOf pre).length + 1 := by rw [hT]; simp [hTl]
  have hf0 : ∀ i, (Array.replicate ops.size false).getD i false = false := fun i => by
    by_cases h : i < ops.size <;> simp [h]
  refine pan_wp (g0 := g) (w0 := w) (i0 := i0) (o0 := o0) (d := d) (S2 := S2) p1 p2 p3 h0 (fun x hx hxe => ?_) (fun j hj => ?_) p7 (fun j hj => ?_) hlen (facts pre [] [] [S] p3 k2 (fun j hj => by cases hj) (by simp) rfl (fun j hj => by cases hj)) ?_ hQ ops.size _ g a _ 0 S (by simp) ?_ (hf0 i0) ?_ (by omega) ?_ (hs.ofHeap rfl) ?_ hg hn hd ?_ ?_
  · have : (pre.any fun x => x.1 == i0) = true := (hpreany i0).2 ⟨x, hx, hxe⟩
    rw [p4] at this; cases this
  · obtain ⟨e, he, hb, rfl⟩ := (dep_iff h0).1 hj
    rw [h0] at p6
    simp only [Array.all_eq_true_iff_forall_mem, Bool.or_eq_true, Bool.not_eq_true'] at p6
    rcases p6 e he with h | h
    · rw [hb] at h; cases h
    · exact (hpreany _).1 h
  · rcases p8 j hj with (h | h) | h
    · exact .inl h
    · exact .inr (.inl ((hpreany j).1 h))
    · exact .inr (.inr h)
  · intro S' hS'
    rw [List.getElem?_reverse (by omega)] at hS'
    have hh : Sf.head? = some S' := by
      rw [List.head?_eq_getElem?, ← hS']
      congr 1
      omega
    rw [k3] at hh
    simp only [Option.some.injEq] at hh
    subst hh
    have : (fun j => ([] : List Nat).contains j || pre.any fun x => x.1 == j) = (fun j => pre.any fun x => x.1 == j) := by
      funext j; simp
    rw [this] at k4
    exact k4
  · intro i k hi; rw [hf0] at hi; cases hi
  · intro q i _; rw [hf0]; simp
  · rw [hT]; simp
  · have : ov ops E0 r (fun i => (Array.replicate ops.size false).getD i false) = E0 := by
      funext t; exact ov_not fun j _ => hf0 j
    rw [this]; exact he
  · exact ⟨.refl _, Nat.le_refl _, fun _ _ _ => rfl, fun _ _ h => .inl h, fun i v _ n h => .inr ⟨i, v, n, h⟩, rfl, rfl, rfl⟩
  · unfold unl
    exact Nat.le_trans (List.countP_le_length) (by simp)
end
end Go.Bw

/- The framework, part 32: lists that are built as rows; a row of bytes turned into bytes. -/
namespace Go.Bw
open Go
section
variable {P : Program} {S : St} {g : G} {w : World}

/-- a list that is built, as a row -/
def bsRowD (P : Program) (S : St) (t : TypeId) (len : Nat) (parts : List (Nat × D)) : Option (D × St) :=
  match elOf P t with
  | some (e, n) => match zeroD P e with
    | some z => if z.length = n ∧ 0 < n ∧ 0 < len ∧ len * n ≤ 16777216 then
        match layD (fun i => some (i * n, n)) (repD z len) parts with
        | some cs => if cs.length = len * n then some (.ref S.next 0 n 0 len, S.new cs) else none
        | none => none
      else none
    | none => none
  | none => none

theorem bsRow_does {α : Type} (f : α → D) (h : α → Value) {t : TypeId} {len : Nat} {parts : Array (Nat × α)} {r : D} {S' : St} (hr : bsRowD P S t len (parts.toList.map fun p => (p.1, f p.2)) = some (r, S'))
    (hs : Sim g S w) (hp : ∀ p ∈ parts.toList, V g (f p.2) (h p.2)) : Does P (Instr.buildSlice t len (parts.map fun p => (p.1, h p.2))) g w r S' := by
  unfold bsRowD at hr
  split at hr
  · rename_i e n hel
    obtain ⟨hu, hz⟩ := elOf_spec hel
    split at hr
    · rename_i z hzd
      split at hr
      · rename_i hc
        obtain ⟨c1, c2, c3, c4⟩ := hc
        split at hr
        · rename_i cs hl
          split at hr
          · rename_i hc2
            simp only [Option.some.injEq, Prod.mk.injEq] at hr
            obtain ⟨rfl, rfl⟩ := hr
            obtain ⟨v, h1, h2, h3⟩ := V_zero hzd
            have hv0 : VL g (repD z len) ((Array.range (len * n)).map (fun x => v.cells[x % v.cells.size]!)) := by
              refine ⟨by simp [repD_len, c1], ?_⟩
              have := rep_V (g := g) h2 (h3 g) len len (Nat.le_refl _)
              rw [c1] at this
              exact this
            obtain ⟨r', e1, e2⟩ := lay_fill f h _ _ _ _ _ hp hv0 hl
            have hpos : 0 < len * n := Nat.mul_pos c3 c2
            have hle : len ≤ len * n := Nat.le_mul_of_pos_right _ c2
            refine ⟨g.newRow S.next w.heap.size (len * n), w.alloc (.cells r' e), .slice (some ⟨w.heap.size, 0, none⟩) len len, ?_, .ref (n := len * n) (b := w.heap.size) (by simp [G.newRow]) (by omega) (by omega) (by omega), ?_, .newRow hs _ _⟩
            · simp only [Instr.buildSlice, Sem.run_bind, underlying_runs hu, Result.andThen_ok, sizeOf_runs hz]
              rw [if_neg (by omega)]
              have htl : (parts.map fun p => (p.1, h p.2)).toList = parts.toList.map fun p => (p.1, h p.2) := by simp
              rw [htl]
              rw [if_neg (by omega)]
              simp only [Sem.run_pure, Sem.run_bind, Result.andThen_ok, zero_runs h1]
              rw [e1]
              simp [newRow]
            · exact hs.newRow (by rw [e2.1, hc2]) (by rw [hc2]; exact Nat.le_refl _) ⟨by intro o _ hh; simp at hh, Nat.le_refl _⟩ e2.2
          · cases hr
        · cases hr
      · cases hr
    · cases hr
  · cases hr

/-- bytes turned into bytes of the same type: the row stays, marked behind its end -/
def cvRowD (P : Program) (S : St) (s t : TypeId) (x : D) : Option D :=
  match x with
  | .ref id ver sz off len => match S.tab id, P.underlying t with
    | some e, some (.slice el) => match P.underlying el with
      | some (.int .u8) => if e.ver = ver ∧ s = t then some (.ref id ver sz off len) else none
      | _ => none
    | _, _ => none
  | _ => none
theorem frz_heap {w : World} {b : Nat} {c : Array Value} {t : TypeId} {fz : Nat × Nat} (h : w.heap[b]? = some (.cells c t fz)) (k : Nat) :
    (w.freeze ⟨b, k, none⟩ 1).heap[b]? = some (.cells c t (if fz.1 == fz.2 then (k, k + 1) else (min fz.1 k, max fz.2 (k + 1)))) ∧ ∀ b', b' ≠ b → (w.freeze ⟨b, k, none⟩ 1).heap[b']? = w.heap[b']? := by
  unfold World.freeze
  rw [if_neg (by decide)]
  refine ⟨?_, fun b' hb => ?_⟩
  · simp only [Array.getElem?_modify, if_true, h, Option.map_some]
  · simp only [Array.getElem?_modify]
    rw [if_neg (fun e => hb e.symm)]
theorem Sim.mark {id : Nat} {e : En} {b n : Nat} (hs : Sim g S w) (he : S.tab id = some e) (hr : g.r id e.ver = some (b, n)) : Sim g S (w.freeze ⟨b, n, none⟩ 1) ∧ Keep g g w (w.freeze ⟨b, n, none⟩ 1) := by
  obtain ⟨b', n', c, t, fz, a1, a2, a3, a4, a5, a6, a7⟩ := hs.sto id e he
  rw [hr] at a1
  simp only [Option.some.injEq, Prod.mk.injEq] at a1
  obtain ⟨rfl, rfl⟩ := a1
  obtain ⟨f1, f2⟩ := frz_heap a2 n
  have hsz : (w.freeze ⟨b, n, none⟩ 1).heap.size = w.heap.size := by unfold World.freeze; rw [if_neg (by decide)]; simp
  refine ⟨⟨fun k o hk => ?_, fun i e' he' => ?_, hs.inj, hs.fresh, hs.tabs, hs.later, fun i v b n h => by rw [hsz]; exact hs.inb i v b n h⟩, ⟨.refl _, by rw [hsz]; exact Nat.le_refl _, fun k hk hn => ?_, fun _ _ h => .inl h, fun i v _ n h => .inr ⟨i, v, n, h⟩, ?_, ?_, ?_⟩⟩
  · have hne : k ≠ b := by rintro rfl; rw [a5] at hk; cases hk
    rw [f2 k hne]; exact hs.imm k o hk
  · obtain ⟨b2, n2, c2, t2, fz2, p1, p2, p3, p4, p5, p6, p7⟩ := hs.sto i e' he'
    by_cases hb : b2 = b
    · subst hb
      rw [a2] at p2
      simp only [Option.some.injEq, Obj.cells.injEq] at p2
      obtain ⟨rfl, rfl, rfl⟩ := p2
      have hn : n = n2 := by rw [← a3, ← p3]
      refine ⟨b2, n2, c, t, _, p1, f1, p3, p4, p5, ?_, p7⟩
      split
      · exact ⟨fun o ho => by simp only; omega, by simp only; omega⟩
      · rename_i hne
        have hne' : fz.1 ≠ fz.2 := by simpa using hne
        have h12 : fz.1 < fz.2 := by have := a6.2; omega
        have h3 : n2 ≤ fz.1 := by
          rcases Nat.lt_or_ge fz.1 n2 with h | h
          · exact absurd ⟨Nat.le_refl _, h12⟩ (p6.1 _ h)
          · exact h
        exact ⟨fun o ho => by simp only; omega, by simp only; omega⟩
    · exact ⟨b2, n2, c2, t2, fz2, p1, by rw [f2 b2 hb]; exact p2, p3, p4, p5, p6, p7⟩
  · have hne : k ≠ b := by rintro rfl; exact hn _ _ _ hr
    exact f2 k hne
  all_goals (unfold World.freeze; rw [if_neg (by decide)])
theorem cvRow_does {s t : TypeId} {x r : D} {a : Value} (h : cvRowD P S s t x = some r) (hs : Sim g S w) (ha : V g x a) : Does P (convert s t a) g w r S := by
  unfold cvRowD at h
  split at h
  · rename_i id ver sz off len
    split at h
    · rename_i e el he hu
      split at h
      · rename_i hu8
        split at h
        · rename_i hc
          obtain ⟨rfl, rfl⟩ := hc
          simp only [Option.some.injEq] at h
          subst h
          cases ha with
          | ref hr hl hx hn =>
            rename_i b n cap
            obtain ⟨m1, m2⟩ := hs.mark he hr
            obtain ⟨b0, n0, c, t0, fz, a1, a2, a3, a4, a5, a6, a7⟩ := hs.sto id e he
            rw [hr] at a1
            simp only [Option.some.injEq, Prod.mk.injEq] at a1
            obtain ⟨rfl, rfl⟩ := a1
            refine ⟨g, _, _, ?_, .ref hr hl hx hn, m1, m2⟩
            unfold convert
            simp only [Sem.run_bind, underlying_runs hu, underlying_runs hu8, Result.andThen_ok, beq_self_eq_true]
            have hsh : (shape b).run P w = .ok (some (t0, n)) w := by
              show Result.ok (w.shape? b) w = _
              unfold World.shape?
              rw [a2]
              simp only [a3]
            simp only [markStringish, Sem.run_bind, hsh, Result.andThen_ok]
            rfl
        · cases h
      · cases h
    · cases h
  · cases h
end
end Go.Bw

/- The framework, part 34: structs and arrays of scalars, compared. -/
namespace Go.Bw
open Go
def eqAll : List (Option Bool) → Option Bool
  | [] => some true
  | o :: r => o.bind fun b => (eqAll r).map (b && ·)
/-- are two values of scalars equal? -/
def eqP (P : Program) : Nat → TypeId → Value → Value → Option Bool
  | 0, _, _, _ => none
  | d + 1, t, x, y => match P.underlying t, x, y with
    | some .bool, .bool a, .bool b => some (a == b)
    | some (.int _), .int k a, .int k' b => if k = k' then some (a == b) else none
    | some .string, .string a, .string b => some (a == b)
    | some (.struct fs), .agg xs, .agg ys => if P.stoodInHeld t = true then none else eqAll (fs.toList.map fun f => if f.name ≠ "_" then (pureRun P (part f.type xs f.offset)).bind fun a => (pureRun P (part f.type ys f.offset)).bind fun b => eqP P d f.type a b else some true)
    | some (.array n e), .agg xs, .agg ys => (szOf P e).bind fun sz => eqAll ((List.range n).map fun i => (pureRun P (part e xs (i * sz))).bind fun a => (pureRun P (part e ys (i * sz))).bind fun b => eqP P d e a b)
    | _, _, _ => none
section
variable {P : Program}
theorem forEq {α : Type} (g : α → Sem (ForInStep (Option Bool × Unit))) (o : α → Option Bool) : ∀ (l : List α) (b : Bool), (∀ x ∈ l, ∀ b, o x = some b → pureRun P (g x) = some (if b = true then .yield (none, ()) else .done (some false, ()))) → eqAll (l.map o) = some b →
    pureRun P (forIn l ((none : Option Bool), ()) fun x _ => g x) = some ((if b = true then none else some false), ())
  | [], b, _, h => by
    simp only [List.map_nil, eqAll, Option.some.injEq] at h
    subst h
    rfl
  | x :: l, b, hg, h => by
    simp only [List.map_cons, eqAll, Option.bind_eq_some_iff, Option.map_eq_some_iff] at h
    obtain ⟨b1, h1, b2, h2, rfl⟩ := h
    rw [List.forIn_cons, pureRun_bind, hg x (by simp) b1 h1]
    cases b1 with
    | true => simp only [if_true, Option.bind_some, Bool.true_and]; exact forEq g o l b2 (fun y hy => hg y (by simp [hy])) h2
    | false => rfl
theorem runs_szOf {e : TypeId} {sz : Nat} (h : szOf P e = some sz) : pureRun P (sizeOf e) = some sz := by
  unfold szOf at h
  simp only [Option.map_eq_some_iff] at h
  obtain ⟨i, hi, rfl⟩ := h
  unfold sizeOf typeInfo
  rw [show (program : Sem Program) = .program .pure from rfl]
  simp only [pureRun_bind, pureRun, Option.bind_some, hi, pureRun_pure]
theorem eqP_run : ∀ (d : Nat) (t : TypeId) (x y : Value) (b : Bool), eqP P d t x y = some b → pureRun P (Op.equalIn d t x y) = some b
  | 0, _, _, _, _, h => by cases h
  | d + 1, t, x, y, b, h => by
    rw [Op.equalIn.eq_def]
    simp only [eqP] at h
    split at h
    · rename_i hu
      simp only [pureRun_bind, pureRun_underlying hu, Option.bind_some]; exact h
    · rename_i hu
      simp only [pureRun_bind, pureRun_underlying hu, Option.bind_some]
      split at h
      · rename_i hk; simp only [hk, if_true]; exact h
      · cases h
    · rename_i hu
      simp only [pureRun_bind, pureRun_underlying hu, Option.bind_some]; exact h
    · rename_i fs xs ys hu
      split at h
      · cases h
      rename_i hst
      simp only [pureRun_bind, pureRun_underlying hu, Option.bind_some]
      rw [show (program : Sem Program) = .program .pure from rfl]
      simp only [pureRun, Option.bind_some, hst, Bool.false_eq_true, if_false, pureRun_bind, if_neg]
      rw [Array.forIn_toList.symm]
      rw [forEq _ (fun f => if f.name ≠ "_" then (pureRun P (part f.type xs f.offset)).bind fun a => (pureRun P (part f.type ys f.offset)).bind fun b => eqP P d f.type a b else some true) fs.toList b (fun f _ b1 h1 => ?_) h]
      · cases b <;> rfl
      · split at h1
        · rename_i hn
          rw [if_pos hn]
          obtain ⟨u, hu1, h1⟩ := Option.bind_eq_some_iff.1 h1
          obtain ⟨v, hv1, h1⟩ := Option.bind_eq_some_iff.1 h1
          have := eqP_run d _ _ _ _ h1
          simp only [pureRun_bind, hu1, hv1, Option.bind_some, this]
          cases b1 <;> rfl
        · rename_i hn
          rw [if_neg hn]
          simp only [Option.some.injEq] at h1
          subst h1
          rfl
    · rename_i n e xs ys hu
      obtain ⟨sz, hsz, h⟩ := Option.bind_eq_some_iff.1 h
      simp only [pureRun_bind, pureRun_underlying hu, Option.bind_some, runs_szOf hsz]
      rw [Std.Legacy.Range.forIn_eq_forIn_range']
      rw [show List.range' 0 ([:n].size) 1 = List.range n by simp [List.range_eq_range', Std.Legacy.Range.size]]
      rw [forEq _ (fun i => (pureRun P (part e xs (i * sz))).bind fun a => (pureRun P (part e ys (i * sz))).bind fun b => eqP P d e a b) (List.range n) b (fun i _ b1 h1 => ?_) h]
      · cases b <;> rfl
      · obtain ⟨u, hu1, h1⟩ := Option.bind_eq_some_iff.1 h1
        obtain ⟨v, hv1, h1⟩ := Option.bind_eq_some_iff.1 h1
        have := eqP_run d _ _ _ _ h1
        simp only [pureRun_bind, hu1, hv1, Option.bind_some, this]
        cases b1 <;> rfl
    · cases h
end
end Go.Bw

/- The framework, part 35: is a slice that was read as empty nil? -/
namespace Go.Bw
open Go
theorem isnil_runs {P : Program} {t el : TypeId} {xo yo : Operand} {ex : Bool} {g : G} {v : Value} {w : World} (hu : P.underlying t = some (.slice el)) (hn : pureRun P (do eqGuard .eql t xo yo (.slice none 0 0) (.slice none 0 0); binOp .eql t (.slice none 0 0) (.slice none 0 0)) = some (.bool true))
    (hv : V g (.ro ex []) v) : ∃ b, (do eqGuard .eql t xo yo v (.slice none 0 0); binOp .eql t v (.slice none 0 0)).run P w = .ok (.bool b) w := by
  have key : ∀ a cap, (do eqGuard .eql t xo yo (.slice (some a) 0 cap) (.slice none 0 0); binOp .eql t (.slice (some a) 0 cap) (.slice none 0 0)).run P w = .ok (.bool false) w := fun a cap => by
    have h2 : (Op.equal t (.slice (some a) 0 cap) (.slice none 0 0)).run P w = .ok false w := equal_step hu (fun _ => trivial)
    have h1 : (eqGuard .eql t xo yo (.slice (some a) 0 cap) (.slice none 0 0)).run P w = .ok () w := rfl
    have h3 : binOp .eql t (.slice (some a) 0 cap) (.slice none 0 0) = (do pure (.bool (← Op.equal t (.slice (some a) 0 cap) (.slice none 0 0)))) := rfl
    simp only [Sem.run_bind, h1, Result.andThen_ok, h3, h2, Sem.run_pure]
  cases hv with
  | roNil => exact ⟨true, pureRun_run hn w⟩
  | roNone hc he => exact ⟨false, key _ _⟩
  | ro => exact ⟨false, key _ _⟩
section
variable {P : Program} {GL : Nat → D} {n : Nat} {S : St} {E : Nat → D} {Q : Post}
/-- the region of 'x == nil', whatever it says -/
theorem tri_isnil {id : Nat} {o1 o2 : Oper} {s d1 d2 : Tmp} {t el ty : TypeId} {ex : Bool} (hdst : dstOk n #[o1, o2] = true)
    (h1 : o1.op = .move (.tmp s)) (h2 : o1.dst = some d1) (h3 : o1.guard = none)
    (k1 : o2.op = .binOp .eql t (.tmp d1) (.const (.slice none 0 0)) ty) (k2 : o2.dst = some d2) (k3 : o2.guard = none)
    (hu : P.underlying t = some (.slice el)) (hn : pureRun P (do eqGuard .eql t (.tmp d1) (.const (.slice none 0 0)) (.slice none 0 0) (.slice none 0 0); binOp .eql t (.slice none 0 0) (.slice none 0 0)) = some (.bool true))
    (hE : E s = .ro ex []) (h : ∀ b, Q .normal (updO (updO E (some d1) (.ro ex [])) (some d2) (.sc (.bool b))) S) : Tri P GL n (.region id #[o1, o2] false) E S Q := by
  intro mb g a w hs he hg hsz hd
  refine wp_region ?_
  have hr : List.range (#[o1, o2] : Array Oper).size = [0, 1] := rfl
  rw [hr]
  have hdo : ∀ o ∈ (#[o1, o2] : Array Oper), ∀ t, o.dst = some t → t < n := by
    intro o ho t ht
    unfold dstOk at hdst
    rw [Array.all_eq_true_iff_forall_mem] at hdst
    have := hdst o ho
    rw [ht] at this
    simpa using this
  show wpOps P #[o1, o2] _ [0, 1] a w
  simp only [wpOps, List.getElem?_toArray, List.getElem?_cons_zero, List.getElem?_cons_succ]
  rw [if_pos (guard_wanted (b := true) he (by rw [h3]; rfl))]
  have hop : opT P GL E S o1 (fun d S' => d = .ro ex [] ∧ S' = S) (fun _ _ => False) := by
    unfold opT
    have : calleeOf o1 = none := by unfold calleeOf; rw [h1]
    rw [this]
    simp only [opD, h1, and_true]
    exact hE
  refine .inl (opT_wp (.refl _ _) hop hs he hg hsz hd ?_ (fun _ _ hh => hh.elim))
  rintro g' S' w' d v q1 _ q3 q4 ⟨rfl, rfl⟩
  have he2 : Env g' (updO E o1.dst (.ro ex [])) (a.put o1.dst v) := (he.mono q1.le).put q4 (fun t ht => by rw [hsz]; exact hdo o1 (by simp) t ht)
  rw [if_pos (guard_wanted (b := true) he2 (by rw [k3]; rfl))]
  refine .inl ?_
  have he3 := he2
  rw [h2] at he3
  have hv : V g' (.ro ex []) ((a.put o1.dst v).eval (.tmp d1)) := by
    have := rho_V he3 (hg.mono q1.le) (.tmp d1)
    rw [h2]
    simpa [rhoD, updO, upd] using this
  obtain ⟨b, hb⟩ := isnil_runs (w := w') hu hn hv
  have hx : (execOp (a.put o1.dst v).eval o2).run P w' = .ok (.value (.bool b)) w' := by
    have e : execOp (a.put o1.dst v).eval o2 = (do pure (Next.value (← (do eqGuard .eql t (.tmp d1) (.const (.slice none 0 0)) ((a.put o1.dst v).eval (.tmp d1)) (.slice none 0 0); binOp .eql t ((a.put o1.dst v).eval (.tmp d1)) (.slice none 0 0))))) := by
      unfold execOp; rw [k1]; rfl
    rw [e, Sem.run_bind, hb]; rfl
  unfold Oper.wp
  rw [hx, Oper.upon_value]
  refine ⟨g', _, S', .normal, q1, q3, he2.put (.sc (v := .bool b) trivial) (fun t ht => by rw [put_size, hsz]; exact hdo o2 (by simp) t ht), by rw [put_size, put_size]; exact hsz, by rw [put_defers, put_defers]; exact hd.keep q1, trivial, ?_⟩
  rw [h2, k2]
  exact h b
end
end Go.Bw

/- The framework, part 31: a law over tables that are laid. -/
namespace Go.Bw
open Go Go.ChangeShapes Go.WideShapes Go.RowKit

section
variable {H : Type} {enc : TypeId × Value → H} {P : Program}
/-- A LAW over tables: it is called with any arguments, of which it is known how much they hold, and answers true -/
theorem law_contractG {f : Func} {fid : FuncId} {s : ChangeSpec} {W : World} {base : Nat} {args : Array Value} {ds gs : List (DataW H)} {before : List MemPlace} {tb : TypeId} {GL : Nat → D} (hG : Glob (g0 W) GL) (hok : tyOk P = true) (K : Kids P (· < P.types.size)) (hl : laidOutB P = true)
    (ht : ∀ t ∈ f.params.toList, t < P.types.size ∧ (aggB P t).isSome = true) (hvars : s.vars = []) (hres : f.resultTypes = #[tb]) (htb : P.underlying tb = some .bool) (hspec : ∀ ds : List (DataW H), ds.length = f.params.size → s.fn H ds = { results := [.lit (.bool true)], args := ds, vars := [] })
    (hrun : ∀ dl, D.blkL dl ≤ bulk0L ds → Args P f.params.toList dl → CallT P GL fid dl St.empty (fun r _ => r = .ret (.sc (.bool true))))
    (hval : ∀ (j : Nat) t v, f.params[j]? = some t → args[j]? = some v → Value.okWide P W .any base t v) (hW : DataW.Whole enc P f.params.toList s.vars false W args.toList ds gs before) :
    Calls P fid args W fun e W' => ∃ v, e = .returned v ∧ s.post enc P f false true false false W args v W' := by
  have hW' := hW
  obtain ⟨p, q, hA, hV, hpq, hz, hn⟩ := hW'
  obtain ⟨dl, h0, h1, h2, h3⟩ := law_args (base := base) hok K hl f.params.toList args.toList ds p ht (fun j t v hj hv => hval j t v (by simpa using hj) (by simpa using hv)) hA
  have hlen : ds.length = f.params.size := by
    have : ∀ {ts : List TypeId} {vs : List Value} {ds : List (DataW H)} {ps : List MemPlace}, DataW.TrodAll enc P W 0 (fun _ => true) true ts vs ds ps → ds.length = ts.length := by
      intro ts
      induction ts with
      | nil => intro vs ds ps h; obtain ⟨_, rfl, _⟩ := trodAll_nil h; rfl
      | cons t ts ih => intro vs ds ps h; obtain ⟨v, vs', d, ds', p, q, rfl, rfl, rfl, _, h2⟩ := trodAll_cons h; simp [ih h2]
    simpa using this hA
  refine ((hrun dl h0 h1).2 (g0 W) W args (sim0 W) ⟨by simpa using h2, fun j d hd => ?_⟩ hG).mono fun e W' hh => ?_
  · have := h3 j d hd
    simpa [Array.getD_eq_getD_getElem?, List.getD_eq_getElem?_getD] using this
  · obtain ⟨g', S', k1, k2, k3⟩ := hh
    cases e with
    | returned v =>
      obtain ⟨d, q1, q2⟩ := k3
      simp only [R.ret.injEq] at q2
      subst q2
      cases q1 with
      | sc _ =>
        exact ⟨_, rfl, law_post hok K (fun t h => (ht t h).1) hvars hres htb (hspec ds hlen) hW (fun b hb => k1.old b hb (fun i v n h => by cases h)) k1.size k1.os k1.output⟩
    | panicked c => obtain ⟨v, d, q1, q2, q3⟩ := k3; cases q3
    | outgrown => exact k3.elim


theorem insert_perm (x : Lit × DataW Unit) : ∀ l, (DataW.insert x l).Perm (x :: l)
  | [] => .refl _
  | y :: r => by
    unfold DataW.insert
    split
    · exact .refl _
    · exact ((insert_perm x r).cons y).trans (.swap x y r)
theorem sorted_perm : ∀ l : List (Lit × DataW Unit), (l.foldr DataW.insert []).Perm l
  | [] => .refl _
  | x :: l => by
    rw [List.foldr_cons]
    exact (insert_perm x _).trans ((sorted_perm l).cons x)
theorem perm_at {α : Type} {a b : List α} (h : a.Perm b) : ∃ σ : Nat → Nat, (∀ j, j < a.length → b[σ j]? = a[j]?) ∧ ∀ i, i < b.length → ∃ j, j < a.length ∧ σ j = i := by
  induction h with
  | nil => exact ⟨id, fun j h => absurd h (Nat.not_lt_zero _), fun j h => absurd h (Nat.not_lt_zero _)⟩
  | cons x h ih =>
    obtain ⟨σ, h1, h2⟩ := ih
    refine ⟨fun j => match j with | 0 => 0 | j + 1 => σ j + 1, fun j hj => ?_, fun i hi => ?_⟩
    · cases j with
      | zero => rfl
      | succ j => simpa using h1 j (by simpa using hj)
    · cases i with
      | zero => exact ⟨0, by simp, rfl⟩
      | succ i => obtain ⟨j, k1, k2⟩ := h2 i (by simpa using hi); exact ⟨j + 1, by simpa using k1, by simp [k2]⟩
  | swap x y l =>
    refine ⟨fun j => match j with | 0 => 1 | 1 => 0 | j => j, fun j hj => ?_, fun i hi => ?_⟩
    · rcases j with _ | _ | j <;> rfl
    · rcases i with _ | _ | i
      · exact ⟨1, by simp, rfl⟩
      · exact ⟨0, by simp, rfl⟩
      · exact ⟨i + 2, by simpa using hi, rfl⟩
  | trans h k ih ik =>
    obtain ⟨σ, h1, h2⟩ := ih
    obtain ⟨τ, k1, k2⟩ := ik
    have e := h.length_eq
    have lt : ∀ j, j < _ → σ j < _ := fun j hj => by
      have := h1 j hj
      rw [List.getElem?_eq_getElem hj] at this
      exact (List.getElem?_eq_some_iff.1 this).1
    refine ⟨fun j => τ (σ j), fun j hj => (k1 _ (lt j hj)).trans (h1 j hj), fun i hi => ?_⟩
    obtain ⟨j, m1, m2⟩ := k2 i hi
    obtain ⟨j', n1, n2⟩ := h2 j m1
    exact ⟨j', n1, by simp only [n2, m2]⟩

/-- keys and values of bytes -/
def bytesTab (l : List (Int × Int)) : DataW Unit := .map (l.map fun p => (.int .u8 p.1, .lit (.int .u8 p.2)))
theorem map_of_trod {W : World} {t kt e : TypeId} {fuel : Nat} {cs : List Value} {l : List (Int × Int)} {p : List MemPlace} (ht : P.underlying t = some (.map kt e)) (hk : P.underlying kt = some (.int .u8)) (he : P.underlying e = some (.int .u8))
    (h : DataW.trod (fun _ => ()) P W 0 (fun _ => true) false fuel t cs = some (bytesTab l, p)) : ∃ b, cs = [.map (some b)] ∧ V (g0 W) (.mp (l.map fun p => .sc (.int .u8 p.1)) (l.map fun p => .sc (.int .u8 p.2))) (.map (some b)) := by
  cases fuel with
  | zero => simp [DataW.trod] at h
  | succ n =>
    unfold DataW.trod at h
    rw [ht] at h
    dsimp only at h
    split at h <;> first | (exfalso; simp only [bytesTab] at h; cases h; done) | skip
    all_goals first | (rename_i hh; cases hh; done) | skip
    all_goals first | (cases h; done) | skip
    rename_i kt' e' b heq
    obtain ⟨rfl, rfl⟩ : kt = kt' ∧ e = e' := by simpa using heq
    refine ⟨b, rfl, ?_⟩
    split at h
    · rename_i es clock hb
      split at h
      · obtain ⟨entries, hm, h⟩ := Option.bind_eq_some_iff.1 h
        split at h
        · simp only [Option.some.injEq, Prod.mk.injEq, bytesTab, DataW.map.injEq] at h
          obtain ⟨hs, _⟩ := h
          have hlen : entries.length = es.size := by simpa using Lib.mapM_length hm
          have hp : (l.map fun p => (((Lit.int .u8 p.1, DataW.lit (Lit.int .u8 p.2))) : Lit × DataW Unit)).Perm (entries.map fun x => x.1) := by
            rw [← hs]; exact sorted_perm _
          obtain ⟨σ, s1, s2⟩ := perm_at hp
          have key : ∀ (j : Nat) (q : Int × Int), l[j]? = some q → ∃ x : MapEntry, es[σ j]? = some x ∧ x.key = .int .u8 q.1 ∧ x.val = .int .u8 q.2 ∧ σ j < es.size := by
            intro j q hq
            have hj : j < l.length := (List.getElem?_eq_some_iff.1 hq).1
            have h1 := s1 j (by simpa using hj)
            simp only [List.getElem?_map, hq, Option.map_some] at h1
            obtain ⟨en, hen, hen2⟩ := Option.map_eq_some_iff.1 h1
            have hlt : σ j < entries.length := (List.getElem?_eq_some_iff.1 hen).1
            have hsz : σ j < es.size := by omega
            obtain ⟨b', hb', hf⟩ := Lib.mapM_at hm (σ j) es[σ j] (by simp [hsz])
            obtain rfl : en = b' := Option.some.inj (hen.symm.trans hb')
            obtain ⟨k', hk', hf⟩ := Option.bind_eq_some_iff.1 hf
            split at hf
            · rename_i hfm
              obtain ⟨y, hy, hy2⟩ := Option.map_eq_some_iff.1 hf
              subst hy2
              simp only [Prod.mk.injEq] at hen2
              obtain ⟨e1, e2⟩ := hen2
              subst e1
              refine ⟨es[σ j], by simp [hsz], ?_, ?_, hsz⟩
              · unfold Go.keyOf at hk'
                rw [hk] at hk'
                dsimp only at hk'
                unfold mapKey at hk'
                rw [hk] at hk'
                split at hk' <;> first | (cases hk'; done) | skip
                all_goals first | (rename_i hh _; cases hh; done) | skip
                all_goals first | (rename_i hh; cases hh; done) | skip
                rename_i q1 q2 n' hh hv
                split at hk'
                · rename_i hc
                  simp only [Option.some.injEq, Lit.int.injEq] at hk'
                  rw [hv, hc.1, hk'.1, hk'.2]
                · cases hk'
              · obtain ⟨z, hc, hz, _⟩ := DataW.trod_int he hy
                rw [hz] at e2
                simp only [DataW.lit.injEq, Lit.int.injEq, true_and] at e2
                subst e2
                revert hc hfm
                generalize es[σ j].val = v
                intro hfm hc
                cases v <;> first | (simp only [Value.cells, Array.toList, List.cons.injEq, and_true] at hc; exact hc) | skip
                · simp [Value.formed, he] at hfm
            · cases hf
          refine .mp (clock := clock) (σ := σ) hb (fun i hi => ?_) (by simp) (fun j hj => ?_) (fun j d hd => ?_) (fun j d hd => ?_)
          · obtain ⟨j, k1, k2⟩ := s2 i (by rw [List.length_map, hlen]; exact hi)
            exact ⟨j, by simpa using k1, k2⟩
          · obtain ⟨x, _, _, _, h4⟩ := key j l[j]! (by simp only [List.length_map] at hj; simp [hj])
            exact h4
          · obtain ⟨q, hq, rfl⟩ := List.getElem?_map .. ▸ hd |> Option.map_eq_some_iff.1
            obtain ⟨x, x1, x2, _, _⟩ := key j q hq
            rw [Array.getD_eq_getD_getElem?, x1]
            simp only [Option.getD_some, x2]
            exact .sc trivial
          · obtain ⟨q, hq, rfl⟩ := List.getElem?_map .. ▸ hd |> Option.map_eq_some_iff.1
            obtain ⟨x, x1, _, x2, _⟩ := key j q hq
            rw [Array.getD_eq_getD_getElem?, x1]
            simp only [Option.getD_some, x2]
            exact .sc trivial
        · cases h
      · cases h
    · cases h
end
end Go.Bw

/- The framework, part 33: an array of strings that is laid. -/
namespace Go.Bw
open Go Go.ChangeShapes Go.WideShapes Go.RowKit
end Go.Bw
