/- The evaluator, and that it is sound. -/
import Derived.Test.YtmhpipnapobbiaaGreatDoorRRRRFrame2
import Derived.RangeFuncRecord
import Derived.OrdersIn
import Derived.RangeFuncIn
import Derived.RangeFuncSeq
set_option linter.unusedSimpArgs false
set_option linter.unusedVariables false
/- The evaluator, part 1: rows that a value leads to, and their names turned. -/
namespace Go.Bw
open Go

mutual
/-- the rows of the store, and their versions, that a value leads to -/
def D.refs : D → List (Nat × Nat)
  | .sc _ => []
  | .nilp => []
  | .ptr i v _ => [(i, v)]
  | .rp l => D.refsL l
  | .nils => []
  | .ro _ l => D.refsL l
  | .ref i v _ _ _ => [(i, v)]
  | .fn _ a b => D.refsL a ++ D.refsL b
  | .nilfn => []
  | .ifc _ d => D.refs d
  | .nilifc => []
  | .mp a b => D.refsL a ++ D.refsL b
  | .agg l => D.refsL l
  | .tup l => D.refsL l
  | .undef => []
def D.refsL : List D → List (Nat × Nat)
  | [] => []
  | d :: l => D.refs d ++ D.refsL l
end

mutual
def D.ren (ρ : Nat → Nat → Nat × Nat) : D → D
  | .sc v => .sc v
  | .nilp => .nilp
  | .ptr i v o => .ptr (ρ i v).1 (ρ i v).2 o
  | .rp l => .rp (D.renL ρ l)
  | .nils => .nils
  | .ro e l => .ro e (D.renL ρ l)
  | .ref i v a b c => .ref (ρ i v).1 (ρ i v).2 a b c
  | .fn f a b => .fn f (D.renL ρ a) (D.renL ρ b)
  | .nilfn => .nilfn
  | .ifc t d => .ifc t (D.ren ρ d)
  | .nilifc => .nilifc
  | .mp a b => .mp (D.renL ρ a) (D.renL ρ b)
  | .agg l => .agg (D.renL ρ l)
  | .tup l => .tup (D.renL ρ l)
  | .undef => .undef
def D.renL (ρ : Nat → Nat → Nat × Nat) : List D → List D
  | [] => []
  | d :: l => D.ren ρ d :: D.renL ρ l
end

theorem D.renL_map (ρ : Nat → Nat → Nat × Nat) : ∀ l, D.renL ρ l = l.map (D.ren ρ)
  | [] => rfl
  | d :: l => by rw [D.renL, D.renL_map ρ l]; rfl
theorem D.mem_refsL {x : Nat × Nat} : ∀ {l : List D}, x ∈ D.refsL l ↔ ∃ d ∈ l, x ∈ d.refs
  | [] => by simp [D.refsL]
  | d :: l => by simp [D.refsL, D.mem_refsL (l := l)]

mutual
theorem D.ren_free {ρ : Nat → Nat → Nat × Nat} : ∀ (d : D), d.refs = [] → d.ren ρ = d
  | .sc _, _ => rfl
  | .nilp, _ => rfl
  | .ptr .., h => by simp [D.refs] at h
  | .rp l, h => by simp only [D.ren, D.rp.injEq]; exact D.renL_free l (by simpa [D.refs] using h)
  | .nils, _ => rfl
  | .ro _ l, h => by simp only [D.ren, D.ro.injEq, true_and]; exact D.renL_free l (by simpa [D.refs] using h)
  | .ref .., h => by simp [D.refs] at h
  | .fn _ a b, h => by
    simp only [D.refs, List.append_eq_nil_iff] at h
    simp only [D.ren, D.fn.injEq, true_and]; exact ⟨D.renL_free a h.1, D.renL_free b h.2⟩
  | .nilfn, _ => rfl
  | .ifc _ d, h => by simp only [D.ren, D.ifc.injEq, true_and]; exact D.ren_free d (by simpa [D.refs] using h)
  | .nilifc, _ => rfl
  | .mp a b, h => by
    simp only [D.refs, List.append_eq_nil_iff] at h
    simp only [D.ren, D.mp.injEq]; exact ⟨D.renL_free a h.1, D.renL_free b h.2⟩
  | .agg l, h => by simp only [D.ren, D.agg.injEq]; exact D.renL_free l (by simpa [D.refs] using h)
  | .tup l, h => by simp only [D.ren, D.tup.injEq]; exact D.renL_free l (by simpa [D.refs] using h)
  | .undef, _ => rfl
theorem D.renL_free {ρ : Nat → Nat → Nat × Nat} : ∀ (l : List D), D.refsL l = [] → D.renL ρ l = l
  | [], _ => rfl
  | d :: l, h => by
    simp only [D.refsL, List.append_eq_nil_iff] at h
    rw [D.renL, D.ren_free d h.1, D.renL_free l h.2]
end

theorem D.refs_cells {d : D} {x : Nat × Nat} {c : D} (hc : c ∈ d.cells) (hx : x ∈ c.refs) : x ∈ d.refs := by
  cases d with
  | agg cs => simp only [D.refs]; exact D.mem_refsL.2 ⟨c, by simpa using hc, hx⟩
  | _ => simp only [D.cells, List.mem_singleton] at hc; subst hc; exact hx

theorem D.free_of_refs : ∀ (n : Nat) (d : D), SizeOf.sizeOf d ≤ n → d.refs = [] → d.free
  | 0, d, h, _ => by cases d <;> simp at h
  | n + 1, d, h, hr => by
    have go : ∀ (l : List D), SizeOf.sizeOf l ≤ n → D.refsL l = [] → ∀ d ∈ l, d.free := fun l hl hr d hd =>
      D.free_of_refs n d (by have := List.sizeOf_lt_of_mem hd; omega) (by
        apply List.eq_nil_iff_forall_not_mem.2
        intro x hx
        have : x ∈ D.refsL l := D.mem_refsL.2 ⟨d, hd, hx⟩
        rw [hr] at this; cases this)
    cases d with
    | sc => exact .sc
    | nilp => exact .nilp
    | ptr => simp [D.refs] at hr
    | rp l => exact .rp (go l (by simp at h; omega) (by simpa [D.refs] using hr))
    | nils => exact .nils
    | ro e l =>
      refine .ro fun c hc => ?_
      obtain ⟨x, hx, hcx⟩ := List.mem_flatMap.1 hc
      have := go l (by simp at h; omega) (by simpa [D.refs] using hr) x hx
      cases x with
      | agg cs => cases this with | agg hh => exact hh c (by simpa using hcx)
      | _ => simp only [D.cells, List.mem_singleton] at hcx; subst hcx; exact this
    | ref => simp [D.refs] at hr
    | fn f a b =>
      simp only [D.refs, List.append_eq_nil_iff] at hr
      simp at h
      exact .fn (go a (by omega) hr.1) (go b (by omega) hr.2)
    | nilfn => exact .nilfn
    | ifc t d => simp at h; exact .ifc (D.free_of_refs n d (by omega) (by simpa [D.refs] using hr))
    | nilifc => exact .nilifc
    | mp a b =>
      simp only [D.refs, List.append_eq_nil_iff] at hr
      simp at h
      exact .mp (go a (by omega) hr.1) (go b (by omega) hr.2)
    | agg l => exact .agg (go l (by simp at h; omega) (by simpa [D.refs] using hr))
    | tup l => exact .tup (go l (by simp at h; omega) (by simpa [D.refs] using hr))
    | undef => exact .undef

theorem D.free_refs {d : D} (h : d.refs = []) : d.free := D.free_of_refs _ d (Nat.le_refl _) h

theorem D.ren_cells (ρ : Nat → Nat → Nat × Nat) (d : D) : (d.ren ρ).cells = d.cells.map (D.ren ρ) := by
  cases d <;> simp [D.ren, D.cells, D.renL_map]

theorem D.ren_flat (ρ : Nat → Nat → Nat × Nat) (l : List D) : (D.renL ρ l).flatMap D.cells = (l.flatMap D.cells).map (D.ren ρ) := by
  induction l with
  | nil => rfl
  | cons d l ih => simp only [D.renL, List.flatMap_cons, List.map_append, ih, D.ren_cells]

theorem at_map {α β : Type} {l : List α} {f : α → β} {j : Nat} {y : β} (h : (l.map f)[j]? = some y) : ∃ x, l[j]? = some x ∧ y = f x := by
  rw [List.getElem?_map, Option.map_eq_some_iff] at h
  obtain ⟨x, h1, h2⟩ := h
  exact ⟨x, h1, h2.symm⟩

/-- names turned: what a value stands for stays -/
theorem V.ren {g g' : G} {ρ : Nat → Nat → Nat × Nat} (hm : ∀ b o, g.m b = some o → g'.m b = some o) {d : D} {v : Value} (h : V g d v) (hr : ∀ x ∈ d.refs, ∀ p, g.r x.1 x.2 = some p → g'.r (ρ x.1 x.2).1 (ρ x.1 x.2).2 = some p) : V g' (d.ren ρ) v := by
  have up : ∀ (l : List D) (j : Nat) (d : D), l[j]? = some d → ∀ x ∈ d.refs, x ∈ D.refsL l := fun l j d hd x hx => D.mem_refsL.2 ⟨d, List.mem_of_getElem? hd, hx⟩
  induction h with
  | sc h => exact .sc h
  | nilp => exact .nilp
  | @ptr i v _ _ _ h => exact .ptr (hr (i, v) (by simp [D.refs]) _ h)
  | @rp cells b off c t fz hmb hl hv ih =>
    simp only [D.ren]
    refine .rp (hm _ _ hmb) (by simpa [D.renL_map] using hl) fun j d hd => ?_
    rw [D.renL_map] at hd
    obtain ⟨d0, h0, rfl⟩ := at_map hd
    exact ih j d0 h0 fun x hx => hr x (by simpa [D.refs] using up _ _ _ h0 x hx)
  | nils => exact .nils
  | roNil => exact .roNil
  | roNone hc he => exact .roNone hc he
  | @ro ex elems b off cap sz c t fz hmb hs hl hc hx he hv ih =>
    simp only [D.ren]
    have hlen : (D.renL ρ elems).length = elems.length := by simp [D.renL_map]
    rw [← hlen]
    refine .ro (hm _ _ hmb) (fun e he' => ?_) (by rw [hlen]; exact hl) (by rw [hlen]; exact hc) hx (by rw [hlen]; exact he) fun j d hd => ?_
    · rw [D.renL_map] at he'
      obtain ⟨e0, h0, rfl⟩ := List.mem_map.1 he'
      rw [D.ren_cells, List.length_map]; exact hs _ h0
    · rw [D.ren_flat] at hd
      obtain ⟨d0, h0, rfl⟩ := at_map hd
      refine ih j d0 h0 fun x hx => hr x ?_
      obtain ⟨e, he', hd'⟩ := List.mem_flatMap.1 (List.mem_of_getElem? h0)
      simp only [D.refs]
      exact D.mem_refsL.2 ⟨e, he', D.refs_cells hd' hx⟩
  | @ref i v _ _ _ _ _ _ h hl hx hn => exact .ref (hr (i, v) (by simp [D.refs]) _ h) hl hx hn
  | @fn f first caps vs us h1 h2 _ _ ih1 ih2 =>
    simp only [D.ren]
    refine .fn (by simpa [D.renL_map] using h1) (by simpa [D.renL_map] using h2) (fun j d hd => ?_) (fun j d hd => ?_)
    · rw [D.renL_map] at hd
      obtain ⟨d0, h0, rfl⟩ := at_map hd
      exact ih1 j d0 h0 fun x hx => hr x (by simp only [D.refs]; exact List.mem_append_left _ (up _ _ _ h0 x hx))
    · rw [D.renL_map] at hd
      obtain ⟨d0, h0, rfl⟩ := at_map hd
      exact ih2 j d0 h0 fun x hx => hr x (by simp only [D.refs]; exact List.mem_append_right _ (up _ _ _ h0 x hx))
  | nilfn => exact .nilfn
  | ifc _ ih => exact .ifc (ih fun x hx => hr x (by simpa [D.refs] using hx))
  | nilifc => exact .nilifc
  | @mp ks vs r clock es σ hmb h1 h2 h3 _ _ ih1 ih2 =>
    simp only [D.ren]
    refine .mp (σ := σ) (hm _ _ hmb) (by simpa [D.renL_map] using h1) (by simpa [D.renL_map] using h2) (by simpa [D.renL_map] using h3) (fun j d hd => ?_) (fun j d hd => ?_)
    · rw [D.renL_map] at hd
      obtain ⟨d0, h0, rfl⟩ := at_map hd
      exact ih1 j d0 h0 fun x hx => hr x (by simp only [D.refs]; exact List.mem_append_left _ (up _ _ _ h0 x hx))
    · rw [D.renL_map] at hd
      obtain ⟨d0, h0, rfl⟩ := at_map hd
      exact ih2 j d0 h0 fun x hx => hr x (by simp only [D.refs]; exact List.mem_append_right _ (up _ _ _ h0 x hx))
  | @agg cells vs hl _ ih =>
    simp only [D.ren]
    refine .agg (by simpa [D.renL_map] using hl) fun j d hd => ?_
    rw [D.renL_map] at hd
    obtain ⟨d0, h0, rfl⟩ := at_map hd
    exact ih j d0 h0 fun x hx => hr x (by simpa [D.refs] using up _ _ _ h0 x hx)
  | @tup ds vs hl _ ih =>
    simp only [D.ren]
    refine .tup (by simpa [D.renL_map] using hl) fun j d hd => ?_
    rw [D.renL_map] at hd
    obtain ⟨d0, h0, rfl⟩ := at_map hd
    exact ih j d0 h0 fun x hx => hr x (by simpa [D.refs] using up _ _ _ h0 x hx)
  | undef => exact .undef

theorem VL.ren {g g' : G} {ρ : Nat → Nat → Nat × Nat} (hm : ∀ b o, g.m b = some o → g'.m b = some o) {ds : List D} {vs : Array Value} (h : VL g ds vs) (hr : ∀ x ∈ D.refsL ds, ∀ p, g.r x.1 x.2 = some p → g'.r (ρ x.1 x.2).1 (ρ x.1 x.2).2 = some p) : VL g' (D.renL ρ ds) vs := by
  refine ⟨by rw [D.renL_map, List.length_map]; exact h.1, fun j d hd => ?_⟩
  rw [D.renL_map] at hd
  obtain ⟨d0, h0, rfl⟩ := at_map hd
  exact (h.2 j d0 h0).ren hm fun x hx => hr x (D.mem_refsL.2 ⟨d0, List.mem_of_getElem? h0, hx⟩)

end Go.Bw

/- The evaluator, part 2: rows that nothing leads to are let go; a call sees the rows that its arguments lead to. -/
namespace Go.Bw
open Go

abbrev Sto := List (Option En)

def rowOf (es : Sto) (i : Nat) : Option En := (es[i]?).getD none
def verOf (es : Sto) (i : Nat) : Nat := match rowOf es i with | some e => e.ver | none => 0
def rowRefs (es : Sto) (i : Nat) : List (Nat × Nat) := match rowOf es i with | some e => D.refsL e.ob | none => []

def upto : Nat → List Nat
  | 0 => []
  | n + 1 => upto n ++ [n]

def pos : List Nat → Nat → Nat
  | [], _ => 0
  | a :: l, i => if a = i then 0 else pos l i + 1

def nodupB : List Nat → Bool
  | [] => true
  | a :: l => !l.contains a && nodupB l

def reach : Nat → Nat → Sto → List (Nat × Nat) → List Nat → List Nat
  | 0, _, _, _, acc => acc
  | _ + 1, _, _, [], acc => acc
  | k + 1, m, es, x :: w, acc => if x.1 < m ∨ x.1 ∈ acc then reach k m es w acc else reach k m es (rowRefs es x.1 ++ w) (acc ++ [x.1])

def okRef (m : Nat) (es : Sto) (acc : List Nat) (x : Nat × Nat) : Bool :=
  decide (x.1 < m) || (acc.contains x.1 && match rowOf es x.1 with | some e => decide (e.ver = x.2) | none => false)

def gcChk (m : Nat) (es : Sto) (acc : List Nat) (rs : List (Nat × Nat)) : Bool :=
  decide (m ≤ es.length) && acc.all (fun i => decide (m ≤ i) && (rowOf es i).isSome) && nodupB acc && rs.all (okRef m es acc)

def gcMap (m : Nat) (acc : List Nat) (i v : Nat) : Nat × Nat := if i < m then (i, v) else (m + pos acc i, 0)

def gcRow (ρ : Nat → Nat → Nat × Nat) (low : Bool) (o : Option En) : Option En := o.map fun e => ⟨if low = true then e.ver else 0, D.renL ρ e.ob⟩

def gcSto (m : Nat) (acc : List Nat) (es : Sto) : Sto :=
  (upto m).map (fun i => gcRow (gcMap m acc) true (rowOf es i)) ++ acc.map (fun i => gcRow (gcMap m acc) false (rowOf es i))

def gcRoots (m : Nat) (ds : List D) (es : Sto) : List (Nat × Nat) := D.refsL ds ++ (upto m).flatMap (rowRefs es)

/-- what nothing leads to is let go: of the rows from 'm' on, those that values lead to stay, named anew -/
def gcA (m : Nat) (ds : List D) (es : Sto) : Option (List Nat × List D × Sto) :=
  (fun acc => if gcChk m es acc (gcRoots m ds es ++ acc.flatMap (rowRefs es)) = true then some (acc, D.renL (gcMap m acc) ds, gcSto m acc es) else none) (reach 200 m es (gcRoots m ds es) [])

theorem upto_mem : ∀ {n i : Nat}, i ∈ upto n ↔ i < n
  | 0, i => by simp [upto]
  | n + 1, i => by simp only [upto, List.mem_append, upto_mem (n := n), List.mem_singleton]; omega
theorem upto_len : ∀ n, (upto n).length = n
  | 0 => rfl
  | n + 1 => by simp [upto, upto_len n]
theorem upto_at : ∀ {n i : Nat}, i < n → (upto n)[i]? = some i
  | 0, i, h => by omega
  | n + 1, i, h => by
    simp only [upto]
    rcases Nat.lt_or_ge i n with hl | hl
    · rw [List.getElem?_append_left (by rw [upto_len]; exact hl)]; exact upto_at hl
    · rw [List.getElem?_append_right (by rw [upto_len]; exact hl), upto_len]
      obtain rfl : i = n := by omega
      simp

theorem pos_at : ∀ {l : List Nat} {i : Nat}, i ∈ l → l[pos l i]? = some i
  | [], i, h => by cases h
  | a :: l, i, h => by
    simp only [pos]
    split
    · rename_i ha; subst ha; rfl
    · rename_i ha
      have : i ∈ l := by rcases List.mem_cons.1 h with h | h; exact absurd h.symm ha; exact h
      simpa using pos_at this
theorem pos_of : ∀ {l : List Nat} {i j : Nat}, nodupB l = true → l[j]? = some i → pos l i = j
  | [], i, j, _, h => by simp at h
  | a :: l, i, j, hn, h => by
    simp only [nodupB, Bool.and_eq_true, Bool.not_eq_true'] at hn
    cases j with
    | zero => simp only [List.getElem?_cons_zero, Option.some.injEq] at h; subst h; simp [pos]
    | succ j =>
      simp only [List.getElem?_cons_succ] at h
      have hne : a ≠ i := by
        rintro rfl
        have := List.mem_of_getElem? h
        have h2 := hn.1
        simp at h2
        exact h2 this
      simp only [pos, if_neg hne, pos_of hn.2 h]
theorem nodup_inj {l : List Nat} (hn : nodupB l = true) {i j k : Nat} (h1 : l[i]? = some k) (h2 : l[j]? = some k) : i = j := by
  rw [← pos_of hn h1, ← pos_of hn h2]

theorem stL_row (es : Sto) (i : Nat) : (stL es).tab i = rowOf es i := rfl
theorem rowOf_lt {es : Sto} {i : Nat} {e : En} (h : rowOf es i = some e) : i < es.length := by
  unfold rowOf at h
  rcases Nat.lt_or_ge i es.length with hl | hl
  · exact hl
  · rw [List.getElem?_eq_none hl] at h; cases h

/-- names of rows, and their versions, turned -/
def G.sub (g : G) (σ : Nat → Option Nat) (vb : Nat → Nat) : G := ⟨g.m, fun j u => match σ j with | some i => g.r i (vb j + u) | none => none⟩

theorem G.sub_r {g : G} {σ : Nat → Option Nat} {vb : Nat → Nat} {j i u : Nat} (h : σ j = some i) : (g.sub σ vb).r j u = g.r i (vb j + u) := by simp only [G.sub, h]
theorem G.sub_some {g : G} {σ : Nat → Option Nat} {vb : Nat → Nat} {j u : Nat} {p : Nat × Nat} (h : (g.sub σ vb).r j u = some p) : ∃ i, σ j = some i ∧ g.r i (vb j + u) = some p := by
  simp only [G.sub] at h
  split at h
  · rename_i i hi; exact ⟨i, hi, h⟩
  · cases h

theorem Sim.sub {g : G} {S S' : St} {w : World} (h : Sim g S w) {σ : Nat → Option Nat} {vb : Nat → Nat} {ρ : Nat → Nat → Nat × Nat}
    (hinj : ∀ j k i, σ j = some i → σ k = some i → j = k) (hn : ∀ j, S'.next ≤ j → σ j = none)
    (hrow : ∀ j e', S'.tab j = some e' → ∃ i e, σ j = some i ∧ S.tab i = some e ∧ e.ver = vb j + e'.ver ∧ e'.ob = D.renL ρ e.ob ∧ ∀ x ∈ D.refsL e.ob, σ (ρ x.1 x.2).1 = some x.1 ∧ x.2 = vb (ρ x.1 x.2).1 + (ρ x.1 x.2).2) :
    Sim (g.sub σ vb) S' w where
  imm := h.imm
  sto := fun j e' hj => by
    obtain ⟨i, e, h1, h2, h3, h4, h5⟩ := hrow j e' hj
    obtain ⟨b, n, c, t, fz, a1, a2, a3, a4, a5, a6, a7⟩ := h.sto i e h2
    refine ⟨b, n, c, t, fz, by rw [G.sub_r h1, ← h3]; exact a1, a2, a3, by rw [h4, D.renL_map, List.length_map]; exact a4, a5, a6, fun k d hd => ?_⟩
    rw [h4, D.renL_map] at hd
    obtain ⟨d0, h0, rfl⟩ := at_map hd
    refine (a7 k d0 h0).ren (g := g) (g' := g.sub σ vb) (fun _ _ hh => hh) fun x hx p hp => ?_
    obtain ⟨q1, q2⟩ := h5 x (D.mem_refsL.2 ⟨d0, List.mem_of_getElem? h0, hx⟩)
    rw [G.sub_r q1, ← q2]; exact hp
  inj := fun i j e e' b n n' hi hj ri rj => by
    obtain ⟨i1, e1, h1, h2, h3, _, _⟩ := hrow i e hi
    obtain ⟨j1, e2, k1, k2, k3, _, _⟩ := hrow j e' hj
    rw [G.sub_r h1, ← h3] at ri
    rw [G.sub_r k1, ← k3] at rj
    have := h.inj _ _ _ _ _ _ _ h2 k2 ri rj
    subst this
    exact hinj _ _ _ h1 k1
  fresh := fun i v hi => by simp only [G.sub, hn i hi]
  tabs := fun i hi => by
    cases ht : S'.tab i with
    | none => rfl
    | some e' =>
      obtain ⟨i1, e1, h1, _⟩ := hrow i e' ht
      rw [hn i hi] at h1; cases h1
  later := fun i e v hi hv => by
    obtain ⟨i1, e1, h1, h2, h3, _, _⟩ := hrow i e hi
    rw [G.sub_r h1]
    exact h.later i1 e1 _ h2 (by omega)
  inb := fun i v b n hr => by
    obtain ⟨i1, _, h2⟩ := G.sub_some hr
    exact h.inb _ _ _ _ h2

/-- the parts of a check that went well -/
theorem gcChk_spec {m : Nat} {es : Sto} {acc : List Nat} {rs : List (Nat × Nat)} (h : gcChk m es acc rs = true) :
    m ≤ es.length ∧ (∀ i ∈ acc, m ≤ i ∧ i < es.length) ∧ nodupB acc = true ∧ ∀ x ∈ rs, x.1 < m ∨ (x.1 ∈ acc ∧ ∃ e, rowOf es x.1 = some e ∧ e.ver = x.2) := by
  simp only [gcChk, Bool.and_eq_true, decide_eq_true_eq, List.all_eq_true] at h
  obtain ⟨⟨⟨h1, h2⟩, h3⟩, h4⟩ := h
  refine ⟨h1, fun i hi => ⟨(h2 i hi).1, by obtain ⟨e, he⟩ := Option.isSome_iff_exists.1 (h2 i hi).2; exact rowOf_lt he⟩, h3, fun x hx => ?_⟩
  have := h4 x hx
  simp only [okRef, Bool.or_eq_true, decide_eq_true_eq, Bool.and_eq_true, List.contains_iff_mem] at this
  rcases this with h | ⟨h5, h6⟩
  · exact .inl h
  · refine .inr ⟨h5, ?_⟩
    split at h6
    · rename_i e he; exact ⟨e, he, by simpa using h6⟩
    · cases h6

theorem gcChk_row {m : Nat} {es : Sto} {acc : List Nat} {rs : List (Nat × Nat)} (h : gcChk m es acc rs = true) : ∀ i ∈ acc, ∃ e, rowOf es i = some e := fun i hi => by
  simp only [gcChk, Bool.and_eq_true, decide_eq_true_eq, List.all_eq_true] at h
  exact Option.isSome_iff_exists.1 (h.1.1.2 i hi).2

def gcσ (m : Nat) (acc : List Nat) (j : Nat) : Option Nat := if j < m then some j else acc[j - m]?
def gcVb (m : Nat) (acc : List Nat) (es : Sto) (j : Nat) : Nat := if j < m then 0 else match acc[j - m]? with | some i => verOf es i | none => 0

theorem gcσ_inj {m : Nat} {acc : List Nat} {es : Sto} (h2 : ∀ i ∈ acc, m ≤ i ∧ i < es.length) (h3 : nodupB acc = true) : ∀ j k i, gcσ m acc j = some i → gcσ m acc k = some i → j = k := by
  intro j k i hj hk
  unfold gcσ at hj hk
  split at hj <;> split at hk
  · simp only [Option.some.injEq] at hj hk; omega
  · simp only [Option.some.injEq] at hj
    have := h2 i (List.mem_of_getElem? hk)
    omega
  · simp only [Option.some.injEq] at hk
    have := h2 i (List.mem_of_getElem? hj)
    omega
  · have := nodup_inj h3 hj hk
    omega

theorem gcMap_ok {m : Nat} {acc : List Nat} {es : Sto} {x : Nat × Nat} (h2 : ∀ i ∈ acc, m ≤ i ∧ i < es.length) (h : x.1 < m ∨ (x.1 ∈ acc ∧ ∃ e, rowOf es x.1 = some e ∧ e.ver = x.2)) :
    gcσ m acc (gcMap m acc x.1 x.2).1 = some x.1 ∧ x.2 = gcVb m acc es (gcMap m acc x.1 x.2).1 + (gcMap m acc x.1 x.2).2 := by
  unfold gcMap
  by_cases hx : x.1 < m
  · simp [hx, gcσ, gcVb]
  · obtain ⟨h4, e, h5, h6⟩ := h.resolve_left hx
    have hp := pos_at h4
    rw [if_neg hx]
    have e1 : ¬ (m + pos acc x.1 < m) := by omega
    have e2 : m + pos acc x.1 - m = pos acc x.1 := by omega
    simp only [gcσ, gcVb, if_neg e1, e2, hp, verOf, h5, h6, Nat.add_zero, and_self]

theorem gcSto_len (m : Nat) (acc : List Nat) (es : Sto) : (gcSto m acc es).length = m + acc.length := by simp [gcSto, upto_len]

theorem gcSto_row {m : Nat} {acc : List Nat} {es : Sto} {j : Nat} {e' : En} (h : rowOf (gcSto m acc es) j = some e') : ∃ i e, gcσ m acc j = some i ∧ rowOf es i = some e ∧ e.ver = gcVb m acc es j + e'.ver ∧ e'.ob = D.renL (gcMap m acc) e.ob ∧ (i < m ∨ i ∈ acc) := by
  have hj := rowOf_lt h
  rw [gcSto_len] at hj
  unfold rowOf gcSto at h
  rcases Nat.lt_or_ge j m with hl | hl
  · rw [List.getElem?_append_left (by simp [upto_len]; exact hl), List.getElem?_map, upto_at hl] at h
    simp only [Option.map_some, Option.getD_some, gcRow, Option.map_eq_some_iff] at h
    obtain ⟨e, h1, rfl⟩ := h
    exact ⟨j, e, by simp [gcσ, hl], h1, by simp [gcVb, hl], rfl, .inl hl⟩
  · rw [List.getElem?_append_right (by simp [upto_len]; exact hl)] at h
    simp only [List.length_map, upto_len, List.getElem?_map] at h
    cases ha : acc[j - m]? with
    | none => rw [ha] at h; simp at h
    | some i =>
      rw [ha] at h
      simp only [Option.map_some, Option.getD_some, gcRow, Option.map_eq_some_iff] at h
      obtain ⟨e, h1, rfl⟩ := h
      have e1 : ¬ j < m := by omega
      refine ⟨i, e, by simp only [gcσ, if_neg e1, ha], h1, ?_, rfl, .inr (List.mem_of_getElem? ha)⟩
      simp [gcVb, e1, ha, verOf, h1]

theorem gc_refs {m : Nat} {ds : List D} {es : Sto} {acc : List Nat} {i : Nat} {e : En} (hi : i < m ∨ i ∈ acc) (he : rowOf es i = some e) : ∀ x ∈ D.refsL e.ob, x ∈ gcRoots m ds es ++ acc.flatMap (rowRefs es) := by
  intro x hx
  have hr : x ∈ rowRefs es i := by unfold rowRefs; rw [he]; exact hx
  rcases hi with hi | hi
  · exact List.mem_append_left _ (List.mem_append_right _ (List.mem_flatMap.2 ⟨i, upto_mem.2 hi, hr⟩))
  · exact List.mem_append_right _ (List.mem_flatMap.2 ⟨i, hi, hr⟩)

theorem gcA_spec {m : Nat} {ds ds' : List D} {es es' : Sto} {acc : List Nat} (h : gcA m ds es = some (acc, ds', es')) :
    gcChk m es acc (gcRoots m ds es ++ acc.flatMap (rowRefs es)) = true ∧ ds' = D.renL (gcMap m acc) ds ∧ es' = gcSto m acc es := by
  unfold gcA at h
  simp only at h
  split at h
  · rename_i hc
    simp only [Option.some.injEq, Prod.mk.injEq] at h
    obtain ⟨rfl, rfl, rfl⟩ := h
    exact ⟨hc, rfl, rfl⟩
  · cases h

/-- the rows that values lead to, under their new names -/
theorem Sim.gc {g : G} {w : World} {m : Nat} {ds ds' : List D} {es es' : Sto} {acc : List Nat} (h : Sim g (stL es) w) (hgc : gcA m ds es = some (acc, ds', es')) :
    Sim (g.sub (gcσ m acc) (gcVb m acc es)) (stL es') w ∧ ∀ vs, VL g ds vs → VL (g.sub (gcσ m acc) (gcVb m acc es)) ds' vs := by
  obtain ⟨hc, rfl, rfl⟩ := gcA_spec hgc
  obtain ⟨h1, h2, h3, h4⟩ := gcChk_spec hc
  refine ⟨h.sub (ρ := gcMap m acc) (gcσ_inj h2 h3) (fun j hj => ?_) (fun j e' hj => ?_), fun vs hv => hv.ren (g := g) (g' := g.sub (gcσ m acc) (gcVb m acc es)) (fun _ _ hh => hh) fun x hx p hp => ?_⟩
  · rw [stL_next, gcSto_len] at hj
    unfold gcσ
    rw [if_neg (by omega), List.getElem?_eq_none (by omega)]
  · obtain ⟨i, e, k1, k2, k3, k4, k5⟩ := gcSto_row hj
    exact ⟨i, e, k1, k2, k3, k4, fun x hx => gcMap_ok h2 (h4 x (gc_refs k5 k2 x hx))⟩
  · obtain ⟨q1, q2⟩ := gcMap_ok (es := es) h2 (h4 x (List.mem_append_left _ (List.mem_append_left _ hx)))
    rw [G.sub_r q1, ← q2]; exact hp

/-- what was kept stays kept, if no row from 'm' on was there at the start -/
theorem Keep.gc {g0 g : G} {w0 w : World} {m : Nat} {acc : List Nat} {es : Sto} (h : Keep g0 g w0 w) (h0 : ∀ i v, m ≤ i → g0.r i v = none) : Keep g0 (g.sub (gcσ m acc) (gcVb m acc es)) w0 w where
  le := ⟨h.le.m, fun i v p hp => by
    have hi : i < m := by
      rcases Nat.lt_or_ge i m with hl | hl
      · exact hl
      · rw [h0 i v hl] at hp; cases hp
    have e1 : gcσ m acc i = some i := by simp [gcσ, hi]
    rw [G.sub_r e1]
    simp only [gcVb, if_pos hi, Nat.zero_add]
    exact h.le.r _ _ _ hp⟩
  size := h.size
  old := h.old
  newm := h.newm
  newr := fun i v b n hr => by
    obtain ⟨i1, _, h2⟩ := G.sub_some hr
    exact h.newr _ _ _ _ h2
  os := h.os
  tape := h.tape
  output := h.output

theorem Glob.sub {g : G} {GL : Nat → D} (h : Glob g GL) (σ : Nat → Option Nat) (vb : Nat → Nat) : Glob (g.sub σ vb) GL := fun i => ⟨(h i).1, (h i).2.free (g := g) (g' := g.sub σ vb) (fun _ _ hh => hh) (h i).1⟩

end Go.Bw

/- The evaluator, part 3: a call sees the rows that its arguments lead to, and no others. -/
namespace Go.Bw
open Go

def R.ren (ρ : Nat → Nat → Nat × Nat) : R → R
  | .ret d => .ret (d.ren ρ)
  | .pan d => .pan (d.ren ρ)

def backMap (es : Sto) (ids : List Nat) (j u : Nat) : Nat × Nat :=
  match ids[j]? with
  | some i => (i, verOf es i + u)
  | none => (es.length + (j - ids.length), u)

def backRow (β : Nat → Nat → Nat × Nat) (k : Nat) (o : Option En) : Option En := o.map fun e => ⟨k + e.ver, D.renL β e.ob⟩

def setAll (β : Nat → Nat → Nat × Nat) (es0 : Sto) : List Nat → Sto → Sto → Sto
  | [], _, es => es
  | i :: is, ts, es => setAll β es0 is ts.tail (es.set i (backRow β (verOf es0 i) (ts.headD none)))

def mergeS (es : Sto) (ids : List Nat) (ts : Sto) : Sto := setAll (backMap es ids) es ids ts es ++ (ts.drop ids.length).map (backRow (backMap es ids) 0)

theorem setAll_len {β : Nat → Nat → Nat × Nat} {es0 : Sto} : ∀ (ids : List Nat) (ts es : Sto), (setAll β es0 ids ts es).length = es.length
  | [], _, _ => rfl
  | i :: is, ts, es => by rw [setAll, setAll_len is]; simp

theorem setAll_row {β : Nat → Nat → Nat × Nat} {es0 : Sto} {i : Nat} : ∀ (ids : List Nat) (ts es : Sto), nodupB ids = true → (∀ j ∈ ids, j < es.length) →
    rowOf (setAll β es0 ids ts es) i = if i ∈ ids then backRow β (verOf es0 i) (rowOf ts (pos ids i)) else rowOf es i
  | [], ts, es, _, _ => by simp [setAll]
  | a :: l, ts, es, hn, hl => by
    simp only [nodupB, Bool.and_eq_true, Bool.not_eq_true'] at hn
    have ha : a ∉ l := by have := hn.1; simpa using this
    rw [setAll, setAll_row l _ _ hn.2 (fun j hj => by simpa using hl j (List.mem_cons_of_mem _ hj))]
    by_cases hi : i = a
    · subst hi
      have hlt := hl i (List.mem_cons_self ..)
      rw [if_neg ha, if_pos (List.mem_cons_self ..)]
      have e1 : pos (i :: l) i = 0 := by simp [pos]
      rw [e1]
      have e2 : rowOf ts 0 = ts.headD none := by cases ts <;> rfl
      rw [e2]
      simp [rowOf, hlt]
    · by_cases hm : i ∈ l
      · rw [if_pos hm, if_pos (List.mem_cons_of_mem _ hm)]
        have e1 : pos (a :: l) i = pos l i + 1 := by simp [pos, Ne.symm hi]
        rw [e1]
        have e2 : rowOf ts (pos l i + 1) = rowOf ts.tail (pos l i) := by cases ts <;> simp [rowOf]
        rw [e2]
      · rw [if_neg hm, if_neg (by simp [hi, hm])]
        simp [rowOf, List.getElem?_set, Ne.symm hi]

theorem mergeS_len (es : Sto) (ids : List Nat) (ts : Sto) : (mergeS es ids ts).length = es.length + (ts.length - ids.length) := by simp [mergeS, setAll_len]

theorem mergeS_row {es : Sto} {ids : List Nat} {ts : Sto} (hn : nodupB ids = true) (hl : ∀ j ∈ ids, j < es.length) (i : Nat) :
    rowOf (mergeS es ids ts) i = if i ∈ ids then backRow (backMap es ids) (verOf es i) (rowOf ts (pos ids i)) else if i < es.length then rowOf es i else backRow (backMap es ids) 0 (rowOf ts (ids.length + (i - es.length))) := by
  have hs := setAll_row (β := backMap es ids) (es0 := es) (i := i) ids ts es hn hl
  rcases Nat.lt_or_ge i es.length with hi | hi
  · have e1 : rowOf (mergeS es ids ts) i = rowOf (setAll (backMap es ids) es ids ts es) i := by
      unfold rowOf mergeS
      rw [List.getElem?_append_left (by rw [setAll_len]; exact hi)]
    rw [e1, hs, if_pos hi]
  · have hni : i ∉ ids := fun h => by have := hl i h; omega
    rw [if_neg hni, if_neg (by omega)]
    unfold rowOf mergeS
    rw [List.getElem?_append_right (by rw [setAll_len]; exact hi), setAll_len, List.getElem?_map, List.getElem?_drop]
    cases ts[ids.length + (i - es.length)]? <;> rfl

/-- names of a call's rows, seen from outside -/
def G.back (g g2 : G) (es : Sto) (ids : List Nat) : G :=
  ⟨g2.m, fun i u => if i ∈ ids then (if u < verOf es i then g.r i u else g2.r (pos ids i) (u - verOf es i)) else if i < es.length then g.r i u else g2.r (ids.length + (i - es.length)) u⟩

section
variable {P : Program} {GL : Nat → D}

theorem gcσ_zero (ids : List Nat) (j : Nat) : gcσ 0 ids j = ids[j]? := by simp [gcσ]

theorem CallT.frame {f : FuncId} {ds ds' : List D} {es es' ts : Sto} {ids : List Nat} {r : R} (hgc : gcA 0 ds es = some (ids, ds', es')) (hlen : ids.length ≤ ts.length)
    (h : CallT P GL f ds' (stL es') (fun r' s => r' = r ∧ s = stL ts)) : CallT P GL f ds (stL es) (fun r' s => r' = r.ren (backMap es ids) ∧ s = stL (mergeS es ids ts)) := by
  obtain ⟨hc, hd', he'⟩ := gcA_spec hgc
  obtain ⟨_, h2, h3, h4⟩ := gcChk_spec hc
  have hlt : ∀ j ∈ ids, j < es.length := fun j hj => (h2 j hj).2
  refine ⟨h.1, fun g w vs hs hv hg => ?_⟩
  obtain ⟨s1, v1⟩ := hs.gc hgc
  -- the rows of the call, at the start
  have hrows := gcChk_row hc
  have g1r : ∀ j u p, (g.sub (gcσ 0 ids) (gcVb 0 ids es)).r j u = some p → ∃ i e, ids[j]? = some i ∧ rowOf es i = some e ∧ u = 0 ∧ g.r i e.ver = some p := by
    intro j u p hp
    obtain ⟨i, q1, q2⟩ := G.sub_some hp
    rw [gcσ_zero] at q1
    obtain ⟨e, he⟩ := hrows i (List.mem_of_getElem? q1)
    have hvb : gcVb 0 ids es j = e.ver := by simp [gcVb, q1, verOf, he]
    rw [hvb] at q2
    have hu : u = 0 := by
      rcases Nat.eq_zero_or_pos u with hu | hu
      · exact hu
      · rw [hs.later i e (e.ver + u) he (by omega)] at q2; cases q2
    subst hu
    exact ⟨i, e, q1, he, rfl, q2⟩
  refine (h.2 _ w vs s1 (hd' ▸ v1 vs hv) (hg.sub _ _)).mono fun ee w' ⟨g2, S2, k1, k2, k3⟩ => ?_
  have hS2 : S2 = stL ts := by
    cases ee with
    | returned v => obtain ⟨d, _, _, q⟩ := k3; exact q
    | panicked c => obtain ⟨v, d, _, _, _, q⟩ := k3; exact q
    | outgrown => exact k3.elim
  subst hS2
  have hle : ∀ i u p, g.r i u = some p → (g.back g2 es ids).r i u = some p := by
    intro i u p hp
    have hi : i < es.length := by
      rcases Nat.lt_or_ge i es.length with hl | hl
      · exact hl
      · rw [hs.fresh i u hl] at hp; cases hp
    simp only [G.back]
    by_cases hm : i ∈ ids
    · rw [if_pos hm]
      split
      · exact hp
      · rename_i hnu
        obtain ⟨e, he⟩ := hrows i hm
        have hve : verOf es i = e.ver := by simp [verOf, he]
        rw [hve] at hnu ⊢
        have hu : u = e.ver := by
          rcases Nat.lt_or_ge e.ver u with hl | hl
          · rw [hs.later i e u he hl] at hp; cases hp
          · omega
        subst hu
        have hpos := pos_at hm
        have e1 : gcσ 0 ids (pos ids i) = some i := by rw [gcσ_zero]; exact hpos
        refine k1.le.r _ _ _ ?_
        rw [G.sub_r e1]
        have : gcVb 0 ids es (pos ids i) = e.ver := by simp [gcVb, hpos, hve]
        rw [this, Nat.sub_self, Nat.add_zero]
        exact hp
    · rw [if_neg hm, if_pos hi]; exact hp
  have hback : ∀ j u p, g2.r j u = some p → (g.back g2 es ids).r (backMap es ids j u).1 (backMap es ids j u).2 = some p := by
    intro j u p hp
    have hj : j < ts.length := by
      rcases Nat.lt_or_ge j ts.length with hl | hl
      · exact hl
      · rw [k2.fresh j u hl] at hp; cases hp
    unfold backMap
    cases hi : ids[j]? with
    | some i =>
      simp only [G.back, if_pos (List.mem_of_getElem? hi), pos_of h3 hi]
      rw [if_neg (by omega), Nat.add_sub_cancel_left]
      exact hp
    | none =>
      have hjl : ids.length ≤ j := List.getElem?_eq_none_iff.1 hi
      have hni : es.length + (j - ids.length) ∉ ids := fun hh => by have := hlt _ hh; omega
      simp only [G.back, if_neg hni]
      rw [if_neg (by omega)]
      have : ids.length + (es.length + (j - ids.length) - es.length) = j := by omega
      rw [this]; exact hp
  have hrsome : ∀ i u b n, (g.back g2 es ids).r i u = some (b, n) → g.r i u = some (b, n) ∨ ∃ j u', g2.r j u' = some (b, n) := by
    intro i u b n hp
    simp only [G.back] at hp
    split at hp
    · split at hp
      · exact .inl hp
      · exact .inr ⟨_, _, hp⟩
    · split at hp
      · exact .inl hp
      · exact .inr ⟨_, _, hp⟩
  have hg1g : ∀ j u p, (g.sub (gcσ 0 ids) (gcVb 0 ids es)).r j u = some p → ∃ i v, g.r i v = some p := fun j u p hp => by
    obtain ⟨i, e, _, _, _, q⟩ := g1r j u p hp; exact ⟨i, e.ver, q⟩
  have hkeep : Keep g (g.back g2 es ids) w w' := {
    le := ⟨k1.le.m, hle⟩
    size := k1.size
    old := fun b hb hn => k1.old b hb fun j u n hp => by obtain ⟨i, v, q⟩ := hg1g _ _ _ hp; exact hn i v n q
    newm := fun b o hb => by
      rcases k1.newm b o hb with q | q | ⟨j, u, n, q⟩
      · exact .inl q
      · exact .inr (.inl q)
      · obtain ⟨i, v, q⟩ := hg1g _ _ _ q; exact .inr (.inr ⟨i, v, n, q⟩)
    newr := fun i u b n hp => by
      rcases hrsome i u b n hp with q | ⟨j, u', q⟩
      · exact .inr ⟨i, u, n, q⟩
      · rcases k1.newr _ _ _ _ q with q | ⟨j2, u2, n2, q⟩
        · exact .inl q
        · obtain ⟨i, v, q⟩ := hg1g _ _ _ q; exact .inr ⟨i, v, n2, q⟩
    os := k1.os
    tape := k1.tape
    output := k1.output }
  -- another row's block is none of the call's
  have hother : ∀ i e b n, rowOf es i = some e → i ∉ ids → g.r i e.ver = some (b, n) → ∀ j u n', (g.sub (gcσ 0 ids) (gcVb 0 ids es)).r j u ≠ some (b, n') := by
    intro i e b n he hni hr j u n' hp
    obtain ⟨i', e', q1, q2, _, q3⟩ := g1r j u _ hp
    have := hs.inj i i' e e' b n n' he q2 hr q3
    subst this
    exact hni (List.mem_of_getElem? q1)
  have hnew : ∀ i e b n, rowOf es i = some e → i ∉ ids → g.r i e.ver = some (b, n) → ∀ j u n', g2.r j u ≠ some (b, n') := by
    intro i e b n he hni hr j u n' hp
    rcases k1.newr _ _ _ _ hp with q | ⟨j2, u2, n2, q⟩
    · have := hs.inb i e.ver b n hr; omega
    · exact hother i e b n he hni hr _ _ _ q
  have hVb : ∀ d v, V g2 d v → V (g.back g2 es ids) (d.ren (backMap es ids)) v := fun d v hv => hv.ren (g := g2) (g' := g.back g2 es ids) (fun _ _ hh => hh) fun x _ p hp => hback _ _ _ hp
  -- where a row of the whole comes from
  have hcases : ∀ i e, rowOf (mergeS es ids ts) i = some e →
      (∃ j e2, rowOf ts j = some e2 ∧ e.ob = D.renL (backMap es ids) e2.ob ∧ (backMap es ids j e2.ver).1 = i ∧ e.ver = (backMap es ids j e2.ver).2 ∧ (∀ u, e.ver ≤ u → (g.back g2 es ids).r i u = g2.r j (e2.ver + (u - e.ver)))) ∨ (i ∉ ids ∧ rowOf es i = some e ∧ ∀ u, (g.back g2 es ids).r i u = g.r i u) := by
    intro i e he
    rw [mergeS_row h3 hlt] at he
    by_cases hm : i ∈ ids
    · rw [if_pos hm] at he
      simp only [backRow, Option.map_eq_some_iff] at he
      obtain ⟨e2, q1, rfl⟩ := he
      have hpos := pos_at hm
      refine .inl ⟨pos ids i, e2, q1, rfl, by simp [backMap, hpos], by simp [backMap, hpos], fun u hu => ?_⟩
      simp only at hu
      simp only [G.back, if_pos hm]
      rw [if_neg (by omega)]
      congr 1; omega
    · rw [if_neg hm] at he
      by_cases hi : i < es.length
      · rw [if_pos hi] at he
        exact .inr ⟨hm, he, fun u => by simp only [G.back, if_neg hm, if_pos hi]⟩
      · rw [if_neg hi] at he
        simp only [backRow, Option.map_eq_some_iff] at he
        obtain ⟨e2, q1, rfl⟩ := he
        have hnone : ids[ids.length + (i - es.length)]? = none := List.getElem?_eq_none (by omega)
        refine .inl ⟨_, e2, q1, rfl, by simp only [backMap, hnone]; omega, by simp [backMap, hnone], fun u hu => ?_⟩
        simp only [Nat.zero_add] at hu
        simp only [G.back, if_neg hm, if_neg hi, Nat.zero_add]
        congr 1; omega
  have hbackinj : ∀ j k u v, j < ts.length → k < ts.length → (backMap es ids j u).1 = (backMap es ids k v).1 → j = k := by
    intro j k u v hj hk hjk
    unfold backMap at hjk
    cases h5 : ids[j]? with
    | some a =>
      cases h6 : ids[k]? with
      | some c => rw [h5, h6] at hjk; simp only at hjk; subst hjk; exact nodup_inj h3 h5 h6
      | none => rw [h5, h6] at hjk; simp only at hjk; have := hlt a (List.mem_of_getElem? h5); omega
    | none =>
      have := List.getElem?_eq_none_iff.1 h5
      cases h6 : ids[k]? with
      | some c => rw [h5, h6] at hjk; simp only at hjk; have := hlt c (List.mem_of_getElem? h6); omega
      | none => rw [h5, h6] at hjk; simp only at hjk; have := List.getElem?_eq_none_iff.1 h6; omega
  have hsim : Sim (g.back g2 es ids) (stL (mergeS es ids ts)) w' := {
    imm := k2.imm
    sto := fun i e he => by
      rcases hcases i e he with ⟨j, e2, q1, q2, q3, q4, q5⟩ | ⟨q1, q2, q3⟩
      · obtain ⟨b, n, c, t, fz, a1, a2, a3, a4, a5, a6, a7⟩ := k2.sto j e2 q1
        refine ⟨b, n, c, t, fz, by rw [q5 _ (Nat.le_refl _), Nat.sub_self, Nat.add_zero]; exact a1, a2, a3, by rw [q2, D.renL_map, List.length_map]; exact a4, a5, a6, fun k d hd => ?_⟩
        rw [q2, D.renL_map] at hd
        obtain ⟨d0, h0, rfl⟩ := at_map hd
        exact hVb _ _ (a7 k d0 h0)
      · obtain ⟨b, n, c, t, fz, a1, a2, a3, a4, a5, a6, a7⟩ := hs.sto i e q2
        refine ⟨b, n, c, t, fz, by rw [q3]; exact a1, ?_, a3, a4, ?_, a6, fun k d hd => (a7 k d hd).mono hkeep.le⟩
        · rw [k1.old b (heap_lt a2) (hother i e b n q2 q1 a1)]; exact a2
        · cases hm : (g.back g2 es ids).m b with
          | none => rfl
          | some o =>
            rcases k1.newm b o hm with q | q | ⟨j, u, n', q⟩
            · have : g.m b = some o := q
              rw [a5] at this; cases this
            · have := heap_lt a2; omega
            · exact absurd q (hother i e b n q2 q1 a1 _ _ _)
    inj := fun i i' e e' b n n' hi hi' ri ri' => by
      rcases hcases i e hi with ⟨j, e2, q1, q2, q3, q4, q5⟩ | ⟨q1, q2, q3⟩
      · rw [q5 _ (Nat.le_refl _), Nat.sub_self, Nat.add_zero] at ri
        rcases hcases i' e' hi' with ⟨j', e2', p1, p2, p3, p4, p5⟩ | ⟨p1, p2, p3⟩
        · rw [p5 _ (Nat.le_refl _), Nat.sub_self, Nat.add_zero] at ri'
          have := k2.inj _ _ _ _ _ _ _ q1 p1 ri ri'
          subst this
          have e1 : rowOf ts j = some e2 := q1
          have e2' : rowOf ts j = some e2' := p1
          rw [e1] at e2'
          simp only [Option.some.injEq] at e2'
          subst e2'
          rw [← q3, ← p3]
        · rw [p3] at ri'
          exact absurd ri (hnew i' e' b n' p2 p1 ri' _ _ _)
      · rw [q3] at ri
        rcases hcases i' e' hi' with ⟨j', e2', p1, p2, p3, p4, p5⟩ | ⟨p1, p2, p3⟩
        · rw [p5 _ (Nat.le_refl _), Nat.sub_self, Nat.add_zero] at ri'
          exact absurd ri' (hnew i e b n q2 q1 ri _ _ _)
        · rw [p3] at ri'
          exact hs.inj _ _ _ _ _ _ _ q2 p2 ri ri'
    fresh := fun i v hi => by
      rw [stL_next, mergeS_len] at hi
      have hni : i ∉ ids := fun hh => by have := hlt _ hh; omega
      simp only [G.back, if_neg hni]
      rw [if_neg (by omega)]
      exact k2.fresh _ _ (by rw [stL_next]; omega)
    tabs := fun i hi => by
      rw [stL_next] at hi
      rw [stL_tab, List.getElem?_eq_none hi]; rfl
    later := fun i e v hi hv => by
      rcases hcases i e hi with ⟨j, e2, q1, q2, q3, q4, q5⟩ | ⟨q1, q2, q3⟩
      · rw [q5 v (by omega)]; exact k2.later j e2 _ q1 (by omega)
      · rw [q3]; exact hs.later i e v q2 hv
    inb := fun i v b n hr => by
      rcases hrsome i v b n hr with q | ⟨j, u, q⟩
      · exact Nat.lt_of_lt_of_le (hs.inb _ _ _ _ q) k1.size
      · exact k2.inb _ _ _ _ q }
  refine ⟨g.back g2 es ids, _, hkeep, hsim, ?_⟩
  cases ee with
  | returned v => obtain ⟨d, q1, rfl, _⟩ := k3; exact ⟨_, hVb _ _ q1, rfl, rfl⟩
  | panicked c => obtain ⟨v, d, q0, q1, rfl, _⟩ := k3; exact ⟨v, _, q0, hVb _ _ q1, rfl, rfl⟩
  | outgrown => exact k3
end
end Go.Bw

/- The evaluator, part 2b: rows that are written no more. -/
namespace Go.Bw
open Go

mutual
/-- what leads to rows, replaced -/
def D.sub (p : Nat → Nat → Nat → D) (s : Nat → Nat → Nat → Nat → Nat → D) : D → D
  | .sc v => .sc v
  | .nilp => .nilp
  | .ptr i v o => p i v o
  | .rp l => .rp (D.subL p s l)
  | .nils => .nils
  | .ro e l => .ro e (D.subL p s l)
  | .ref i v a b c => s i v a b c
  | .fn f a b => .fn f (D.subL p s a) (D.subL p s b)
  | .nilfn => .nilfn
  | .ifc t d => .ifc t (D.sub p s d)
  | .nilifc => .nilifc
  | .mp a b => .mp (D.subL p s a) (D.subL p s b)
  | .agg l => .agg (D.subL p s l)
  | .tup l => .tup (D.subL p s l)
  | .undef => .undef
def D.subL (p : Nat → Nat → Nat → D) (s : Nat → Nat → Nat → Nat → Nat → D) : List D → List D
  | [] => []
  | d :: l => D.sub p s d :: D.subL p s l
end

section
variable {p : Nat → Nat → Nat → D} {s : Nat → Nat → Nat → Nat → Nat → D}

theorem D.subL_map : ∀ l, D.subL p s l = l.map (D.sub p s)
  | [] => rfl
  | d :: l => by rw [D.subL, D.subL_map l]; rfl

mutual
theorem D.sub_free : ∀ (d : D), d.refs = [] → d.sub p s = d
  | .sc _, _ => rfl
  | .nilp, _ => rfl
  | .ptr .., h => by simp [D.refs] at h
  | .rp l, h => by simp only [D.sub, D.rp.injEq]; exact D.subL_free l (by simpa [D.refs] using h)
  | .nils, _ => rfl
  | .ro _ l, h => by simp only [D.sub, D.ro.injEq, true_and]; exact D.subL_free l (by simpa [D.refs] using h)
  | .ref .., h => by simp [D.refs] at h
  | .fn _ a b, h => by
    simp only [D.refs, List.append_eq_nil_iff] at h
    simp only [D.sub, D.fn.injEq, true_and]; exact ⟨D.subL_free a h.1, D.subL_free b h.2⟩
  | .nilfn, _ => rfl
  | .ifc _ d, h => by simp only [D.sub, D.ifc.injEq, true_and]; exact D.sub_free d (by simpa [D.refs] using h)
  | .nilifc, _ => rfl
  | .mp a b, h => by
    simp only [D.refs, List.append_eq_nil_iff] at h
    simp only [D.sub, D.mp.injEq]; exact ⟨D.subL_free a h.1, D.subL_free b h.2⟩
  | .agg l, h => by simp only [D.sub, D.agg.injEq]; exact D.subL_free l (by simpa [D.refs] using h)
  | .tup l, h => by simp only [D.sub, D.tup.injEq]; exact D.subL_free l (by simpa [D.refs] using h)
  | .undef, _ => rfl
theorem D.subL_free : ∀ (l : List D), D.refsL l = [] → D.subL p s l = l
  | [], _ => rfl
  | d :: l, h => by
    simp only [D.refsL, List.append_eq_nil_iff] at h
    rw [D.subL, D.sub_free d h.1, D.subL_free l h.2]
end

variable (hp : ∀ i v o, (p i v o).cells = [p i v o]) (hs : ∀ i v a b c, (s i v a b c).cells = [s i v a b c])
include hp hs

theorem D.sub_cells (d : D) : (d.sub p s).cells = d.cells.map (D.sub p s) := by
  cases d with
  | ptr i v o => rw [D.sub, hp]; rfl
  | ref i v a b c => rw [D.sub, hs]; rfl
  | _ => simp [D.sub, D.cells, D.subL_map]

theorem D.sub_flat (l : List D) : (D.subL p s l).flatMap D.cells = (l.flatMap D.cells).map (D.sub p s) := by
  induction l with
  | nil => rfl
  | cons d l ih => simp only [D.subL, List.flatMap_cons, List.map_append, ih, D.sub_cells hp hs]

theorem V.sub {g g' : G} (hm : ∀ b o, g.m b = some o → g'.m b = some o) (h1 : ∀ i u o x, V g (.ptr i u o) x → V g' (p i u o) x) (h2 : ∀ i u a b c x, V g (.ref i u a b c) x → V g' (s i u a b c) x) {d : D} {v : Value} (h : V g d v) : V g' (d.sub p s) v := by
  induction h with
  | sc h => exact .sc h
  | nilp => exact .nilp
  | ptr h => exact h1 _ _ _ _ (.ptr h)
  | @rp cells b off c t fz hmb hl hv ih =>
    simp only [D.sub]
    refine .rp (hm _ _ hmb) (by simpa [D.subL_map] using hl) fun j d hd => ?_
    rw [D.subL_map] at hd
    obtain ⟨d0, h0, rfl⟩ := at_map hd
    exact ih j d0 h0
  | nils => exact .nils
  | roNil => exact .roNil
  | roNone hc he => exact .roNone hc he
  | @ro ex elems b off cap sz c t fz hmb hs' hl hc hx he hv ih =>
    simp only [D.sub]
    have hlen : (D.subL p s elems).length = elems.length := by simp [D.subL_map]
    rw [← hlen]
    refine .ro (hm _ _ hmb) (fun e he' => ?_) (by rw [hlen]; exact hl) (by rw [hlen]; exact hc) hx (by rw [hlen]; exact he) fun j d hd => ?_
    · rw [D.subL_map] at he'
      obtain ⟨e0, h0, rfl⟩ := List.mem_map.1 he'
      rw [D.sub_cells hp hs, List.length_map]; exact hs' _ h0
    · rw [D.sub_flat hp hs] at hd
      obtain ⟨d0, h0, rfl⟩ := at_map hd
      exact ih j d0 h0
  | ref h hl hx hn => exact h2 _ _ _ _ _ _ (.ref h hl hx hn)
  | @fn f first caps vs us h1 h2 _ _ ih1 ih2 =>
    simp only [D.sub]
    refine .fn (by simpa [D.subL_map] using h1) (by simpa [D.subL_map] using h2) (fun j d hd => ?_) (fun j d hd => ?_)
    · rw [D.subL_map] at hd
      obtain ⟨d0, h0, rfl⟩ := at_map hd
      exact ih1 j d0 h0
    · rw [D.subL_map] at hd
      obtain ⟨d0, h0, rfl⟩ := at_map hd
      exact ih2 j d0 h0
  | nilfn => exact .nilfn
  | ifc _ ih => exact .ifc ih
  | nilifc => exact .nilifc
  | @mp ks vs r clock es σ hmb h1 h2 h3 _ _ ih1 ih2 =>
    simp only [D.sub]
    refine .mp (σ := σ) (hm _ _ hmb) (by simpa [D.subL_map] using h1) (by simpa [D.subL_map] using h2) (by simpa [D.subL_map] using h3) (fun j d hd => ?_) (fun j d hd => ?_)
    · rw [D.subL_map] at hd
      obtain ⟨d0, h0, rfl⟩ := at_map hd
      exact ih1 j d0 h0
    · rw [D.subL_map] at hd
      obtain ⟨d0, h0, rfl⟩ := at_map hd
      exact ih2 j d0 h0
  | @agg cells vs hl _ ih =>
    simp only [D.sub]
    refine .agg (by simpa [D.subL_map] using hl) fun j d hd => ?_
    rw [D.subL_map] at hd
    obtain ⟨d0, h0, rfl⟩ := at_map hd
    exact ih j d0 h0
  | @tup ds vs hl _ ih =>
    simp only [D.sub]
    refine .tup (by simpa [D.subL_map] using hl) fun j d hd => ?_
    rw [D.subL_map] at hd
    obtain ⟨d0, h0, rfl⟩ := at_map hd
    exact ih j d0 h0
  | undef => exact .undef
end

/-- a row that is written no more, seen through a pointer, or a slice -/
def frzP (es : Sto) (F : Nat → Bool) (f : D → D) (i v o : Nat) : D :=
  if F i = true then (match rowOf es i with
    | some e => if e.ver = v ∧ o ≤ e.ob.length then .rp ((e.ob.drop o).map f) else .undef
    | none => .undef) else .ptr i v o
def frzS (es : Sto) (F : Nat → Bool) (f : D → D) (i v sz off len : Nat) : D :=
  if F i = true then (match rowOf es i with
    | some e => if e.ver = v ∧ 0 < sz ∧ off + len * sz ≤ e.ob.length ∧ (e.ob.map f).all D.one = true then .ro false (cutD sz (decide (sz ≠ 1)) len (((e.ob.map f).drop off).take (len * sz))) else .undef
    | none => .undef) else .ref i v sz off len

/-- rows of 'F', and what they lead to, written no more -/
def frzN (es : Sto) (F : Nat → Bool) : Nat → D → D
  | 0 => D.sub (fun i v o => if F i = true then .undef else .ptr i v o) (fun i v a b c => if F i = true then .undef else .ref i v a b c)
  | n + 1 => D.sub (frzP es F (frzN es F n)) (frzS es F (frzN es F n))

def frzRow (es : Sto) (F : Nat → Bool) (n i : Nat) : Option En := if F i = true then none else (rowOf es i).map fun e => ⟨e.ver, e.ob.map (frzN es F n)⟩
def frzSto (es : Sto) (F : Nat → Bool) (n : Nat) : Sto := (upto es.length).map (frzRow es F n)

theorem frzP_cells (es : Sto) (F : Nat → Bool) (f : D → D) (i v o : Nat) : (frzP es F f i v o).cells = [frzP es F f i v o] := by
  unfold frzP; split
  · split
    · split <;> rfl
    · rfl
  · rfl
theorem frzS_cells (es : Sto) (F : Nat → Bool) (f : D → D) (i v a b c : Nat) : (frzS es F f i v a b c).cells = [frzS es F f i v a b c] := by
  unfold frzS; split
  · split
    · split <;> rfl
    · rfl
  · rfl

open Classical in
noncomputable def G.frz (g : G) (w : World) (es : Sto) (F : Nat → Bool) : G :=
  ⟨fun b => if ∃ i e n, F i = true ∧ rowOf es i = some e ∧ g.r i e.ver = some (b, n) then w.heap[b]? else g.m b, g.r⟩

section
variable {g : G} {w : World} {es : Sto} {F : Nat → Bool}

theorem G.frz_le (h : Sim g (stL es) w) : g.le (g.frz w es F) := ⟨fun b o hb => by
  simp only [G.frz]
  split
  · exact h.imm _ _ hb
  · exact hb, fun _ _ _ hp => hp⟩

theorem V.frz (h : Sim g (stL es) w) : ∀ (n : Nat) {d : D} {v : Value}, V g d v → V (g.frz w es F) (frzN es F n d) v
  | 0, d, v, hv => by
    have hle := G.frz_le (F := F) h
    refine hv.sub (fun i u o => by split <;> rfl) (fun i u a b c => by split <;> rfl) hle.m (fun i u o x hx => ?_) (fun i u a b c x hx => ?_)
    · split
      · exact .undef
      · exact hx.mono hle
    · split
      · exact .undef
      · exact hx.mono hle
  | n + 1, d, v, hv => by
    have hle := G.frz_le (F := F) h
    have hrow : ∀ i e, F i = true → rowOf es i = some e → ∀ b m, g.r i e.ver = some (b, m) → ∃ c t fz, (g.frz w es F).m b = some (.cells c t fz) ∧ c.size = m ∧ e.ob.length ≤ m ∧ ∀ (j : Nat) (d : D), e.ob[j]? = some d → V (g.frz w es F) (frzN es F n d) (c.getD j Go.undef) := by
      intro i e hF he b m hr
      obtain ⟨b1, m1, c, t, fz, a1, a2, a3, a4, a5, a6, a7⟩ := h.sto i e he
      rw [hr] at a1
      simp only [Option.some.injEq, Prod.mk.injEq] at a1
      obtain ⟨rfl, rfl⟩ := a1
      refine ⟨c, t, fz, ?_, a3, a4, fun j d hd => V.frz h n (a7 j d hd)⟩
      simp only [G.frz]
      rw [if_pos ⟨i, e, m, hF, he, hr⟩]
      exact a2
    refine hv.sub (frzP_cells es F _) (frzS_cells es F _) hle.m (fun i u o x hx => ?_) (fun i u sz off len x hx => ?_)
    · unfold frzP
      split
      · rename_i hF
        split
        · rename_i e he
          split
          · rename_i hc
            cases hx with
            | @ptr _ _ _ b m hr =>
              obtain ⟨rfl, ho⟩ := hc
              obtain ⟨c, t, fz, q1, q2, q3, q4⟩ := hrow i e hF he b m hr
              refine .rp q1 (by simp; omega) fun j d hd => ?_
              obtain ⟨d0, h0, rfl⟩ := at_map hd
              rw [List.getElem?_drop] at h0
              exact q4 _ _ h0
          · exact .undef
        · exact .undef
      · exact hx.mono hle
    · unfold frzS
      split
      · rename_i hF
        split
        · rename_i e he
          split
          · rename_i hc
            cases hx with
            | @ref _ _ _ _ _ b m cap hr hl hcx hn =>
              obtain ⟨rfl, hsz, ho, hone⟩ := hc
              obtain ⟨c, t, fz, q1, q2, q3, q4⟩ := hrow i e hF he b m hr
              have hlen : (((e.ob.map (frzN es F n)).drop off).take (len * sz)).length = len * sz := by simp; omega
              obtain ⟨f1, f2, f3⟩ := cutD_flat sz (decide (sz ≠ 1)) (by simp) len _ hlen (by simp only [List.all_eq_true] at hone ⊢; intro x hx; exact hone x (List.mem_of_mem_drop (List.mem_of_mem_take hx)))
              have := V.ro (g := g.frz w es F) (ex := false) (elems := cutD sz (decide (sz ≠ 1)) len (((e.ob.map (frzN es F n)).drop off).take (len * sz))) (off := off) q1 f3 (by rw [f2]; omega) (by rw [f2]; exact hl) hcx (by simp) (by
                rw [f1]
                intro j d hd
                rw [List.getElem?_take] at hd
                split at hd
                · rw [List.getElem?_drop] at hd
                  obtain ⟨d0, h0, rfl⟩ := at_map hd
                  exact q4 _ _ h0
                · cases hd)
              rwa [f2] at this
          · exact .undef
        · exact .undef
      · exact hx.mono hle

theorem frzSto_row {n i : Nat} {e : En} (h : rowOf (frzSto es F n) i = some e) : F i = false ∧ ∃ e0, rowOf es i = some e0 ∧ e.ver = e0.ver ∧ e.ob = e0.ob.map (frzN es F n) := by
  unfold rowOf frzSto at h
  rw [List.getElem?_map] at h
  rcases Nat.lt_or_ge i es.length with hi | hi
  · rw [upto_at hi] at h
    simp only [Option.map_some, Option.getD_some, frzRow] at h
    split at h
    · cases h
    · rename_i hF
      rw [Option.map_eq_some_iff] at h
      obtain ⟨e0, h1, rfl⟩ := h
      exact ⟨by simpa using hF, e0, h1, rfl, rfl⟩
  · rw [List.getElem?_eq_none (by rw [upto_len]; exact hi)] at h; cases h

theorem frzSto_len (n : Nat) : (frzSto es F n).length = es.length := by simp [frzSto, upto_len]

theorem Sim.frz (h : Sim g (stL es) w) (n : Nat) : Sim (g.frz w es F) (stL (frzSto es F n)) w ∧ Keep g (g.frz w es F) w w := by
  have hle := G.frz_le (F := F) h
  refine ⟨⟨fun b o hb => ?_, fun i e he => ?_, fun i j e e' b m m' hi hj ri rj => ?_, fun i v hi => ?_, fun i hi => ?_, fun i e v hi hv => ?_, h.inb⟩, hle, Nat.le_refl _, fun _ _ _ => rfl, fun b o hb => ?_, fun i v _ m hr => .inr ⟨i, v, m, hr⟩, rfl, rfl, rfl⟩
  · simp only [G.frz] at hb
    split at hb
    · exact hb
    · exact h.imm _ _ hb
  · obtain ⟨hF, e0, h1, h2, h3⟩ := frzSto_row he
    obtain ⟨b, m, c, t, fz, a1, a2, a3, a4, a5, a6, a7⟩ := h.sto i e0 h1
    refine ⟨b, m, c, t, fz, by rw [h2]; exact a1, a2, a3, by rw [h3, List.length_map]; exact a4, ?_, a6, fun j d hd => ?_⟩
    · simp only [G.frz]
      rw [if_neg]
      · exact a5
      · rintro ⟨i', e', m', q1, q2, q3⟩
        have := h.inj _ _ _ _ _ _ _ h1 q2 a1 q3
        subst this
        rw [hF] at q1; cases q1
    · rw [h3] at hd
      obtain ⟨d0, h0, rfl⟩ := at_map hd
      exact V.frz h n (a7 j d0 h0)
  · obtain ⟨_, e0, h1, h2, _⟩ := frzSto_row hi
    obtain ⟨_, e0', h1', h2', _⟩ := frzSto_row hj
    rw [h2] at ri
    rw [h2'] at rj
    exact h.inj _ _ _ _ _ _ _ h1 h1' ri rj
  · rw [stL_next, frzSto_len] at hi
    exact h.fresh i v (by rw [stL_next]; exact hi)
  · rw [stL_next] at hi
    rw [stL_tab, List.getElem?_eq_none hi]; rfl
  · obtain ⟨_, e0, h1, h2, _⟩ := frzSto_row hi
    exact h.later i e0 v h1 (by rw [← h2]; exact hv)
  · simp only [G.frz] at hb
    split at hb
    · rename_i hh
      obtain ⟨i, e, m, q1, q2, q3⟩ := hh
      exact .inr (.inr ⟨i, e.ver, m, q3⟩)
    · exact .inl hb
end
end Go.Bw

/- The evaluator, part 2c: slices of nothing, whether nil or not. -/
namespace Go.Bw
open Go

mutual
def D.can : D → D
  | .sc v => .sc v
  | .nilp => .nilp
  | .ptr i v o => .ptr i v o
  | .rp l => .rp (D.canL l)
  | .nils => .ro false []
  | .ro _ l => .ro false (D.canL l)
  | .ref i v a b c => .ref i v a b c
  | .fn f a b => .fn f (D.canL a) (D.canL b)
  | .nilfn => .nilfn
  | .ifc t d => .ifc t (D.can d)
  | .nilifc => .nilifc
  | .mp a b => .mp a b
  | .agg l => .agg (D.canL l)
  | .tup l => .tup (D.canL l)
  | .undef => .undef
def D.canL : List D → List D
  | [] => []
  | d :: l => D.can d :: D.canL l
end

theorem D.canL_map : ∀ l, D.canL l = l.map D.can
  | [] => rfl
  | d :: l => by rw [D.canL, D.canL_map l]; rfl

theorem D.can_cells (d : D) : d.can.cells = d.cells.map D.can := by
  cases d <;> simp [D.can, D.cells, D.canL_map]

theorem D.can_flat (l : List D) : (D.canL l).flatMap D.cells = (l.flatMap D.cells).map D.can := by
  induction l with
  | nil => rfl
  | cons d l ih => simp only [D.canL, List.flatMap_cons, List.map_append, ih, D.can_cells]

theorem V.can {g : G} {d : D} {v : Value} (h : V g d v) : V g d.can v := by
  induction h with
  | sc h => exact .sc h
  | nilp => exact .nilp
  | ptr h => exact .ptr h
  | @rp cells b off c t fz hmb hl hv ih =>
    simp only [D.can]
    refine .rp hmb (by simpa [D.canL_map] using hl) fun j d hd => ?_
    rw [D.canL_map] at hd
    obtain ⟨d0, h0, rfl⟩ := at_map hd
    exact ih j d0 h0
  | nils => exact .roNil
  | roNil => exact .roNil
  | roNone hc he => exact .roNone hc (by simp)
  | @ro ex elems b off cap sz c t fz hmb hs' hl hc hx he hv ih =>
    simp only [D.can]
    have hlen : (D.canL elems).length = elems.length := by simp [D.canL_map]
    rw [← hlen]
    refine .ro hmb (fun e he' => ?_) (by rw [hlen]; exact hl) (by rw [hlen]; exact hc) hx (by simp) fun j d hd => ?_
    · rw [D.canL_map] at he'
      obtain ⟨e0, h0, rfl⟩ := List.mem_map.1 he'
      rw [D.can_cells, List.length_map]; exact hs' _ h0
    · rw [D.can_flat] at hd
      obtain ⟨d0, h0, rfl⟩ := at_map hd
      exact ih j d0 h0
  | ref h hl hx hn => exact .ref h hl hx hn
  | @fn f first caps vs us h1 h2 _ _ ih1 ih2 =>
    simp only [D.can]
    refine .fn (by simpa [D.canL_map] using h1) (by simpa [D.canL_map] using h2) (fun j d hd => ?_) (fun j d hd => ?_)
    · rw [D.canL_map] at hd
      obtain ⟨d0, h0, rfl⟩ := at_map hd
      exact ih1 j d0 h0
    · rw [D.canL_map] at hd
      obtain ⟨d0, h0, rfl⟩ := at_map hd
      exact ih2 j d0 h0
  | nilfn => exact .nilfn
  | ifc _ ih => exact .ifc ih
  | nilifc => exact .nilifc
  | mp hmb h1 h2 h3 k1 k2 _ _ => exact .mp hmb h1 h2 h3 k1 k2
  | @agg cells vs hl _ ih =>
    simp only [D.can]
    refine .agg (by simpa [D.canL_map] using hl) fun j d hd => ?_
    rw [D.canL_map] at hd
    obtain ⟨d0, h0, rfl⟩ := at_map hd
    exact ih j d0 h0
  | @tup ds vs hl _ ih =>
    simp only [D.can]
    refine .tup (by simpa [D.canL_map] using hl) fun j d hd => ?_
    rw [D.canL_map] at hd
    obtain ⟨d0, h0, rfl⟩ := at_map hd
    exact ih j d0 h0
  | undef => exact .undef

/-- an argument: a slice that is nil stays it -/
def D.canA : D → D
  | .nils => .nils
  | d => d.can

theorem V.canA {g : G} {d : D} {v : Value} (h : V g d v) : V g d.canA v := by
  cases d with
  | nils => exact h
  | _ => exact h.can

def canRow (o : Option En) : Option En := o.map fun e => ⟨e.ver, e.ob.map D.can⟩

theorem Sim.can {g : G} {es : Sto} {w : World} (h : Sim g (stL es) w) : Sim g (stL (es.map canRow)) w := by
  have hrow : ∀ i e, rowOf (es.map canRow) i = some e → ∃ e0, rowOf es i = some e0 ∧ e.ver = e0.ver ∧ e.ob = e0.ob.map D.can := by
    intro i e he
    unfold rowOf at he ⊢
    rw [List.getElem?_map] at he
    cases hx : es[i]? with
    | none => rw [hx] at he; simp at he
    | some o =>
      rw [hx] at he
      simp only [Option.map_some, Option.getD_some, canRow, Option.map_eq_some_iff] at he
      obtain ⟨e0, h1, rfl⟩ := he
      exact ⟨e0, by simp [h1], rfl, rfl⟩
  refine ⟨h.imm, fun i e he => ?_, fun i j e e' b n n' hi hj ri rj => ?_, fun i v hi => ?_, fun i hi => ?_, fun i e v hi hv => ?_, h.inb⟩
  · obtain ⟨e0, h1, h2, h3⟩ := hrow i e he
    obtain ⟨b, n, c, t, fz, a1, a2, a3, a4, a5, a6, a7⟩ := h.sto i e0 h1
    refine ⟨b, n, c, t, fz, by rw [h2]; exact a1, a2, a3, by rw [h3, List.length_map]; exact a4, a5, a6, fun j d hd => ?_⟩
    rw [h3] at hd
    obtain ⟨d0, h0, rfl⟩ := at_map hd
    exact (a7 j d0 h0).can
  · obtain ⟨e0, h1, h2, _⟩ := hrow i e hi
    obtain ⟨e0', h1', h2', _⟩ := hrow j e' hj
    rw [h2] at ri
    rw [h2'] at rj
    exact h.inj _ _ _ _ _ _ _ h1 h1' ri rj
  · rw [stL_next, List.length_map] at hi
    exact h.fresh i v (by rw [stL_next]; exact hi)
  · rw [stL_next] at hi
    rw [stL_tab, List.getElem?_eq_none hi]; rfl
  · obtain ⟨e0, h1, h2, _⟩ := hrow i e hi
    exact h.later i e0 v h1 (by rw [← h2]; exact hv)

theorem CallT.can {P : Program} {GL : Nat → D} {f : FuncId} {ds : List D} {es es' : Sto} {Q : R → St → Prop} (he : es' = es ∨ es' = es.map canRow) (h : CallT P GL f (ds.map D.canA) (stL es') Q) : CallT P GL f ds (stL es) Q := by
  refine ⟨h.1, fun g w vs hs hv hg => h.2 g w vs ?_ ⟨by rw [List.length_map]; exact hv.1, fun j d hd => ?_⟩ hg⟩
  · rcases he with rfl | rfl
    · exact hs
    · exact hs.can
  · obtain ⟨d0, h0, rfl⟩ := at_map hd
    exact (hv.2 j d0 h0).canA

end Go.Bw

/- The evaluator, part 4: pieces of code, seen from a call's start. -/
namespace Go.Bw
open Go

/-- memory, since the call's start, stands so -/
def At (P : Program) (GL : Nat → D) (n : Nat) (g0 : G) (w0 : World) (E : Nat → D) (S : St) (a : Act) (w : World) : Prop :=
  ∃ g, Keep g0 g w0 w ∧ Sim g S w ∧ Env g E a ∧ a.tmps.size = n ∧ Mk w0.heap.size g w a.defers

def TriB (P : Program) (GL : Nat → D) (n : Nat) (g0 : G) (w0 : World) (c : Code) (E : Nat → D) (S : St) (Q : Post) : Prop :=
  ∀ a w, At P GL n g0 w0 E S a w → c.wp P (Lift n w0.heap.size g0 w0 Q) a w

section
variable {P : Program} {GL : Nat → D} {n : Nat} {g0 : G} {w0 : World} {S : St} {E : Nat → D} {Q : Post}

theorem Tri.base {c : Code} (h : Tri P GL n c E S Q) (hG : Glob g0 GL) : TriB P GL n g0 w0 c E S Q := by
  intro a w ⟨g, hk, hs, he, hn, hd⟩
  exact wp_mono (h g a w hs he (hG.mono hk.le) hn hd) fun e a w hh => hh.keep hk

theorem TriB.mono {c : Code} {Q' : Post} (h : TriB P GL n g0 w0 c E S Q) (hq : ∀ x E S, Q x E S → Q' x E S) : TriB P GL n g0 w0 c E S Q' :=
  fun a w h1 => wp_mono (h a w h1) fun e a w ⟨g', E', S', x, k1, k2, k3, k4, k5, k6, k7⟩ => ⟨g', E', S', x, k1, k2, k3, k4, k5, k6, hq _ _ _ k7⟩

theorem TriB.at {c : Code} {E' : Nat → D} {S' : St} (hi : ∀ a w, At P GL n g0 w0 E S a w → At P GL n g0 w0 E' S' a w) (h : TriB P GL n g0 w0 c E' S' Q) : TriB P GL n g0 w0 c E S Q :=
  fun a w h1 => h a w (hi a w h1)

def postSeq (P : Program) (GL : Nat → D) (n : Nat) (g0 : G) (w0 : World) (y : Code) (Q : Post) : Post
  | .normal, E, S => TriB P GL n g0 w0 y E S Q
  | x, E, S => Q x E S

theorem triB_seq {x y : Code} (h : TriB P GL n g0 w0 x E S (postSeq P GL n g0 w0 y Q)) : TriB P GL n g0 w0 (.seq x y) E S Q := by
  intro a w h1
  refine wp_seq (wp_mono (h a w h1) ?_)
  refine lift_bind (Q2 := Q) ?_ ?_ ?_
  · intro g' E' S' a' w' q k1 k2 k3 k4 k5
    exact q a' w' ⟨g', k1, k2, k3, k4, k5⟩
  · intro x hx E S hq
    cases x <;> first | exact absurd rfl hx | exact hq
  · intro e a w he hh
    cases e <;> first | exact absurd rfl he | exact hh

theorem triB_cond {c : Operand} {x y : Code} {b : Bool} (hG : Glob g0 GL) (hc : rhoD E GL c = .sc (.bool b)) (ht : b = true → TriB P GL n g0 w0 x E S Q) (hf : b = false → TriB P GL n g0 w0 y E S Q) : TriB P GL n g0 w0 (.cond c x y) E S Q := by
  intro a w h1
  obtain ⟨g, hk, hs, he, hn, hd⟩ := h1
  have := rho_V he (hG.mono hk.le) c
  rw [hc] at this
  have hv := (V_sc_inv this).1
  exact wp_cond_split hv (fun hb => ht hb a w ⟨g, hk, hs, he, hn, hd⟩) (fun hb => hf hb a w ⟨g, hk, hs, he, hn, hd⟩)

theorem triB_block {id : Nat} {c : Code} (h : TriB P GL n g0 w0 c E S (blockPost id Q)) : TriB P GL n g0 w0 (.block id c) E S Q := by
  intro a w h1
  refine wp_block (wp_mono (h a w h1) ?_)
  intro e a' w' ⟨g', E', S', x, k1, k2, k3, k4, k5, k6, k7⟩
  cases e with
  | exit i =>
    cases x with
    | exit j =>
      simp only [Rel] at k6
      subst k6
      simp only [blockPost] at k7
      simp only [Exit.inBlock]
      split
      · rename_i hi
        rw [if_pos hi] at k7
        exact ⟨g', E', S', .normal, k1, k2, k3, k4, k5, trivial, k7⟩
      · rename_i hi
        rw [if_neg hi] at k7
        exact ⟨g', E', S', .exit j, k1, k2, k3, k4, k5, rfl, k7⟩
    | _ => simp [Rel] at k6
  | _ =>
    refine ⟨g', E', S', x, k1, k2, k3, k4, k5, k6, ?_⟩
    cases x <;> first | exact k7 | (simp [Rel] at k6; done)

def postLoop (P : Program) (GL : Nat → D) (n : Nat) (g0 : G) (w0 : World) (I : Nat → (Nat → D) → St → Prop) (i : Nat) (Q : Post) : Post
  | .normal, E, S => ∃ j E' S', j < i ∧ (∀ a w, At P GL n g0 w0 E S a w → At P GL n g0 w0 E' S' a w) ∧ I j E' S'
  | x, E, S => Q x E S

theorem triB_loop {c : Code} (I : Nat → (Nat → D) → St → Prop) (round : ∀ i E S, I i E S → TriB P GL n g0 w0 c E S (postLoop P GL n g0 w0 I i Q)) (i : Nat) (h : I i E S) : TriB P GL n g0 w0 (.loop c) E S Q := by
  intro a0 ws hat b k cs
  have key : ∀ i E S a w, I i E S → At P GL n g0 w0 E S a w →
      ∃ e a' w', Lift n w0.heap.size g0 w0 Q e a' w' ∧ Arrives P (lone (b.at a (.code c :: .inLoop c :: k)) cs w) b k cs e a' w' := by
    intro i
    induction i using Nat.strongRecOn with
    | _ i ih =>
      intro E S a w hI ha
      obtain ⟨e, a₁, w₁, ⟨g', E', S', x, k1, k2, k3, k4, k5, k6, k7⟩, harr⟩ := round i E S hI a w ha b (.inLoop c :: k) cs
      cases e with
      | normal =>
        cases x with
        | normal =>
          obtain ⟨j, E2, S2, hj, hw, hI'⟩ := k7
          obtain ⟨e₂, a₂, w₂, hq₂, harr₂⟩ := ih j hj E2 S2 a₁ w₁ hI' (hw _ _ ⟨g', k1, k2, k3, k4, k5⟩)
          exact ⟨e₂, a₂, w₂, hq₂, .of_steps (Steps.trans harr (.one step_inLoop)) harr₂⟩
        | _ => simp [Rel] at k6
      | _ =>
        refine ⟨_, a₁, w₁, ⟨g', E', S', x, k1, k2, k3, k4, k5, k6, ?_⟩, .pass (x := .inLoop c) rfl (fun _ _ => .inl (by simp)) harr⟩
        cases x <;> first | exact k7 | (simp [Rel] at k6; done)
  obtain ⟨e, a', w', hq, harr⟩ := key i E S a0 ws h hat
  exact ⟨e, a', w', hq, .of_steps (.one step_loop) harr⟩

/-- a scope in which one label is jumped to -/
def postScope (P : Program) (GL : Nat → D) (n : Nat) (g0 : G) (w0 : World) (l : Nat) (J : Nat → Prop) (I : Nat → (Nat → D) → St → Prop) (Q : Post) : Post
  | .goto l', E, S => l' = l ∧ ∃ j E' S', J j ∧ (∀ a w, At P GL n g0 w0 E S a w → At P GL n g0 w0 E' S' a w) ∧ I j E' S'
  | x, E, S => Q x E S

theorem triB_scope {c rest : Code} (l : Nat) (hf : findLabel c l = some rest) (I : Nat → (Nat → D) → St → Prop) (first : TriB P GL n g0 w0 c E S (postScope P GL n g0 w0 l (fun _ => True) I Q))
    (pass : ∀ i E S, I i E S → TriB P GL n g0 w0 rest E S (postScope P GL n g0 w0 l (fun j => j < i) I Q)) : TriB P GL n g0 w0 (.scope c) E S Q := by
  intro a0 ws hat b k cs
  have hg : gotoIn l (.inScope c :: k) = some (.code rest :: .inScope c :: k) := by simp [gotoIn, hf]
  have key : ∀ i E S a w, I i E S → At P GL n g0 w0 E S a w →
      ∃ e a' w', Lift n w0.heap.size g0 w0 Q e a' w' ∧ Arrives P (lone (b.at a (.code rest :: .inScope c :: k)) cs w) b k cs e a' w' := by
    intro i
    induction i using Nat.strongRecOn with
    | _ i ih =>
      intro E S a w hI ha
      obtain ⟨e, a₁, w₁, ⟨g', E', S', x, k1, k2, k3, k4, k5, k6, k7⟩, harr⟩ := pass i E S hI a w ha b (.inScope c :: k) cs
      cases e with
      | normal =>
        cases x with
        | normal => exact ⟨.normal, a₁, w₁, ⟨g', E', S', .normal, k1, k2, k3, k4, k5, trivial, k7⟩, Steps.trans harr (.one step_inScope)⟩
        | _ => simp [Rel] at k6
      | goto l' =>
        cases x with
        | goto l'' =>
          simp only [Rel] at k6
          subst k6
          obtain ⟨rfl, j, E2, S2, hj, hw, hI'⟩ := k7
          obtain ⟨e₂, a₂, w₂, hq₂, harr₂⟩ := ih j hj E2 S2 a₁ w₁ hI' (hw _ _ ⟨g', k1, k2, k3, k4, k5⟩)
          exact ⟨e₂, a₂, w₂, hq₂, .of_steps (harr _ hg) harr₂⟩
        | _ => simp [Rel] at k6
      | exit id =>
        cases x with
        | exit j => exact ⟨.exit id, a₁, w₁, ⟨g', E', S', .exit j, k1, k2, k3, k4, k5, k6, k7⟩, fun k' hk' => harr k' (by simp [exitTo, hk'])⟩
        | _ => simp [Rel] at k6
      | ret =>
        cases x with
        | ret => exact ⟨.ret, a₁, w₁, ⟨g', E', S', .ret, k1, k2, k3, k4, k5, k6, k7⟩, harr⟩
        | _ => simp [Rel] at k6
      | panic ch =>
        cases x with
        | pan d => exact ⟨.panic ch, a₁, w₁, ⟨g', E', S', .pan d, k1, k2, k3, k4, k5, k6, k7⟩, harr⟩
        | _ => simp [Rel] at k6
      | outgrown => cases x <;> simp [Rel] at k6
  obtain ⟨e, a₁, w₁, ⟨g', E', S', x, k1, k2, k3, k4, k5, k6, k7⟩, harr⟩ := first a0 ws hat b (.inScope c :: k) cs
  cases e with
  | normal =>
    cases x with
    | normal => exact ⟨.normal, a₁, w₁, ⟨g', E', S', .normal, k1, k2, k3, k4, k5, trivial, k7⟩, .head step_scope (Steps.trans harr (.one step_inScope))⟩
    | _ => simp [Rel] at k6
  | goto l' =>
    cases x with
    | goto l'' =>
      simp only [Rel] at k6
      subst k6
      obtain ⟨rfl, j, E2, S2, -, hw, hI'⟩ := k7
      obtain ⟨e₂, a₂, w₂, hq₂, harr₂⟩ := key j E2 S2 a₁ w₁ hI' (hw _ _ ⟨g', k1, k2, k3, k4, k5⟩)
      exact ⟨e₂, a₂, w₂, hq₂, .of_steps (.head step_scope (harr _ hg)) harr₂⟩
    | _ => simp [Rel] at k6
  | exit id =>
    cases x with
    | exit j => exact ⟨.exit id, a₁, w₁, ⟨g', E', S', .exit j, k1, k2, k3, k4, k5, k6, k7⟩, fun k' hk' => .head step_scope (harr k' (by simp [exitTo, hk']))⟩
    | _ => simp [Rel] at k6
  | ret =>
    cases x with
    | ret => exact ⟨.ret, a₁, w₁, ⟨g', E', S', .ret, k1, k2, k3, k4, k5, k6, k7⟩, .of_steps (.one step_scope) harr⟩
    | _ => simp [Rel] at k6
  | panic ch =>
    cases x with
    | pan d => exact ⟨.panic ch, a₁, w₁, ⟨g', E', S', .pan d, k1, k2, k3, k4, k5, k6, k7⟩, .of_steps (.one step_scope) harr⟩
    | _ => simp [Rel] at k6
  | outgrown => cases x <;> simp [Rel] at k6

/-- a box that nobody writes -/
theorem boxF_does {S : St} {g : G} {w : World} {t : TypeId} {d : D} {x : Value} (hs : Sim g S w) (hd : V g d x) (ho : d.cells.all D.one = true) :
    Does P (Instr.box t x) g w (.rp d.cells) S := by
  obtain ⟨k1, k2, k3⟩ := V_cells hd ho
  have hle : g.le ⟨fun b => if b = w.heap.size then some (.cells x.cells t) else g.m b, g.r⟩ := ⟨fun b o hb => by
    have : b < w.heap.size := heap_lt (hs.imm _ _ hb)
    simp only
    rw [if_neg (by omega)]; exact hb, fun _ _ _ h => h⟩
  have hold : ∀ b, b < w.heap.size → (w.alloc (.cells x.cells t)).heap[b]? = w.heap[b]? := fun b hb => by
    simp only [World.alloc]; rw [Array.getElem?_push_lt hb]; simp [hb]
  have hnew : (w.alloc (.cells x.cells t)).heap[w.heap.size]? = some (.cells x.cells t) := by show (w.heap.push _)[w.heap.size]? = _; simp
  refine ⟨⟨fun b => if b = w.heap.size then some (.cells x.cells t) else g.m b, g.r⟩, w.alloc (.cells x.cells t), .pointer (some ⟨w.heap.size, 0, none⟩), by simp [Instr.box, newVar, newRow], .rp (t := t) (fz := (0, 0)) (c := x.cells) (by simp) (by omega) fun j e he => ?_, ?_, ?_⟩
  · rw [Nat.zero_add]; exact (k2 j e he).mono hle
  · refine ⟨fun b o hb => ?_, fun i e he => ?_, hs.inj, hs.fresh, hs.tabs, hs.later, fun i v b m hr => ?_⟩
    · simp only at hb
      split at hb
      · rename_i hbe; subst hbe; simp only [Option.some.injEq] at hb; subst hb; exact hnew
      · rw [hold b (heap_lt (hs.imm _ _ hb))]; exact hs.imm _ _ hb
    · obtain ⟨b, m, c, t', fz, a1, a2, a3, a4, a5, a6, a7⟩ := hs.sto i e he
      refine ⟨b, m, c, t', fz, a1, by rw [hold b (heap_lt a2)]; exact a2, a3, a4, ?_, a6, fun j d hd => (a7 j d hd).mono hle⟩
      simp only
      rw [if_neg (by have := heap_lt a2; omega)]; exact a5
    · have := hs.inb i v b m hr
      show b < (w.heap.push _).size
      rw [Array.size_push]; omega
  · refine ⟨hle, by show w.heap.size ≤ (w.heap.push _).size; rw [Array.size_push]; omega, fun b hb _ => hold b hb, fun b o hb => ?_, fun i v b m hr => .inr ⟨i, v, m, hr⟩, rfl, rfl, rfl⟩
    simp only at hb
    split at hb
    · exact .inr (.inl (by omega))
    · exact .inl hb

end
end Go.Bw

/- The evaluator, part 5: code, over abstract values. -/
namespace Go.Bw
open Go

/-- what is known ahead of a function: boxes that nobody writes; the slots that are kept where a block, or a label, begins; in which order regions are looked at that draw theirs -/
structure Ann where
  froz : List Nat
  keep : List (Nat × List Nat)
  plan : List (Nat × Plan)
  frz : Bool
  frzAt : List (Nat × List Nat)
  its : D → Option (List (List D))

/-- no loops over functions -/
def noIt : D → Option (List (List D)) := fun _ => none

/-- all but the iterators -/
structure AnnB where
  froz : List Nat
  keep : List (Nat × List Nat)
  plan : List (Nat × Plan)
  frz : Bool
  frzAt : List (Nat × List Nat)
@[reducible] def AnnB.with (b : AnnB) (i : D → Option (List (List D))) : Ann := ⟨b.froz, b.keep, b.plan, b.frz, b.frzAt, i⟩

def look {α : Type} : List (Nat × α) → Nat → Option α
  | [], _ => none
  | (k, x) :: r, i => if i = k then some x else look r i

abbrev Fr := List (Nat × D)
abbrev Out := X × Fr × Sto
abbrev Orc := FuncId → List D → Sto → Option (R × Sto)

def toL (S : St) : Sto := (upto S.next).map S.tab

def setO (l : Fr) (o : Option Tmp) (d : D) : Fr := match o with | some t => (t, d) :: l | none => l

theorem ofL_setO (l : Fr) (o : Option Tmp) (d : D) : ofL (setO l o d) = updO (ofL l) o d := by
  cases o with
  | none => rfl
  | some t => funext k; simp only [setO, updO, upd, ofL]

def opL (P : Program) (E GL : Nat → D) (es : Sto) (o : Oper) : Option (D × Sto) := (opD P E GL (stL es) o).map fun x => (x.1, toL x.2)

/-- what a call hands back, seen from outside -/
def unpk (es : Sto) (ids : List Nat) : Option (R × Sto) → Option (R × Sto)
  | some (r, ts) => if ids.length ≤ ts.length then some (r.ren (backMap es ids), mergeS es ids ts) else none
  | none => none

def callG (C : Orc) (f : FuncId) (es : Sto) : Option (List Nat × List D × Sto) → Option (R × Sto)
  | some (ids, ds', es') => unpk es ids (C f ds' es')
  | none => none

def callE (C : Orc) (f : FuncId) (ds : List D) (es : Sto) : Option (R × Sto) := callG C f es (gcA 0 ds es)

def callV (C : Orc) (fd : D) (ds : List D) (es : Sto) : Option (R × Sto) :=
  match fd with
  | .fn (.func f) first caps => callE C f (first ++ ds ++ caps) es
  | _ => none

def frozenOf (fz : List Nat) (o : Oper) : Option Operand :=
  match o.op, o.dst with
  | .box _ x, some t => if t ∈ fz then some x else none
  | _, _ => none

def rOf : Option (D × Sto) → Option (R × Sto)
  | some (d, es) => some (.ret d, es)
  | none => none

/-- an operation that panics -/
def panicOf (o : Oper) : Option Operand := match o.op with | .panic x => some x | _ => none
def panR (d : D) (es : Sto) : Option (R × Sto) := match d with | .ifc t x => some (.pan (.ifc t x), es) | _ => none

mutual
/-- no part of it is memory -/
def D.mf : D → Bool
  | .sc _ => true
  | .nilp => true
  | .ptr .. => false
  | .rp _ => false
  | .nils => true
  | .ro _ l => l.isEmpty
  | .ref .. => false
  | .fn _ a b => D.mfL a && D.mfL b
  | .nilfn => true
  | .ifc _ d => D.mf d
  | .nilifc => true
  | .mp _ _ => false
  | .agg l => D.mfL l
  | .tup l => D.mfL l
  | .undef => true
def D.mfL : List D → Bool
  | [] => true
  | d :: l => D.mf d && D.mfL l
end
def allF (_ : Nat) : Bool := true
/-- calls whose rows are only read: what they hand back holds no memory -/
def brw : List Nat → Option Tmp → Bool
  | [], _ => false
  | _, none => false
  | a :: l, some t => if t = a then true else brw l (some t)
def brwR (es : Sto) : Option (R × Sto) → Option (R × Sto)
  | some (.ret d, _) => if d.mf = true then some (.ret d, es) else none
  | _ => none
def callB (C : Orc) (b : Bool) (fd : D) (ds : List D) (es : Sto) : Option (R × Sto) :=
  if b = true then brwR es (callV C (frzN es allF 20 fd) (ds.map (frzN es allF 20)) (frzSto es allF 20)) else callV C fd ds es

/-- a method of a pointer, by its name -/
def metD (P : Program) (t : TypeId) (name : String) : Option FuncId :=
  match P.info? t with
  | some i => match i.methods.find? (·.name == name) with
    | some m => match m.path.toList, m.func, P.underlying t with
      | [], some (f, true), some (.pointer _) => some f
      | _, _, _ => none
    | none => none
  | none => none
def retR : Option (R × Sto) → Option (R × Sto)
  | some (.ret d, es) => some (.ret d, es)
  | _ => none
/-- a method that is called behind an interface -/
def invD (P : Program) (C : Orc) (name : String) (d : D) (ds : List D) (es : Sto) : Option (R × Sto) :=
  match d with
  | .ifc t x => match metD P t name with
    | some f => retR (callE C f (x :: ds) es)
    | none => none
  | _ => none
/-- a list that is built as a row; bytes turned into bytes; a method behind an interface: marked by their slots -/
def ownOp (P : Program) (GL : Nat → D) (C : Orc) (fz : List Nat) (E : Nat → D) (es : Sto) (o : Oper) : Option (Option (R × Sto)) :=
  match o.op, o.dst with
  | .buildSlice t n pa, some tm => if tm ∈ fz then some (rOf ((bsRowD P (stL es) t n (pa.toList.map fun p => (p.1, rhoD E GL p.2))).map fun x => (x.1, toL x.2))) else none
  | .convert s t x, some tm => if tm ∈ fz then some (rOf ((cvRowD P (stL es) s t (rhoD E GL x)).map fun d => (d, es))) else none
  | .call ⟨.invoke recv name, args, _⟩, some tm => if tm ∈ fz then some (invD P C name (rhoD E GL recv) (args.toList.map (rhoD E GL)) es) else none
  | _, _ => none
theorem ownOp_nil (P : Program) (GL : Nat → D) (C : Orc) (E : Nat → D) (es : Sto) (o : Oper) : ownOp P GL C [] E es o = none := by
  unfold ownOp
  split
  · simp
  · simp
  · simp
  · rfl
def exOp (P : Program) (GL : Nat → D) (C : Orc) (fz : List Nat) (E : Nat → D) (es : Sto) (o : Oper) : Option (R × Sto) :=
  match calleeOf o with
  | some (f, args) => callB C (brw fz o.dst) (rhoD E GL f) (args.map (rhoD E GL)) es
  | none => match panicOf o with
    | some x => panR (rhoD E GL x) es
    | none => match frozenOf fz o with
      | some x => if (rhoD E GL x).cells.all D.one = true then some (.ret (.rp (rhoD E GL x).cells), es) else none
      | none => match ownOp P GL C fz E es o with
        | some y => y
        | none => rOf (opL P E GL es o)

def stp (b : Bool) (x : Option (R × Sto)) (t : Option Tmp) (l : Fr) (es : Sto) : Option Out :=
  if b = true then (match x with
    | some (.ret d, es') => some (.normal, setO l t d, es')
    | some (.pan d, es') => some (.pan d, l, es')
    | none => none) else some (.normal, setO l t (.tup []), es)

def stG (g : Option Bool) (x : Option (R × Sto)) (t : Option Tmp) (l : Fr) (es : Sto) : Option Out :=
  match g with
  | some b => stp b x t l es
  | none => none

def thO (x : Option Out) (k : Fr → Sto → Option Out) : Option Out :=
  match x with
  | some (.normal, l, es) => k l es
  | o => o

def evOps (P : Program) (GL : Nat → D) (C : Orc) (fz : List Nat) (ops : Array Oper) : List Oper → Fr → Sto → Option Out
  | [], l, es => some (.normal, l, es)
  | o :: rest, l, es => thO (stG (guardD ops (ofL l) o.guard) (exOp P GL C fz (ofL l) es o) o.dst l es) (evOps P GL C fz ops rest)

open Classical in
/-- in a region that draws its order: what does not write the store -/
noncomputable def drOp (P : Program) (GL : Nat → D) (C : Orc) (lo : Nat) (E : Nat → D) (es : Sto) (er : List Sto) (o : Oper) : Option D :=
  match calleeOf o with
  | some (f, args) => match callV C (rhoD E GL f) (args.map (rhoD E GL)) es with
    | some (.ret d, es') => if es' = es ∧ ∀ e1 ∈ er.take (er.length - lo), callV C (rhoD E GL f) (args.map (rhoD E GL)) e1 = some (.ret d, e1) then some d else none
    | _ => none
  | none => match opL P E GL es o with
    | some (d, es') => if insens o = true ∨ (es' = es ∧ ∀ e1 ∈ er.take (er.length - lo), opL P E GL e1 o = some (d, e1)) then some d else none
    | none => none

def dsp (b : Bool) (x : Option D) : Option D := if b = true then x else some (.tup [])

def dsG (g : Option Bool) (x : Option D) : Option D :=
  match g with
  | some b => dsp b x
  | none => none

def thD (x : Option D) (t : Option Tmp) (l : Fr) (k : Fr → Option Out) : Option Out :=
  match x with
  | some d => k (setO l t d)
  | none => none

def thC (x : Option Out) (k : Fr → Sto → Option Out) : Option Out :=
  match x with
  | some (.normal, l, es) => k l es
  | _ => none

noncomputable def evDraw (P : Program) (GL : Nat → D) (C : Orc) (ops : Array Oper) : List (Oper × Nat × Bool) → List Sto → Fr → Option Out
  | [], e :: _, l => some (.normal, l, e)
  | [], [], _ => none
  | _ :: _, [], _ => none
  | (o, lo, true) :: rest, e :: er, l => thC (stG (guardD ops (ofL l) o.guard) (exOp P GL C [] (ofL l) e o) o.dst l e) (fun l' e' => evDraw P GL C ops rest (e' :: e :: er) l')
  | (o, lo, false) :: rest, e :: er, l => thD (dsG (guardD ops (ofL l) o.guard) (drOp P GL C lo (ofL l) e er o)) o.dst l (evDraw P GL C ops rest (e :: er))

def tidyR (ks : List Nat) : Option (List Nat × List D × Sto) → Option (Fr × Sto)
  | some (_, ds, es) => some (ks.zip ds, es)
  | none => none
def tidy (m0 : Nat) (ks : List Nat) (l : Fr) (es : Sto) : Option (Fr × Sto) := tidyR ks (gcA m0 (ks.map (ofL l)) es)

def tidyK (m0 : Nat) (o : Option (List Nat)) (l : Fr) (es : Sto) : Option (Fr × Sto) :=
  match o with
  | some ks => tidy m0 ks l es
  | none => some (l, es)

def thT (x : Option (Fr × Sto)) (k : Fr → Sto → Option Out) : Option Out :=
  match x with
  | some (l, es) => k l es
  | none => none

open Classical in
/-- the second order comes to the same, after a tidy by the slots that are kept, if any are told -/
noncomputable def agr (m0 : Nat) (o : Option (List Nat)) (y : Option Out) (l : Fr) (es : Sto) : Option Out :=
  thT (tidyK m0 o l es) fun l1 e1 => thC y fun l2 e2 => thT (tidyK m0 o l2 e2) fun l3 e3 => if l1 = l3 ∧ e1 = e3 then some (.normal, l1, e1) else none

/-- a region that draws its order; two operations of it may be free: then in both orders -/
noncomputable def evTwo (P : Program) (GL : Nat → D) (C : Orc) (ops : Array Oper) (m0 : Nat) (o : Option (List Nat)) (plan : Plan) (p2 : Option Plan) (l : Fr) (es : Sto) : Option Out :=
  match p2 with
  | none => evDraw P GL C ops (planOps ops plan) [es] l
  | some [] => none
  | some (_ :: p2) => thC (evDraw P GL C ops (planOps ops plan) [es] l) (agr m0 o (evDraw P GL C ops (planOps ops p2) [es] l))

def twoOk (n : Nat) (ops : Array Oper) (plan : Plan) (p2 : Option Plan) : Bool :=
  match p2 with
  | none => planOk n ops plan
  | some [] => false
  | some ((i, j, _) :: p2) => i != j && decide (i < ops.size) && decide (j < ops.size) && planOk n (addEdge ops j i) plan && planOk n (addEdge ops i j) p2

def panC (x : Option Out) (k : Option Out) : Option Out :=
  match x with
  | some (.pan d, _, es) => some (.pan d, [], es)
  | some (.normal, _, _) => k
  | _ => none
def panX (P : Program) (GL : Nat → D) (C : Orc) (ops : Array Oper) (o : Option Oper) (l : Fr) (es : Sto) (k : Option Out) : Option Out :=
  match o with
  | some o => panC (stG (guardD ops (ofL l) o.guard) (exOp P GL C [] (ofL l) es o) o.dst l es) k
  | none => none
/-- does one operation panic, behind those that stand ahead of it? -/
noncomputable def evPan (P : Program) (GL : Nat → D) (C : Orc) (ops : Array Oper) (p : Option Plan) (l : Fr) (es : Sto) (k : Option Out) : Option Out :=
  match p with
  | none => k
  | some [] => none
  | some ((i, _, _) :: pre) => thC (evDraw P GL C ops (planOps ops pre) [es] l) fun l1 e1 => panX P GL C ops ops[i]? l1 e1 k
def panOkO (n : Nat) (ops : Array Oper) : Option Plan → Bool
  | none => true
  | some [] => false
  | some ((i, _, _) :: pre) => panOk n ops i pre
/-- a region that draws its order: does it panic, or not? -/
noncomputable def evAll (P : Program) (GL : Nat → D) (C : Orc) (ops : Array Oper) (m0 : Nat) (A : Ann) (id : Nat) (plan : Plan) (l : Fr) (es : Sto) : Option Out :=
  evPan P GL C ops (look A.plan (4000000 + id)) l es (evPan P GL C ops (look A.plan (5000000 + id)) l es (evTwo P GL C ops m0 (look A.keep (2000000 + id)) plan (look A.plan (1000000 + id)) l es))
def allOk (n : Nat) (ops : Array Oper) (A : Ann) (id : Nat) (plan : Plan) : Bool :=
  twoOk n ops plan (look A.plan (1000000 + id)) && panOkO n ops (look A.plan (4000000 + id)) && panOkO n ops (look A.plan (5000000 + id))

def hasB (acc : List Nat) (i : Nat) : Bool := acc.contains i

/-- from here on, what slots lead to is written no more -/
def frzL (acc : List Nat) (l : Fr) (es : Sto) : Fr × Sto := (l.map (fun x => (x.1, frzN es (hasB acc) 20 x.2)), frzSto es (hasB acc) 20)

def frzK (o : Option (List Nat)) (l : Fr) (es : Sto) : Option Out :=
  match o with
  | none => some (.normal, l, es)
  | some ks => some (.normal, frzL (reach 200 0 es (D.refsL (ks.map (ofL l))) []) l es)

/-- one round, and what follows it -/
def rnd (m0 : Nat) (ks : List Nat) (x : Option Out) (k : Fr → Sto → Option Out) : Option Out :=
  match x with
  | some (.normal, l, es) => thT (tidy m0 ks l es) k
  | o => o

def iter (m0 : Nat) (ks : List Nat) (g : Fr → Sto → Option Out) : Nat → Fr → Sto → Option Out
  | 0, _, _ => none
  | n + 1, l, es => rnd m0 ks (g l es) (iter m0 ks g n)

open Classical in
noncomputable def lim {α : Type} (s : Nat → Option α) : Option α := if h : ∃ n, (s n).isSome = true then s h.choose else none

noncomputable def evL (m0 : Nat) (ks : List Nat) (g : Fr → Sto → Option Out) (l : Fr) (es : Sto) : Option Out := lim fun n => iter m0 ks g n l es

def blk (id : Nat) : Option Out → Option Out
  | some (.exit i, l, es) => if i = id then some (.normal, l, es) else some (.exit i, l, es)
  | o => o

def cnd (d : D) (x y : Fr → Sto → Option Out) (l : Fr) (es : Sto) : Option Out :=
  match d with
  | .sc (.bool t) => if t = true then x l es else y l es
  | _ => none

/-- the label of a scope -/
def labelOf : Code → Option Nat
  | .label l => some l
  | .seq a b => match labelOf a with
    | some l => some l
    | none => labelOf b
  | .block _ c => labelOf c
  | .loop c => labelOf c
  | .cond _ a b => match labelOf a with
    | some l => some l
    | none => labelOf b
  | _ => none

def jmp (m0 : Nat) (lab : Nat) (ks : Option (List Nat)) (x : Option Out) (k : Fr → Sto → Option Out) : Option Out :=
  match x with
  | some (.goto l', l, es) => if l' = lab then thT (tidyK m0 ks l es) k else none
  | o => o

def jumps (m0 : Nat) (lab : Nat) (ks : Option (List Nat)) (g : Fr → Sto → Option Out) : Nat → Fr → Sto → Option Out
  | 0, _, _ => none
  | n + 1, l, es => jmp m0 lab ks (g l es) (jumps m0 lab ks g n)

noncomputable def evJ (m0 : Nat) (lab : Nat) (ks : Option (List Nat)) (g : Fr → Sto → Option Out) (l : Fr) (es : Sto) : Option Out := lim fun n => jumps m0 lab ks g n l es

noncomputable def scp (m0 : Nat) (A : Ann) (c : Code) (rec : Nat → Code → Fr → Sto → Option Out) (x : Option Out) : Option Out :=
  match labelOf c with
  | some lab => match findLabel c lab with
    | some rest => jmp m0 lab (look A.keep (1000000 + lab)) x (evJ m0 lab (look A.keep (1000000 + lab)) (rec m0 rest))
    | none => none
  | none => none

/-- slots are given values -/
def setL : Fr → List Nat → List D → Option Fr
  | l, [], [] => some l
  | l, p :: ps, d :: ds => setL ((p, d) :: l) ps ds
  | _, _, _ => none

/-- one round of a loop over a function, and what follows it -/
def rgS (x : Option Out) (next : Sto → Option Out) (l : Fr) : Option Out :=
  match x with
  | some (.normal, _, es) => next es
  | some (.ret, _, es) => some (.ret, l, es)
  | some (.exit i, _, es) => some (.exit i, l, es)
  | _ => none

/-- a loop over a function: by what that hands on -/
def rgL (m0 : Nat) (ps : List Nat) (k : Nat → Fr → Sto → Option Out) : List (List D) → Fr → Sto → Option Out
  | [], l, es => some (.normal, l, es)
  | ys :: r, l, es => match setL l ps ys with
    | some l1 => rgS (k es.length l1 es) (fun es' => thT (tidy m0 (l.map Prod.fst) l es') (rgL m0 ps k r)) l
    | none => none

/-- a round: what is laid ahead, and the body -/
def rgB (rec : Nat → Code → Fr → Sto → Option Out) (a b : Code) (m : Nat) (l : Fr) (es : Sto) : Option Out := thC (rec m a l es) fun l1 e1 => rec e1.length b l1 e1

def rgO (y : Option (List (List D))) (k : List (List D) → Option Out) : Option Out :=
  match y with
  | some yss => k yss
  | none => none

/-- code; 'rec' for what stands behind a scope's label -/
noncomputable def evR (P : Program) (GL : Nat → D) (C : Orc) (A : Ann) (m0 : Nat) (rec : Nat → Code → Fr → Sto → Option Out) : Code → Fr → Sto → Option Out
  | .skip => fun l es => some (.normal, l, es)
  | .region id ops dr => fun l es => thO (frzK (look A.frzAt (3000000 + id)) l es) fun l es => match dr with
    | true => match look A.plan id with
      | some plan => thO (evAll P GL C ops m0 A id plan l es) (frzK (look A.frzAt id))
      | none => none
    | false => thO (evOps P GL C A.froz ops ops.toList l es) (frzK (look A.frzAt id))
  | .seq a b => fun l es => thO (evR P GL C A m0 rec a l es) (evR P GL C A m0 rec b)
  | .cond c a b => fun l es => cnd (rhoD (ofL l) GL c) (evR P GL C A m0 rec a) (evR P GL C A m0 rec b) l es
  | .block id c => fun l es => blk id (thT (tidyK m0 (look A.keep id) l es) (evR P GL C A m0 rec c))
  | .loop c => fun l es => evL m0 (l.map Prod.fst) (evR P GL C A m0 rec c) l es
  | .exit id => fun l es => some (.exit id, l, es)
  | .scope c => fun l es => scp m0 A c rec (evR P GL C A m0 rec c l es)
  | .label _ => fun l es => some (.normal, l, es)
  | .goto lab => fun l es => some (.goto lab, l, es)
  | .ret => fun l es => some (.ret, l, es)
  | .rangeFunc g ps a b => fun l es => rgO (A.its (rhoD (ofL l) GL g)) fun yss => rgL m0 ps.toList (rgB rec a b) yss l es
  | _ => fun _ _ => none

noncomputable def evC (P : Program) (GL : Nat → D) (C : Orc) (A : Ann) (m0 : Nat) : Code → Fr → Sto → Option Out :=
  evR P GL C A m0 fun m1 => evR P GL C A m1 fun _ _ _ _ => none

/-- code as it may stand in a round of a loop over a function -/
def okRd (n : Nat) (A : Ann) : Code → Bool
  | .skip => true
  | .region id ops true => match look A.plan id with
    | some plan => allOk n ops A id plan && ops.all fun o => match o.op with | .defer _ => false | _ => true
    | none => false
  | .region _ ops false => dstOk n ops && ops.all fun o => match o.op with | .defer _ => false | _ => true
  | .seq a b => okRd n A a && okRd n A b
  | .cond _ a b => okRd n A a && okRd n A b
  | .block _ c => okRd n A c
  | .exit _ => true
  | .ret => true
  | _ => false

/-- the regions that draw their order have plans that hold; the others have slots for what they write -/
def okCode (n : Nat) (A : Ann) : Code → Bool
  | .region id ops true => match look A.plan id with
    | some plan => allOk n ops A id plan
    | none => false
  | .region _ ops false => dstOk n ops
  | .seq a b => okCode n A a && okCode n A b
  | .cond _ a b => okCode n A a && okCode n A b
  | .block _ c => okCode n A c
  | .loop c => okCode n A c
  | .scope c => okCode n A c
  | .rangeFunc _ ps a b => okRd n A a && okRd n A b && ps.all fun p => decide (p < n)
  | _ => true

def argsL : Nat → List D → Fr
  | _, [] => []
  | k, d :: l => (k, d) :: argsL (k + 1) l

def finR (mk : D → R) : Option (List Nat × List D × Sto) → Option (R × Sto)
  | some (_, ds, es) => some (mk (ds.headD .undef), es)
  | none => none

def fromB (m0 i : Nat) : Bool := decide (m0 ≤ i)

/-- what was made, and is handed back, is written no more, where that is said ahead -/
def finF (frz : Bool) (m0 : Nat) (d : D) (es : Sto) : Option (List Nat × List D × Sto) :=
  if frz = true then gcA m0 [(frzN es (fromB m0) 20 d).can] (frzSto es (fromB m0) 20) else gcA m0 [d] es

def finD (frz : Bool) (m0 : Nat) (es : Sto) : Option (List D) → Option (R × Sto)
  | some rs => finR .ret (finF frz m0 (retD rs) es)
  | none => none

/-- behind a panic nobody looks at rows -/
def udR (o : Option En) : Option En := o.map fun e => ⟨e.ver, e.ob.map fun _ => .undef⟩

/-- a row that was handed in, and is handed back grown, or in new memory -/
def cnsE (sz off n : Nat) (i v : Nat) : Option En → Option (R × Sto)
  | some e => if e.ver = v ∧ D.refsL e.ob = [] then some (.ret (.ref 0 1 sz off n), [some ⟨1, e.ob⟩]) else none
  | none => none
def cnsR (m0 : Nat) : Option (R × Sto) → Option (R × Sto)
  | some (.ret (.ref i v sz off n), es) => if m0 = 1 then cnsE sz off n i v (rowOf es i) else some (.ret (.ref i v sz off n), es)
  | x => x
def cnsF (b : Option (List Nat)) (m0 : Nat) (x : Option (R × Sto)) : Option (R × Sto) :=
  match b with
  | some _ => cnsR m0 x
  | none => x

/-- what comes of a body -/
def fin (P : Program) (frz : Bool) (m0 : Nat) (rs : List ResultVar) : Option Out → Option (R × Sto)
  | some (.normal, l, es) => finD frz m0 es (resultsD P (ofL l) (stL es) rs)
  | some (.ret, l, es) => finD frz m0 es (resultsD P (ofL l) (stL es) rs)
  | some (.pan d, _, es) => finR .pan (finF frz m0 d (es.map udR))
  | _ => none

noncomputable def evB (P : Program) (GL : Nat → D) (C : Orc) (A : Ann) (fn : Func) (ds : List D) (es : Sto) : Option (R × Sto) :=
  match fn.body with
  | some c => fin P A.frz es.length fn.results.toList (evC P GL C A es.length c (argsL 0 ds) es)
  | none => none

def okFn (A : Ann) (fn : Func) : Bool :=
  match fn.body with
  | some c => okCode fn.ntmps A c && (fn.name != "runtime.NumGoroutine")
  | none => false

/-- a row that is handed on is the only one, and new -/
def cnsOk (A : Ann) (es : Sto) : Bool :=
  match look A.keep 4000000 with
  | none => true
  | some _ => match es with
    | [] => true
    | [some e] => e.ver == 0
    | _ => false

/-- what a call is handed: slices of nothing all alike; 'nc': functions that see their rows as they are -/
def canO (nc : List Nat) (C : Orc) : Orc := fun f ds es => C f (ds.map D.canA) (if f ∈ nc then es else es.map canRow)

/-- one step towards what calls come to; 'X': what is known of functions beside -/
noncomputable def evStep (P : Program) (GL : Nat → D) (An : FuncId → Ann) (nc : List Nat) (X : Orc) (C : Orc) : Orc := fun f ds es =>
  match X f ds es with
  | some r => some r
  | none => match P.funcs[f]? with
    | some fn => if okFn (An f) fn = true ∧ ds.length ≤ fn.ntmps ∧ cnsOk (An f) es = true then cnsF (look (An f).keep 4000000) es.length (evB P GL (canO nc C) (An f) fn ds es) else none
    | none => none

noncomputable def evK (P : Program) (GL : Nat → D) (An : FuncId → Ann) (nc : List Nat) (X : Orc) : Nat → Orc
  | 0 => fun _ _ _ => none
  | k + 1 => evStep P GL An nc X (evK P GL An nc X k)

/-- WHAT CALLS COME TO -/
noncomputable def ev (P : Program) (GL : Nat → D) (An : FuncId → Ann) (nc : List Nat) (X : Orc) : Orc := fun f ds es => lim fun k => evK P GL An nc X k f ds es

end Go.Bw

/- The evaluator, part 6: what it says of operations is so. -/
namespace Go.Bw
open Go

theorem toL_stL (es : Sto) : toL (stL es) = es := by
  apply List.ext_getElem?
  intro i
  simp only [toL, List.getElem?_map, stL_next]
  rcases Nat.lt_or_ge i es.length with h | h
  · rw [upto_at h]; simp [stL_tab, h]
  · rw [List.getElem?_eq_none (by rw [upto_len]; exact h), List.getElem?_eq_none h]; rfl

theorem stL_toL {g : G} {S : St} {w : World} (h : Sim g S w) : stL (toL S) = S := by
  have hx : stL (toL S) = ⟨(toL S).length, fun i => ((toL S)[i]?).getD none⟩ := rfl
  rw [hx]
  have hl : (toL S).length = S.next := by simp [toL, upto_len]
  rw [hl]
  cases S with
  | mk next tab =>
    simp only [St.mk.injEq, true_and]
    funext i
    simp only [toL, List.getElem?_map]
    rcases Nat.lt_or_ge i next with hi | hi
    · rw [upto_at hi]; rfl
    · rw [List.getElem?_eq_none (by rw [upto_len]; exact hi)]; exact (h.tabs i hi).symm

def SoundO (P : Program) (GL : Nat → D) (C : Orc) : Prop := ∀ f ds es r ts, C f ds es = some (r, ts) → CallT P GL f ds (stL es) (fun r' s => r' = r ∧ s = stL ts)

section
variable {P : Program} {GL : Nat → D} {C : Orc}

theorem callE_sound (hC : SoundO P GL C) {f : FuncId} {ds : List D} {es ts : Sto} {r : R} (h : callE C f ds es = some (r, ts)) : CallT P GL f ds (stL es) (fun r' s => r' = r ∧ s = stL ts) := by
  unfold callE at h
  cases hg : gcA 0 ds es with
  | none => rw [hg] at h; simp [callG] at h
  | some x =>
    obtain ⟨ids, ds', es'⟩ := x
    rw [hg] at h
    simp only [callG] at h
    cases hc : C f ds' es' with
    | none => rw [hc] at h; simp [unpk] at h
    | some y =>
      obtain ⟨r0, ts0⟩ := y
      rw [hc] at h
      simp only [unpk] at h
      split at h
      · rename_i hl
        simp only [Option.some.injEq, Prod.mk.injEq] at h
        obtain ⟨rfl, rfl⟩ := h
        exact (hC f ds' es' r0 ts0 hc).frame hg hl
      · cases h

theorem callV_sound (hC : SoundO P GL C) {fd : D} {ds : List D} {es ts : Sto} {r : R} (h : callV C fd ds es = some (r, ts)) : CallV P GL fd ds (stL es) (fun r' s => r' = r ∧ s = stL ts) := by
  unfold callV at h
  split at h
  · exact callE_sound hC h
  · cases h

theorem CallV.mono {fd : D} {ds : List D} {S : St} {Q Q' : R → St → Prop} (h : CallV P GL fd ds S Q) (hq : ∀ r s, Q r s → Q' r s) : CallV P GL fd ds S Q' := by
  unfold CallV at h ⊢
  split at h
  · exact CallT.mono h hq
  · exact h.elim

def isOut (o : Out) : Post := fun x E S => x = o.1 ∧ E = ofL o.2.1 ∧ S = stL o.2.2

theorem thO_some {x : Option Out} {k : Fr → Sto → Option Out} {o : Out} (h : thO x k = some o) : (∃ l es, x = some (.normal, l, es) ∧ k l es = some o) ∨ (x = some o ∧ o.1 ≠ .normal) := by
  unfold thO at h
  split at h
  · rename_i l es; exact .inl ⟨l, es, rfl, h⟩
  · rename_i hne
    subst h
    refine .inr ⟨rfl, ?_⟩
    obtain ⟨x, l, es⟩ := o
    rintro hx
    simp only at hx
    subst hx
    exact hne l es rfl

theorem opL_some {E : Nat → D} {es es' : Sto} {o : Oper} {d : D} (h : opL P E GL es o = some (d, es')) : ∃ S', opD P E GL (stL es) o = some (d, S') ∧ es' = toL S' := by
  unfold opL at h
  rw [Option.map_eq_some_iff] at h
  obtain ⟨⟨d0, S0⟩, h1, h2⟩ := h
  simp only [Prod.mk.injEq] at h2
  obtain ⟨rfl, rfl⟩ := h2
  exact ⟨S0, h1, rfl⟩

theorem V.mf {g g' : G} : ∀ {d : D} {v : Value}, V g d v → d.mf = true → V g' d v := by
  have up : ∀ (l : List D), D.mfL l = true → ∀ (j : Nat) (d : D), l[j]? = some d → d.mf = true := by
    intro l
    induction l with
    | nil => intro _ j d h; simp at h
    | cons a l ih =>
      intro hm j d h
      simp only [D.mfL, Bool.and_eq_true] at hm
      cases j with
      | zero => simp at h; subst h; exact hm.1
      | succ j => exact ih hm.2 j d (by simpa using h)
  intro d v h
  induction h with
  | sc h => exact fun _ => .sc h
  | nilp => exact fun _ => .nilp
  | ptr h => intro hm; simp [D.mf] at hm
  | rp hm hl _ ih => intro hm; simp [D.mf] at hm
  | nils => exact fun _ => .nils
  | roNil => exact fun _ => .roNil
  | roNone hc he => exact fun _ => .roNone hc he
  | ro hmb hs hl hc hx he _ ih =>
    intro hm
    simp only [D.mf, List.isEmpty_iff] at hm
    subst hm
    exact .roNone hx he
  | ref h hl hx hn => intro hm; simp [D.mf] at hm
  | fn h1 h2 _ _ ih1 ih2 => intro hm; simp only [D.mf, Bool.and_eq_true] at hm; exact .fn h1 h2 (fun j d hd => ih1 j d hd (up _ hm.1 j d hd)) (fun j d hd => ih2 j d hd (up _ hm.2 j d hd))
  | nilfn => exact fun _ => .nilfn
  | ifc _ ih => intro hm; exact .ifc (ih (by simpa [D.mf] using hm))
  | nilifc => exact fun _ => .nilifc
  | mp hmb h1 h2 h3 _ _ ih1 ih2 => intro hm; simp [D.mf] at hm
  | agg hl _ ih => intro hm; exact .agg hl fun j d hd => ih j d hd (up _ (by simpa [D.mf] using hm) j d hd)
  | tup hl _ ih => intro hm; exact .tup hl fun j d hd => ih j d hd (up _ (by simpa [D.mf] using hm) j d hd)
  | undef => exact fun _ => .undef

open Classical in
/-- rows were but read: they stay rows -/
theorem back_frz {g g2 : G} {es : Sto} {w w2 : World} {S2 : St} (hs : Sim g (stL es) w) (k : Keep (g.frz w es allF) g2 w w2) (h2 : Sim g2 S2 w2) : ∃ g3, Keep g g3 w w2 ∧ Sim g3 (stL es) w2 := by
  let cur : Nat → Prop := fun b => ∃ i e n, rowOf es i = some e ∧ g.r i e.ver = some (b, n)
  have hcur : ∀ b, cur b → ∃ i e n, allF i = true ∧ rowOf es i = some e ∧ g.r i e.ver = some (b, n) := fun b ⟨i, e, n, q1, q2⟩ => ⟨i, e, n, rfl, q1, q2⟩
  have hm : ∀ b, cur b → (g.frz w es allF).m b = w.heap[b]? := fun b hb => by simp only [G.frz]; rw [if_pos (hcur b hb)]
  have hm' : ∀ b, ¬ cur b → (g.frz w es allF).m b = g.m b := fun b hb => by
    simp only [G.frz]; rw [if_neg]
    rintro ⟨i, e, n, -, q1, q2⟩
    exact hb ⟨i, e, n, q1, q2⟩
  have hnot : ∀ b o, g.m b = some o → ¬ cur b := fun b o hb ⟨i, e, n, q1, q2⟩ => by
    obtain ⟨b', n', c, t, fz, a1, a2, a3, a4, a5, a6, a7⟩ := hs.sto i e q1
    rw [q2] at a1
    simp only [Option.some.injEq, Prod.mk.injEq] at a1
    obtain ⟨rfl, rfl⟩ := a1
    rw [hb] at a5; cases a5
  have hle : g.le ⟨fun b => if cur b then none else g2.m b, g.r⟩ := ⟨fun b o hb => by
    simp only
    rw [if_neg (hnot b o hb)]
    exact k.le.m b o (by rw [hm' b (hnot b o hb)]; exact hb), fun _ _ _ h => h⟩
  refine ⟨⟨fun b => if cur b then none else g2.m b, g.r⟩, ⟨hle, k.size, fun b hb hn => k.old b hb hn, fun b o hb => ?_, fun i v b n hr => .inr ⟨i, v, n, hr⟩, k.os, k.tape, k.output⟩, ?_⟩
  · simp only at hb
    split at hb
    · cases hb
    · rename_i hc
      rcases k.newm b o hb with q | q | ⟨i, v, n, q⟩
      · rw [hm' b hc] at q; exact .inl q
      · exact .inr (.inl q)
      · exact .inr (.inr ⟨i, v, n, q⟩)
  · refine ⟨fun b o hb => ?_, fun i e he => ?_, hs.inj, hs.fresh, hs.tabs, hs.later, fun i v b n hr => Nat.lt_of_lt_of_le (hs.inb i v b n hr) k.size⟩
    · simp only at hb
      split at hb
      · cases hb
      · exact h2.imm b o hb
    · obtain ⟨b, n, c, t, fz, a1, a2, a3, a4, a5, a6, a7⟩ := hs.sto i e he
      have hc : cur b := ⟨i, e, n, he, a1⟩
      refine ⟨b, n, c, t, fz, a1, h2.imm b _ (k.le.m b _ (by rw [hm b hc]; exact a2)), a3, a4, by simp only; rw [if_pos hc], a6, fun j d hd => (a7 j d hd).mono hle⟩

theorem exec_invoke {o : Oper} {recv : Operand} {name : String} {args : Array Operand} {ats : Array TypeId} {a : Act} {t : TypeId} {v : Value} {fi : FuncId} {w : World} (hop : o.op = .call ⟨.invoke recv name, args, ats⟩) (hv : a.eval recv = .iface t v) (hm : metD P t name = some fi) (hg : goFn P fi = true) :
    (execOp a.eval o).run P w = .ok (.enter fi (#[v] ++ (args.toList.map a.eval).toArray)) w := by
  unfold metD at hm
  split at hm
  · rename_i i hi
    split at hm
    · rename_i m hf
      split at hm
      · rename_i f e hp hfu hu
        simp only [Option.some.injEq] at hm
        subst hm
        unfold goFn at hg
        split at hg
        · rename_i fn hfn
          simp only [Bool.and_eq_true, bne_iff_ne, ne_eq] at hg
          have hb : fn.body.isNone = false := by have := hg.2; cases hh : fn.body <;> simp_all
          have h1 : (fn.name == "runtime.NumGoroutine") = false := by simpa using hg.1
          have ee : (args.toList.map a.eval).toArray = args.map a.eval := by apply Array.ext'; simp
          have hx : (#[Value.iface t v] ++ args.map a.eval).extract 1 (#[Value.iface t v] ++ args.map a.eval).size = args.map a.eval := by
            apply Array.ext'; simp [List.take_of_length_le]
          have hd0 : 0 < Made.depth := by decide
          obtain ⟨k, hk⟩ : ∃ k, P.types.size + Made.depth = k + 1 := ⟨P.types.size + (Made.depth - 1), by omega⟩
          have h0 : (#[Value.iface t v] ++ args.map a.eval)[0]? = some (.iface t v) := by rw [Array.getElem?_append_left (by simp)]; rfl
          rw [ee]
          simp only [execOp, hop, resolve, hv, Sem.run_bind, Sem.run_pure, Result.andThen_ok, invoke, h0, callMethod, run_program, hk, method, typeInfo, hi, hf, hp, follow, hfu, receiverAt, underlying_runs hu, Place.get, hx, callFunc, hfn]
          simp [h1, hb]
        · cases hg
      · cases hm
    · cases hm
  · cases hm
/-- one operation -/
theorem exOp_wp (hC : SoundO P GL C) {n mb : Nat} {Q : Post} {fz : List Nat} {g0 g : G} {w0 w : World} {a : Act} {o : Oper} {E : Nat → D} {es es' : Sto} {r : R} {next : Act → World → Prop} (hk : Keep g0 g w0 w) (h : exOp P GL C fz E es o = some (r, es')) (hs : Sim g (stL es) w) (he : Env g E a) (hg : Glob g GL)
    (hn : a.tmps.size = n) (hd : Mk mb g w a.defers) (hnext : ∀ g' w' d v, r = .ret d → Keep g0 g' w0 w' → Keep g g' w w' → Sim g' (stL es') w' → V g' d v → next (a.put o.dst v) w') (hkp : ∀ d, r = .pan d → Q (.pan d) E (stL es')) : o.wp P a w next (Lift n mb g0 w0 Q) := by
  unfold exOp at h
  split at h
  · rename_i f args hc
    unfold callB at h
    split at h
    · -- rows are but read
      obtain ⟨s1, k1⟩ := hs.frz (F := allF) 20
      have he1 : Env (g.frz w es allF) (fun t => frzN es allF 20 (E t)) a := fun t => V.frz hs 20 (he t)
      have hrho : ∀ x, frzN es allF 20 (rhoD E GL x) = rhoD (fun t => frzN es allF 20 (E t)) (fun i => frzN es allF 20 (GL i)) x ∨ (∃ v, x = .const v) ∨ ∃ i, x = .func i := fun x => by
        cases x with
        | tmp t => exact .inl rfl
        | const v => exact .inr (.inl ⟨v, rfl⟩)
        | global i => exact .inl rfl
        | func i => exact .inr (.inr ⟨i, rfl⟩)
      cases hcall : callV C (frzN es allF 20 (rhoD E GL f)) ((args.map (rhoD E GL)).map (frzN es allF 20)) (frzSto es allF 20) with
      | none => rw [hcall] at h; simp [brwR] at h
      | some y =>
      obtain ⟨r1, es1⟩ := y
      rw [hcall] at h
      cases r1 with
      | pan d => simp [brwR] at h
      | ret d =>
      simp only [brwR] at h
      split at h
      · rename_i hmf
        simp only [Option.some.injEq, Prod.mk.injEq] at h
        obtain ⟨rfl, rfl⟩ := h
        have hV : ∀ x, V (g.frz w es allF) (frzN es allF 20 (rhoD E GL x)) (a.eval x) := fun x => V.frz hs 20 (rho_V he hg x)
        have hcs := callV_sound hC hcall
        have hfv := hV f
        unfold CallV at hcs
        split at hcs
        · rename_i fi first caps hfd
          rw [hfd] at hfv
          cases hev : a.eval f with
          | func fn vs us =>
            rw [hev] at hfv
            cases hfv with
            | fn h1 h2 p1 p2 =>
              unfold Oper.wp
              rw [exec_call hc hev hcs.1, Oper.upon_enter]
              have hargs : VL (g.frz w es allF) ((args.map (rhoD E GL)).map (frzN es allF 20)) (args.map a.eval).toArray := by
                refine ⟨by simp, fun j d hd => ?_⟩
                simp only [List.map_map, List.getElem?_map, Option.map_eq_some_iff] at hd
                obtain ⟨x, hx, rfl⟩ := hd
                have : ((args.map a.eval).toArray).getD j undef = a.eval x := by simp [Array.getD_eq_getD_getElem?, hx]
                rw [this]; exact hV x
              refine (hcs.2 (g.frz w es allF) w _ s1 (VL_append (VL_append ⟨h1, p1⟩ hargs) ⟨h2, p2⟩) (hg.mono k1.le)).mono fun e w' ⟨g', S', l1, l2, l3⟩ => ?_
              cases e with
              | returned v =>
                obtain ⟨d', q1, q2, q3⟩ := l3
                simp only [R.ret.injEq] at q2
                subst q2
                obtain ⟨g3, z1, z2⟩ := back_frz hs l1 l2
                exact hnext g3 w' d' v rfl (hk.trans z1) z1 z2 (q1.mf hmf)
              | panicked c => obtain ⟨v, d', q1, q2, q3, q4⟩ := l3; cases q3
              | outgrown => exact l3.elim
          | _ => rw [hev] at hfv; cases hfv
        · exact hcs.elim
      · cases h
    · refine opT_wp (K := fun d S' => r = .ret d ∧ S' = stL es') (Kp := fun d S' => r = .pan d ∧ S' = stL es') hk ?_ hs he hg hn hd (fun g' S' w' d v k1 k2 k3 k4 k5 => ?_) (fun d S' k => ?_)
      · unfold opT
        simp only [hc]
        exact (callV_sound hC h).mono fun r' s hh => by
          obtain ⟨rfl, rfl⟩ := hh
          cases r' with
          | ret d => exact ⟨rfl, rfl⟩
          | pan d => exact ⟨rfl, rfl⟩
      · obtain ⟨rfl, rfl⟩ := k5; exact hnext g' w' d v rfl k1 k2 k3 k4
      · obtain ⟨rfl, rfl⟩ := k; exact hkp d rfl
  · rename_i hc
    split at h
    · -- a panic
      rename_i x hpo
      have hop : o.op = .panic x := by
        unfold panicOf at hpo
        split at hpo
        · rename_i y hy; simp only [Option.some.injEq] at hpo; subst hpo; exact hy
        · cases hpo
      unfold panR at h
      split at h
      · rename_i t d hd'
        simp only [Option.some.injEq, Prod.mk.injEq] at h
        obtain ⟨rfl, rfl⟩ := h
        have hv := rho_V he hg x
        rw [hd'] at hv
        obtain ⟨v', hx'⟩ : ∃ v', a.eval x = .iface t v' := by
          generalize a.eval x = y at hv
          cases hv with | ifc h => exact ⟨_, rfl⟩
        unfold Oper.wp
        have hrun : (execOp a.eval o).run P w = .halt (.panic (a.eval x)) w := by
          simp only [execOp, hop, hx', Instr.panic, goPanic, Sem.run_bind]; rfl
        rw [hrun]
        show Lift n mb g0 w0 Q (.panic [{ v := a.eval x, recovered := false }]) a w
        exact ⟨g, E, _, .pan (.ifc t d), hk, hs, he, hn, hd, ⟨_, rfl, hv⟩, hkp _ rfl⟩
      · cases h
    · split at h
      · rename_i x hfz
        split at h
        · rename_i hone
          simp only [Option.some.injEq, Prod.mk.injEq] at h
          obtain ⟨rfl, rfl⟩ := h
          unfold frozenOf at hfz
          split at hfz
          · rename_i t y t' hop hdst
            split at hfz
            · simp only [Option.some.injEq] at hfz
              subst hfz
              obtain ⟨g', w', nx, q1, q2, q3, q4⟩ := DoesN.of (boxF_does (P := P) (t := t) hs (rho_V he hg y) hone)
              unfold Oper.wp
              have e : execOp a.eval o = (do pure (Next.value (← Instr.box t (a.eval y)))) := by unfold execOp; simp only [hop]
              rw [e, q1]
              rcases q2 with ⟨v, rfl, hv⟩ | ⟨rfl, hh⟩
              · rw [Oper.upon_value]; exact hnext g' w' _ v rfl (hk.trans q4) q4 q3 hv
              · cases hh
            · cases hfz
          · cases hfz
        · cases h
      · split at h
        · rename_i y how
          unfold ownOp at how
          split at how
          · rename_i t k pa tm hop hdst
            split at how
            · simp only [Option.some.injEq] at how
              subst how
              cases hb : bsRowD P (stL es) t k (pa.toList.map fun p => (p.1, rhoD E GL p.2)) with
              | none => rw [hb] at h; simp [rOf] at h
              | some x =>
                obtain ⟨d, S'⟩ := x
                rw [hb] at h
                simp only [Option.map_some, rOf, Option.some.injEq, Prod.mk.injEq] at h
                obtain ⟨rfl, rfl⟩ := h
                obtain ⟨g', w', v, q1, hv, q3, q4⟩ := bsRow_does (P := P) (rhoD E GL) a.eval hb hs (fun p _ => rho_V he hg _)
                have q2 : (do pure (Next.value (← Instr.buildSlice t k (pa.map fun p => (p.1, a.eval p.2)))) : Sem Next).run P w = .ok (.value v) w' := by simp [q1]
                unfold Oper.wp
                have e : execOp a.eval o = (do pure (Next.value (← Instr.buildSlice t k (pa.map fun p => (p.1, a.eval p.2))))) := by unfold execOp; simp only [hop]
                rw [e, q2, Oper.upon_value]
                exact hnext g' w' _ v rfl (hk.trans q4) q4 (by rw [stL_toL q3]; exact q3) hv
            · cases how
          · rename_i s t x tm hop hdst
            split at how
            · simp only [Option.some.injEq] at how
              subst how
              cases hb : cvRowD P (stL es) s t (rhoD E GL x) with
              | none => rw [hb] at h; simp [rOf] at h
              | some d =>
                rw [hb] at h
                simp only [Option.map_some, rOf, Option.some.injEq, Prod.mk.injEq] at h
                obtain ⟨rfl, rfl⟩ := h
                obtain ⟨g', w', v, q1, hv, q3, q4⟩ := cvRow_does (P := P) hb hs (rho_V he hg x)
                have q2 : (do pure (Next.value (← convert s t (a.eval x))) : Sem Next).run P w = .ok (.value v) w' := by simp [q1]
                unfold Oper.wp
                have e : execOp a.eval o = (do pure (Next.value (← convert s t (a.eval x)))) := by unfold execOp; simp only [hop]
                rw [e, q2, Oper.upon_value]
                exact hnext g' w' _ v rfl (hk.trans q4) q4 q3 hv
            · cases how
          · rename_i recv name args ats tm hop hdst
            split at how
            · simp only [Option.some.injEq] at how
              subst how
              unfold invD at h
              split at h
              · rename_i t d hrd
                split at h
                · rename_i fi hm
                  cases hce : callE C fi (d :: args.toList.map (rhoD E GL)) es with
                  | none => rw [hce] at h; cases h
                  | some y =>
                    obtain ⟨r1, es1⟩ := y
                    rw [hce] at h
                    cases r1 with
                    | pan d1 => cases h
                    | ret d1 =>
                      simp only [retR, Option.some.injEq, Prod.mk.injEq] at h
                      obtain ⟨rfl, rfl⟩ := h
                      have hcs := callE_sound hC hce
                      have hrv := rho_V he hg recv
                      rw [hrd] at hrv
                      obtain ⟨v, hv1, hv2⟩ : ∃ v, a.eval recv = .iface t v ∧ V g d v := by
                        generalize a.eval recv = y at hrv
                        cases hrv with | ifc h => exact ⟨_, rfl, h⟩
                      unfold Oper.wp
                      rw [exec_invoke hop hv1 hm hcs.1, Oper.upon_enter]
                      have hargs : VL g (d :: args.toList.map (rhoD E GL)) (#[v] ++ (args.toList.map a.eval).toArray) := by
                        refine ⟨by simp, fun j dj hd => ?_⟩
                        cases j with
                        | zero => simp only [List.getElem?_cons_zero, Option.some.injEq] at hd; subst hd; simpa [Array.getD_eq_getD_getElem?] using hv2
                        | succ j =>
                          simp only [List.getElem?_cons_succ, List.getElem?_map, Option.map_eq_some_iff] at hd
                          obtain ⟨x, hx, rfl⟩ := hd
                          have : (#[v] ++ (args.toList.map a.eval).toArray).getD (j + 1) undef = a.eval x := by
                            rw [Array.getD_eq_getD_getElem?, Array.getElem?_append_right (by simp)]
                            simp [hx]
                          rw [this]; exact rho_V he hg x
                      refine (hcs.2 g w _ hs hargs hg).mono fun e w' ⟨g', S', l1, l2, l3⟩ => ?_
                      cases e with
                      | returned v' =>
                        obtain ⟨d', q1, q2, q3⟩ := l3
                        simp only [R.ret.injEq] at q2
                        subst q2 q3
                        exact hnext g' w' d' v' rfl (hk.trans l1) l1 l2 q1
                      | panicked c => obtain ⟨v', d', q1, q2, q3, q4⟩ := l3; cases q3
                      | outgrown => exact l3.elim
                · cases h
              · cases h
            · cases how
          · cases how
        unfold rOf at h
        split at h
        · rename_i d0 e0 hop
          simp only [Option.some.injEq, Prod.mk.injEq] at h
          obtain ⟨rfl, rfl⟩ := h
          obtain ⟨S', h1, rfl⟩ := opL_some hop
          refine opT_wp (K := fun d S1 => d = d0 ∧ S1 = S') (Kp := fun _ _ => False) hk ?_ hs he hg hn hd (fun g' S1 w' d v k1 k2 k3 k4 k5 => ?_) (fun d S' k => k.elim)
          · unfold opT; simp only [hc, h1, and_self]
          · obtain ⟨rfl, rfl⟩ := k5
            exact hnext g' w' d v rfl k1 k2 (by rw [stL_toL k3]; exact k3) k4
        · cases h

theorem evOps_wp (hC : SoundO P GL C) {n mb : Nat} {fz : List Nat} {ops : Array Oper} (hdst : dstOk n ops = true) {g0 : G} {w0 : World} {out : Out} : ∀ (rest : List Oper) (k : Nat), ops.toList.drop k = rest → ∀ (l : Fr) (es : Sto) (g : G) (a : Act) (w : World), Keep g0 g w0 w →
    evOps P GL C fz ops rest l es = some out → Sim g (stL es) w → Env g (ofL l) a → Glob g GL → a.tmps.size = n → Mk mb g w a.defers → wpOps P ops (Lift n mb g0 w0 (isOut out)) (List.range' k rest.length) a w
  | [], k, _, l, es, g, a, w, hk, h, hs, he, hg, hn, hd => by
    simp only [evOps, Option.some.injEq] at h
    subst h
    exact ⟨g, _, _, .normal, hk, hs, he, hn, hd, trivial, rfl, rfl, rfl⟩
  | o :: rest, k, hl, l, es, g, a, w, hk, h, hs, he, hg, hn, hd => by
    have ho : ops[k]? = some o := by
      have : (ops.toList.drop k)[0]? = some o := by rw [hl]; rfl
      rw [List.getElem?_drop] at this
      simpa using this
    have hl' : ops.toList.drop (k + 1) = rest := by
      rw [← List.drop_drop, hl]; rfl
    have hmem : o ∈ ops := Array.mem_of_getElem? ho
    have hdo : ∀ t, o.dst = some t → t < a.tmps.size := by
      intro t ht
      unfold dstOk at hdst
      rw [Array.all_eq_true_iff_forall_mem] at hdst
      have := hdst o hmem
      rw [ht] at this
      simpa [hn] using this
    have hnext : ∀ g' es' w' d v, Keep g0 g' w0 w' → Keep g g' w w' → Sim g' (stL es') w' → V g' d v → evOps P GL C fz ops rest (setO l o.dst d) es' = some out →
        wpOps P ops (Lift n mb g0 w0 (isOut out)) (List.range' (k + 1) rest.length) (a.put o.dst v) w' := fun g' es' w' d v k1 k2 k3 k4 k5 =>
      evOps_wp hC hdst rest (k + 1) hl' _ _ g' _ w' k1 k5 k3 (by rw [ofL_setO]; exact (he.mono k2.le).put k4 hdo) (hg.mono k2.le) (by rw [put_size]; exact hn) (by rw [put_defers]; exact hd.keep k2)
    simp only [List.length_cons, List.range'_succ, wpOps, ho]
    rw [evOps] at h
    unfold stG at h
    cases hgd : guardD ops (ofL l) o.guard with
    | none => rw [hgd] at h; simp [thO] at h
    | some b =>
      rw [hgd] at h
      simp only [stp] at h
      cases b with
      | true =>
        rw [if_pos (guard_wanted he hgd)]
        simp only [if_true] at h
        cases hex : exOp P GL C fz (ofL l) es o with
        | none => rw [hex] at h; simp [thO] at h
        | some x =>
          obtain ⟨r, es'⟩ := x
          rw [hex] at h
          refine .inl (exOp_wp hC hk hex hs he hg hn hd (fun g' w' d v hr k1 k2 k3 k4 => ?_) (fun d hr => ?_))
          · subst hr; exact hnext g' es' w' d v k1 k2 k3 k4 (by simpa [thO] using h)
          · subst hr
            simp only [thO, Option.some.injEq] at h
            subst h
            exact ⟨rfl, rfl, rfl⟩
      | false =>
        have hw : ¬ Region.wanted o (yielded ops a.tmps) = true := by rw [guard_wanted he hgd]; simp
        rw [if_neg hw]
        simp only [Bool.false_eq_true, if_false] at h
        exact hnext g es w (.tup []) undef hk (.refl _ _) hs (V_tup0 g) (by simpa [thO] using h)


/-- a region that draws its order: what the evaluator finds holds in any order -/
theorem evDraw_L (hC : SoundO P GL C) (hst : ∀ (E : Nat → D) (es : Sto) (o : Oper) (d : D) (S' : St), opD P E GL (stL es) o = some (d, S') → stL (toL S') = S') {ops : Array Oper} {out : Out} : ∀ (plan : List (Oper × Nat × Bool)) (Ss : List Sto) (l : Fr), evDraw P GL C ops plan Ss l = some out →
    drawL P GL ops plan (Ss.map stL) (ofL l) (fun E S => isOut out .normal E S)
  | [], Ss, l, h => by
    cases Ss with
    | nil => simp [evDraw] at h
    | cons S Sr =>
      simp only [evDraw, Option.some.injEq] at h
      subst h
      exact ⟨rfl, rfl, rfl⟩
  | (o, lo, ch) :: rest, Ss, l, h => by
    cases Ss with
    | nil => cases ch <;> simp [evDraw] at h
    | cons S Sr =>
      cases ch with
      | true =>
        simp only [evDraw, stG] at h
        cases hgd : guardD ops (ofL l) o.guard with
        | none => rw [hgd] at h; simp [thC] at h
        | some b =>
          rw [hgd] at h
          simp only [stp] at h
          cases b with
          | false =>
            simp only [Bool.false_eq_true, if_false, thC] at h
            unfold drawL
            simp only [List.map_cons, hgd, if_true]
            have := evDraw_L hC hst rest _ _ h
            rw [ofL_setO] at this
            exact this
          | true =>
            simp only [if_true] at h
            cases hex : exOp P GL C [] (ofL l) S o with
            | none => rw [hex] at h; simp [thC] at h
            | some x =>
              obtain ⟨r, es'⟩ := x
              rw [hex] at h
              cases r with
              | pan d => simp [thC] at h
              | ret d =>
                simp only [thC] at h
                have ih := evDraw_L hC hst rest _ _ h
                rw [ofL_setO] at ih
                unfold exOp at hex
                unfold drawL
                simp only [List.map_cons, hgd, if_true]
                cases hc : calleeOf o with
                | some fa =>
                  obtain ⟨f, args⟩ := fa
                  rw [hc] at hex
                  simp only [brw, callB, Bool.false_eq_true, if_false] at hex ⊢
                  refine ⟨d, stL es', ?_, .inl trivial, ih⟩
                  unfold Call1
                  exact callV_sound hC hex
                | none =>
                  rw [hc] at hex
                  simp only at hex ⊢
                  split at hex
                  · unfold panR at hex
                    split at hex <;> simp at hex
                  split at hex
                  · rename_i x hfz
                    unfold frozenOf at hfz
                    split at hfz
                    · rename_i hh _; simp at hfz
                    · cases hfz
                  · rw [ownOp_nil] at hex
                    simp only at hex
                    unfold rOf at hex
                    split at hex
                    · rename_i d0 e0 hop
                      simp only [Option.some.injEq, Prod.mk.injEq, R.ret.injEq] at hex
                      obtain ⟨rfl, rfl⟩ := hex
                      obtain ⟨S', h1, rfl⟩ := opL_some hop
                      rw [h1]
                      have e := hst _ _ _ _ _ h1
                      simp only [List.map_cons, e] at ih
                      exact ⟨.inl trivial, ih⟩
                    · cases hex
      | false =>
        simp only [evDraw, dsG] at h
        cases hgd : guardD ops (ofL l) o.guard with
        | none => rw [hgd] at h; simp [thD] at h
        | some b =>
          rw [hgd] at h
          simp only [dsp] at h
          cases b with
          | false =>
            simp only [Bool.false_eq_true, if_false, thD] at h
            unfold drawL
            simp only [List.map_cons, hgd, Bool.false_eq_true, if_false]
            have := evDraw_L hC hst rest _ _ h
            rw [ofL_setO] at this
            exact this
          | true =>
            simp only [if_true] at h
            cases hdr : drOp P GL C lo (ofL l) S Sr o with
            | none => rw [hdr] at h; simp [thD] at h
            | some d =>
              rw [hdr] at h
              simp only [thD] at h
              have ih := evDraw_L hC hst rest _ _ h
              rw [ofL_setO] at ih
              unfold drOp at hdr
              unfold drawL
              simp only [List.map_cons, hgd, Bool.false_eq_true, if_false, List.length_map, ← List.map_take, List.mem_map, forall_exists_index, and_imp, forall_apply_eq_imp_iff₂]
              cases hc : calleeOf o with
              | some fa =>
                obtain ⟨f, args⟩ := fa
                rw [hc] at hdr
                simp only at hdr ⊢
                split at hdr
                · rename_i d0 e0 hcv
                  split at hdr
                  · rename_i hcond
                    simp only [Option.some.injEq] at hdr
                    subst hdr
                    obtain ⟨rfl, hall⟩ := hcond
                    refine ⟨d0, stL e0, by unfold Call1; exact callV_sound hC hcv, .inr ⟨rfl, fun S1 hS1 => ?_⟩, ih⟩
                    unfold Call1
                    exact callV_sound hC (hall S1 hS1)
                  · cases hdr
                · cases hdr
              | none =>
                rw [hc] at hdr
                simp only at hdr ⊢
                split at hdr
                · rename_i d0 e0 hop
                  split at hdr
                  · rename_i hcond
                    simp only [Option.some.injEq] at hdr
                    subst hdr
                    obtain ⟨S', h1, rfl⟩ := opL_some hop
                    rw [h1]
                    refine ⟨.inr (hcond.imp id fun ⟨q1, q2⟩ => ?_), ih⟩
                    have e := hst _ _ _ _ _ h1
                    rw [q1] at e
                    refine ⟨e.symm, fun S1 hS1 => ?_⟩
                    obtain ⟨S2, p1, p2⟩ := opL_some (q2 S1 hS1)
                    have e2 := hst _ _ _ _ _ p1
                    rw [← p2] at e2
                    rw [p1, e2]
                  · cases hdr
                · cases hdr
end
end Go.Bw

/- The evaluator, part 6r: operations in a round of a loop over a function. -/
namespace Go.Bw
open Go

@[reducible] def plainOp (o : Oper) : Bool := match o.op with | .defer _ => false | _ => true
@[reducible] def plainOps (ops : Array Oper) : Bool := ops.all plainOp

abbrev FR (l : Nat) : Fence := Fence.wide.inRound l

section
variable {P : Program} {l : Nat}

theorem calls_round {f : FuncId} {args : Array Value} {w : World} {n : Nat} {R : Ending → World → Prop} (h : Calls P f args w R) : CallsIn (FR l) n P f args w R :=
  (callsIn_wide (n := n)).2 h

theorem rows_round {row : String} {args : Array Value} {w : World} {n : Nat} {R : Value → World → Prop} (h : Rows P row args w R) : RowsIn (FR l) n P row args w R :=
  fun c cs _ => by
    obtain ⟨v, w', h1, h2⟩ := h c cs
    exact ⟨v, w', h1, stepsIn_wide.2 h2⟩

theorem op_round {o : Oper} {a : Act} {w : World} {next : Act → World → Prop} {Q : Exit → Act → World → Prop} (hp : plainOp o = true) (h : o.wp P a w next Q) : o.wpIn (FR l) 0 P a w next Q := by
  refine ⟨fun _ _ => trivial, ?_⟩
  have hs : o.semAt (FR l).round a.eval = execOp a.eval o := Oper.semAt_eq _ _ _ (fun c hc => by unfold plainOp at hp; rw [hc] at hp; cases hp)
  rw [hs]
  unfold Oper.wp at h
  generalize (execOp a.eval o).run P w = r at *
  cases r with
  | ok nx w' =>
    cases nx <;> simp only [Oper.upon, Oper.uponIn] at h ⊢ <;> first
      | exact h
      | exact ⟨fun hh => by simp [FR, Fence.inRound, Fence.wide] at hh, calls_round h⟩
      | exact ⟨fun hh => by simp [FR, Fence.inRound, Fence.wide] at hh, rows_round h⟩
  | halt hh w' =>
    cases hh <;> simp only [Oper.upon, Oper.uponIn] at h ⊢ <;> exact h

theorem wpOps_round {ops : Array Oper} {Q : Exit → Act → World → Prop} (hp : plainOps ops = true) (hQ : ¬ LetsOut Q) : ∀ (is : List Nat) (a : Act) (w : World), wpOps P ops Q is a w → wpOpsIn (FR l) 0 P ops Q is a w
  | [], a, w, h => h
  | i :: is, a, w, h => by
    simp only [wpOps, wpOpsIn] at h ⊢
    cases ho : ops[i]? with
    | none => rw [ho] at h; simp only at h ⊢; exact wpOps_round hp hQ is a w h
    | some o =>
      rw [ho] at h
      simp only at h ⊢
      have hpo : plainOp o = true := by
        unfold plainOps at hp
        rw [Array.all_eq_true_iff_forall_mem] at hp
        exact hp o (Array.mem_of_getElem? ho)
      split at h
      · rename_i hw
        rw [if_pos hw]
        rcases h with h | ⟨_, h⟩
        · exact Oper.wpIn_mono (fun a w => wpOps_round hp hQ is a w) (op_round hpo h)
        · exact absurd h hQ
      · rename_i hw
        rw [if_neg hw]
        exact ⟨fun _ _ => trivial, wpOps_round hp hQ is _ w h⟩



theorem op_post {o : Oper} {a : Act} {w : World} {next next' : Act → World → Prop} {Q Q' : Exit → Act → World → Prop} (hn : ∀ a w, next a w → next' a w) (hq : ∀ e a w, Q e a w → Q' e a w) (h : o.wp P a w next Q) : o.wp P a w next' Q' := by
  unfold Oper.wp at h ⊢
  generalize (execOp a.eval o).run P w = r at *
  cases r with
  | ok nx w' =>
    cases nx <;> simp only [Oper.upon] at h ⊢ <;> first
      | exact hn _ _ h
      | exact Calls.mono h (fun e w'' he => by
          cases e with
          | returned v => exact hn _ _ he
          | panicked c => exact hq _ _ _ he
          | outgrown => obtain ⟨a, w, hh⟩ := he; exact ⟨a, w, hq _ _ _ hh⟩)
      | exact Rows.mono h (fun v w'' he => hn _ _ he)
  | halt hh w' =>
    cases hh <;> simp only [Oper.upon] at h ⊢ <;> first | exact hq _ _ _ h | exact h

theorem wpOp_post {ops : Array Oper} {Q Q' : Exit → Act → World → Prop} (hq : ∀ e a w, Q e a w → Q' e a w) {i : Nat} {K K' : Act → World → Prop} (hK : ∀ a w, K a w → K' a w) {a : Act} {w : World} (h : wpOp P ops Q i K a w) : wpOp P ops Q' i K' a w := by
  unfold wpOp at h ⊢
  cases ho : ops[i]? with
  | none => rw [ho] at h; simp only at h ⊢; exact hK _ _ h
  | some o =>
    rw [ho] at h
    simp only at h ⊢
    split at h
    · rename_i hw
      rw [if_pos hw]
      exact h.imp (op_post hK hq) fun ⟨p, a, w, q⟩ => ⟨p, a, w, hq _ _ _ q⟩
    · rename_i hw
      rw [if_neg hw]
      exact hK _ _ h


theorem wpOps_post {ops : Array Oper} {Q Q' : Exit → Act → World → Prop} (hq : ∀ e a w, Q e a w → Q' e a w) : ∀ (is : List Nat) (a : Act) (w : World), wpOps P ops Q is a w → wpOps P ops Q' is a w
  | [], a, w, h => hq _ _ _ h
  | i :: is, a, w, h => by
    rw [wpOps_cons] at h ⊢
    exact wpOp_post hq (fun a w => wpOps_post hq is a w) h

theorem lift_lets {n mb : Nat} {g0 : G} {w0 : World} {Q : Post} : ¬ LetsOut (Lift n mb g0 w0 Q) := by
  rintro ⟨a, w, g, E, S, x, _, _, _, _, _, h, _⟩
  cases x <;> simp [Rel] at h
end
end Go.Bw

/- The evaluator, part 6s: loops over functions. -/
namespace Go.Bw
open Go

/-- code in a round of the loop 'lab' -/
def RdB (lab : Nat) (P : Program) (GL : Nat → D) (n : Nat) (g0 : G) (w0 : World) (c : Code) (E : Nat → D) (S : St) (Q : Post) : Prop :=
  ∀ (mb : Nat) a w g, Keep g0 g w0 w → Sim g S w → Env g E a → a.tmps.size = n → Mk mb g w a.defers → c.wpIn (FR lab) 0 P (Lift n mb g0 w0 Q) a w

/-- a block that is none of the store's -/
def Untr (g : G) (b : Nat) : Prop := g.m b = none ∧ ∀ i v n, g.r i v ≠ some (b, n)

theorem Untr.keep {g g' : G} {w w' : World} {b : Nat} {o : Obj} (h : Untr g b) (k : Keep g g' w w') (hb : w.heap[b]? = some o) : Untr g' b ∧ w'.heap[b]? = some o := by
  have hlt : b < w.heap.size := (Array.getElem?_eq_some_iff.1 hb).1
  refine ⟨⟨?_, fun i v n e => ?_⟩, by rw [k.old b hlt h.2]; exact hb⟩
  · cases hm : g'.m b with
    | none => rfl
    | some o =>
      rcases k.newm b o hm with q | q | ⟨i, v, n, q⟩
      · rw [h.1] at q; cases q
      · omega
      · exact absurd q (h.2 i v n)
  · rcases k.newr i v b n e with q | ⟨i', v', n', q⟩
    · omega
    · exact h.2 i' v' n' q

theorem Untr.of {g g' : G} {b : Nat} (h : Untr g b) (hm : g'.m = g.m) (hr : ∀ i v p, g'.r i v = some p → ∃ i' v', g.r i' v' = some p) : Untr g' b :=
  ⟨by rw [hm]; exact h.1, fun i v n e => by obtain ⟨i', v', q⟩ := hr i v _ e; exact h.2 i' v' n q⟩

theorem Mk.put {mb : Nat} {g : G} {w : World} {l : List Deferred} {L : Nat} {r : Loop} (o : Obj) (h : Mk mb g w l) (hL : w.heap[L]? = some (.loop r)) : Mk mb g (w.putObj L o) l := by
  obtain ⟨Ds, h1, h2, h3⟩ := h
  refine ⟨Ds, h1, h2, fun D hD => ?_⟩
  obtain ⟨m, a, b, c⟩ := h3 D hD
  exact ⟨m, by rw [World.putObj_heap_other (by rintro rfl; rw [hL] at a; cases a)]; exact a, b, c⟩

section
variable {P : Program} {GL : Nat → D} {C : Orc} {n : Nat} {g0 g : G} {w0 w : World} {S : St}

theorem Sim.alloc' (h : Sim g S w) (o : Obj) : Sim g S (w.alloc o) := by
  have hh : ∀ b o', w.heap[b]? = some o' → (w.alloc o).heap[b]? = some o' := fun b o' hb => by
    have : b < w.heap.size := (Array.getElem?_eq_some_iff.1 hb).1
    simp only [World.alloc]; rw [Array.getElem?_push_lt this, ← hb]; simp [this]
  refine ⟨fun b o' hb => hh b o' (h.imm b o' hb), fun i e he => ?_, h.inj, h.fresh, h.tabs, h.later, fun i v b n hb => ?_⟩
  · obtain ⟨b, n, c, t, fz, a1, a2, a⟩ := h.sto i e he
    exact ⟨b, n, c, t, fz, a1, hh _ _ a2, a⟩
  · have := h.inb i v b n hb
    simp only [World.alloc, Array.size_push]; omega
theorem Keep.alloc' (h : Keep g0 g w0 w) (o : Obj) : Keep g0 g w0 (w.alloc o) :=
  ⟨h.le, by have := h.size; simp only [World.alloc, Array.size_push]; omega, fun b hb hn => by
    have := h.size
    simp only [World.alloc]; rw [Array.getElem?_push_lt (by omega), ← h.old b hb hn]; simp [show b < w.heap.size by omega], h.newm, h.newr, h.os, h.tape, h.output⟩
theorem Keep.drew' (h : Keep g0 g w0 w) : Keep g0 g w0 w.drew := ⟨h.le, h.size, h.old, h.newm, h.newr, h.os, h.tape, h.output⟩

theorem tidy_g {m0 : Nat} (h0 : ∀ i v, m0 ≤ i → g0.r i v = none) {ks : List Nat} {l l' : Fr} {es es' : Sto} (h : tidy m0 ks l es = some (l', es')) (a : Act) (hk : Keep g0 g w0 w) (hs : Sim g (stL es) w) (he : Env g (ofL l) a) :
    ∃ g', Keep g0 g' w0 w ∧ Sim g' (stL es') w ∧ Env g' (ofL l') a ∧ g'.m = g.m ∧ ∀ i v p, g'.r i v = some p → ∃ i' v', g.r i' v' = some p := by
  unfold tidy at h
  cases hg : gcA m0 (ks.map (ofL l)) es with
  | none => rw [hg] at h; simp [tidyR] at h
  | some x =>
    obtain ⟨acc, ds, e1⟩ := x
    rw [hg] at h
    simp only [tidyR, Option.some.injEq, Prod.mk.injEq] at h
    obtain ⟨rfl, rfl⟩ := h
    obtain ⟨s1, s2⟩ := hs.gc hg
    refine ⟨_, hk.gc h0, s1, ?_, rfl, fun j u p hp => by obtain ⟨i, _, q⟩ := G.sub_some hp; exact ⟨_, _, q⟩⟩
    have hv : VL g (ks.map (ofL l)) (ks.map fun k => a.tmps.getD k undef).toArray := by
      refine ⟨by simp, fun j d hj => ?_⟩
      obtain ⟨k, hk1, rfl⟩ := at_map hj
      have : (ks.map fun k => a.tmps.getD k undef).toArray.getD j undef = a.tmps.getD k undef := by
        simp [Array.getD_eq_getD_getElem?, hk1]
      rw [this]; exact he k
    have hv2 := s2 _ hv
    -- slot by slot
    have key : ∀ (ks : List Nat) (ds : List D) (f : Nat → Value), (∀ (j : Nat) (d : D), ds[j]? = some d → ∀ k, ks[j]? = some k → V (g.sub (gcσ m0 acc) (gcVb m0 acc es)) d (f k)) → ∀ t, V (g.sub (gcσ m0 acc) (gcVb m0 acc es)) (ofL (ks.zip ds) t) (f t) := by
      intro ks
      induction ks with
      | nil => intro ds f _ t; simp only [List.zip_nil_left, ofL]; exact .undef
      | cons k ks ih =>
        intro ds f hh t
        cases ds with
        | nil => simp only [List.zip_nil_right, ofL]; exact .undef
        | cons d ds =>
          simp only [List.zip_cons_cons, ofL]
          split
          · rename_i ht; subst ht; exact hh 0 d rfl t rfl
          · exact ih ds f (fun j d hj k hk => hh (j + 1) d (by simpa using hj) k (by simpa using hk)) t
    intro t
    refine key ks ds (fun k => a.tmps.getD k undef) (fun j d hj k hk1 => ?_) t
    have := hv2.2 j d hj
    have e : (ks.map fun k => a.tmps.getD k undef).toArray.getD j undef = a.tmps.getD k undef := by
      simp [Array.getD_eq_getD_getElem?, hk1]
    rwa [e] at this

theorem env_setL {g : G} : ∀ (ps : List Nat) (ys : List D) (l l1 : Fr) (vs : List Value) (tm : Array Value), setL l ps ys = some l1 → vs.length = ys.length → (∀ (j : Nat) (d : D), ys[j]? = some d → V g d (vs.getD j undef)) → (∀ p ∈ ps, p < tm.size) →
    Env g (ofL l) { tmps := tm, defers := [] } → Env g (ofL l1) { tmps := (ps.zip vs).foldl (fun t (x : Nat × Value) => t.setIfInBounds x.1 x.2) tm, defers := [] } ∧ ((ps.zip vs).foldl (fun t (x : Nat × Value) => t.setIfInBounds x.1 x.2) tm).size = tm.size ∧ vs.length = ps.length
  | [], [], l, l1, vs, tm, h, hl, _, _, he => by
    simp only [setL, Option.some.injEq] at h; subst h
    have : vs = [] := List.eq_nil_of_length_eq_zero (by simpa using hl)
    subst this
    exact ⟨he, rfl, rfl⟩
  | [], _ :: _, l, l1, vs, tm, h, _, _, _, _ => by simp [setL] at h
  | _ :: _, [], l, l1, vs, tm, h, _, _, _, _ => by simp [setL] at h
  | p :: ps, d :: ds, l, l1, vs, tm, h, hl, hv, hp, he => by
    cases vs with
    | nil => simp at hl
    | cons v vs =>
      simp only [setL] at h
      have hput : Env g (ofL ((p, d) :: l)) { tmps := tm.setIfInBounds p v, defers := [] } := by
        have h1 := Env.put (o := some p) he (hv 0 d rfl) (fun t ht => by cases ht; exact hp p (List.mem_cons_self ..))
        have h2 := ofL_setO l (some p) d
        simp only [setO] at h2
        rw [h2]
        exact h1
      obtain ⟨q1, q2, q3⟩ := env_setL ps ds _ l1 vs (tm.setIfInBounds p v) h (by simpa using hl) (fun j d' hd => by simpa using hv (j + 1) d' (by simpa using hd)) (fun q hq => by simp; exact hp q (List.mem_cons_of_mem _ hq)) hput
      exact ⟨q1, by simp only [List.zip_cons_cons, List.foldl_cons]; rw [q2]; simp, by simp [q3]⟩

/-- what an iterator hands on -/
def IterT (P : Program) (d : D) (yss : List (List D)) : Prop :=
  ∃ gf caps, d = .fn (.func gf) [] caps ∧ goFn P gf = true ∧ (∀ ys ∈ yss, ∀ y ∈ ys, D.free y) ∧
    ∀ (g : G) (w : World) (cs : Array Value), (∀ b o, g.m b = some o → w.heap[b]? = some o) → VL g caps cs →
      ∃ vss : List (Array Value), vss.length = yss.length ∧ (∀ (i : Nat) ys vs, yss[i]? = some ys → vss[i]? = some vs → VL g ys vs) ∧
        ∀ (l : Nat) (J : Nat → World → Prop) (Jx : World → Prop),
          (∀ i W, J i W → ∀ b o, g.m b = some o → W.heap[b]? = some o) → (∀ i W, J i W → J i W.drew) → (∀ W, Jx W → Jx W.drew) →
          (∀ (i : Nat) vs W, vss[i]? = some vs → J i W → YieldAt Fence.wide 0 P l vs W fun e W' => (e = .returned (.bool true) ∧ J (i + 1) W') ∨ (e = .returned (.bool false) ∧ Jx W')) →
          ∀ W, J 0 W → CallsIn Fence.wide 0 P gf (#[.func (.yield l) #[] #[]] ++ cs) W fun e W' => (∃ v, e = .returned v) ∧ (J vss.length W' ∨ Jx W')

/-- a table of iterators that is so -/
def SoundI (P : Program) (its : D → Option (List (List D))) : Prop := ∀ d yss, its d = some yss → IterT P d yss

theorem soundI_no : SoundI P noIt := fun d yss h => by cases h

theorem goFn_enter {f : FuncId} (h : goFn P f = true) (args : Array Value) (w : World) : (callFunc f args).run P w = .ok (.enter f args) w := by
  unfold goFn at h
  split at h
  · rename_i fn hfn
    simp only [Bool.and_eq_true, bne_iff_ne, ne_eq] at h
    have hb : fn.body ≠ none := by have := h.2; intro hh; rw [hh] at this; cases this
    simp [callFunc, Sem.run_bind, run_program, hfn, h.1, hb, Result.andThen_ok]
  · cases h

theorem rgS_some {x : Option Out} {next : Sto → Option Out} {l : Fr} {o : Out} (h : rgS x next l = some o) :
    ∃ y l1 e1, x = some (y, l1, e1) ∧ ((y = .normal ∧ next e1 = some o) ∨ (y = .ret ∧ o = (.ret, l, e1)) ∨ ∃ i, y = .exit i ∧ o = (.exit i, l, e1)) := by
  unfold rgS at h
  split at h
  · rename_i l1 e1; exact ⟨_, _, _, rfl, .inl ⟨rfl, h⟩⟩
  · rename_i l1 e1; simp only [Option.some.injEq] at h; exact ⟨_, _, _, rfl, .inr (.inl ⟨rfl, h.symm⟩)⟩
  · rename_i i l1 e1; simp only [Option.some.injEq] at h; exact ⟨_, _, _, rfl, .inr (.inr ⟨i, rfl, h.symm⟩)⟩
  · cases h

theorem thC_some {x : Option Out} {k : Fr → Sto → Option Out} {o : Out} (h : thC x k = some o) : ∃ l e, x = some (.normal, l, e) ∧ k l e = some o := by
  unfold thC at h
  split at h
  · exact ⟨_, _, rfl, h⟩
  · cases h

theorem thT_some' {x : Option (Fr × Sto)} {k : Fr → Sto → Option Out} {o : Out} (h : thT x k = some o) : ∃ l es, x = some (l, es) ∧ k l es = some o := by
  unfold thT at h
  split at h
  · exact ⟨_, _, rfl, h⟩
  · cases h

set_option maxHeartbeats 1000000 in
/-- A LOOP OVER A FUNCTION -/
theorem triB_range {gop : Operand} {ps : Array Tmp} {asg bod : Code} {m0 : Nat} {rec : Nat → Code → Fr → Sto → Option Out} {l : Fr} {es : Sto} {yss : List (List D)} {out : Out} (hG : Glob g0 GL) (h0 : ∀ i v, m0 ≤ i → g0.r i v = none)
    (hps : ∀ p ∈ ps.toList, p < n) (hit : IterT P (rhoD (ofL l) GL gop) yss)
    (hrr : ∀ (c : Code), c = asg ∨ c = bod → ∀ (lab : Nat) (g1 : G) (w1 : World) (m1 : Nat), Glob g1 GL → (∀ i v, m1 ≤ i → g1.r i v = none) → ∀ l es out, rec m1 c l es = some out → RdB lab P GL n g1 w1 c (ofL l) (stL es) (isOut out))
    (h : rgL m0 ps.toList (rgB rec asg bod) yss l es = some out) : TriB P GL n g0 w0 (.rangeFunc gop ps asg bod) (ofL l) (stL es) (isOut out) := by
  intro a w ⟨g, hk, hs, he, hn, hd⟩
  obtain ⟨gf, caps, hgd, hgo, hfree, hit⟩ := hit
  have hv := rho_V he (hG.mono hk.le) gop
  rw [hgd] at hv
  cases hev : a.eval gop with
  | func fn vs us =>
    rw [hev] at hv
    cases hv with
    | fn h1 h2 k1 k2 =>
      obtain rfl : vs = #[] := Array.eq_empty_of_size_eq_zero (by simpa using h1)
      obtain ⟨vss, hlen, hvals, hcall⟩ := hit g w us hs.imm ⟨h2, k2⟩
      refine (wpIn_wide (n := 0)).1 (wpIn_rangeFunc ?_)
      intro fnid _
      obtain ⟨rc, hrc⟩ : ∃ rc : LoopState → Option Code → Loop, rc = fun st pe => { state := st, pending := pe, fn := fnid, tmps := a.tmps, params := ps, assign := asg, body := bod, defers := w.heap.size } := ⟨_, rfl⟩
      obtain ⟨W1, hW1⟩ : ∃ W1, (w.alloc (.deferred (some []))).alloc (.loop (rc .ready none)) = W1 := ⟨_, rfl⟩
      obtain ⟨L, hL⟩ : ∃ L, L = w.heap.size + 1 := ⟨_, rfl⟩
      have hL1 : W1.heap[L]? = some (.loop (rc .ready none)) := by
        rw [← hW1, hL]; have := World.alloc_heap_new (w.alloc (.deferred (some []))) (.loop (rc .ready none)); rwa [World.size_alloc] at this
      have hK1 : W1.heap[w.heap.size]? = some (.deferred (some [])) := by
        rw [← hW1]
        have e1 := World.alloc_heap_new w (.deferred (some []))
        have : w.heap.size < (w.alloc (.deferred (some []))).heap.size := (Array.getElem?_eq_some_iff.1 e1).1
        show ((w.alloc (.deferred (some []))).heap.push _)[w.heap.size]? = _
        rw [Array.getElem?_push_lt this, ← e1]; simp [this]
      have hs1 : Sim g (stL es) W1 := by rw [← hW1]; exact (hs.alloc' _).alloc' _
      have hk1 : Keep g0 g w0 W1 := by rw [← hW1]; exact (hk.alloc' _).alloc' _
      have hkk : Keep g g w W1 := by rw [← hW1]; exact ((Keep.refl g w).alloc' _).alloc' _
      have un : ∀ b, w.heap.size ≤ b → Untr g b := fun b hb => ⟨by
        cases hm : g.m b with
        | none => rfl
        | some o => have := heap_lt (hs.imm _ _ hm); omega, fun i v n hh => by have := hs.inb i v b n hh; omega⟩
      have hw0 : w0.heap.size ≤ w.heap.size := hk.size
      have hmk1 : Mk w0.heap.size g W1 ({ target := .collected w.heap.size, args := #[] } :: a.defers) := by
        obtain ⟨Ds, q1, q2, q3⟩ := hd.keep hkk
        have hd0 := hd
        obtain ⟨Ds', p1, p2, p3⟩ := hd
        have : Ds' = Ds := by
          have := p1.symm.trans q1
          exact List.map_inj_right (fun x y hxy => by simpa using hxy) |>.1 this
        subst this
        refine ⟨w.heap.size :: Ds', by simp [p1], List.nodup_cons.2 ⟨fun hm => ?_, p2⟩, fun D hD => ?_⟩
        · have := heap_lt (p3 _ hm).2.1; omega
        · rcases List.mem_cons.1 hD with rfl | hD
          · exact ⟨hw0, hK1, un _ (Nat.le_refl _)⟩
          · exact q3 D hD
      refine ⟨L, [{ target := .collected w.heap.size, args := #[] }], W1, { target := .fn (.func gf) us, args := #[.func (.yield L) #[] #[]] }, W1, gf, #[.func (.yield L) #[] #[]] ++ us, W1, ?_, ?_, fun _ _ => trivial, ?_, fun hh => by simp [Fence.wide] at hh, ?_⟩
      · rw [← hW1, hrc, hL]; exact run_enterLoop_outer _ _ _ _ _
      · simp only [resolve, hev]
        simp [go_sem]
      · simp [invoke, go_sem, goFn_enter hgo]
      · obtain ⟨J, hJ⟩ : ∃ J : Nat → World → Prop, J = fun i W => ∃ g' l' es', rgL m0 ps.toList (rgB rec asg bod) (yss.drop i) l' es' = some out ∧ Keep g0 g' w0 W ∧ Sim g' (stL es') W ∧ Env g' (ofL l') a ∧ (∀ b o, g.m b = some o → g'.m b = some o) ∧
            Mk w0.heap.size g' W ({ target := .collected w.heap.size, args := #[] } :: a.defers) ∧ W.heap[L]? = some (.loop (rc .ready none)) ∧ Untr g' L := ⟨_, rfl⟩
        obtain ⟨Jx, hJx⟩ : ∃ Jx : World → Prop, Jx = fun W => ∃ g' x l' es' c, out = (x, l', es') ∧ ((x = .ret ∧ c = .ret) ∨ ∃ id, x = .exit id ∧ c = .exit id) ∧ Keep g0 g' w0 W ∧ Sim g' (stL es') W ∧ Env g' (ofL l') a ∧
            Mk w0.heap.size g' W ({ target := .collected w.heap.size, args := #[] } :: a.defers) ∧ W.heap[L]? = some (.loop (rc .done (some c))) ∧ Untr g' L := ⟨_, rfl⟩
        have hLw : w0.heap.size ≤ L := by omega
        refine (hcall L J Jx ?_ ?_ ?_ ?_ W1 ?_).mono ?_
        · intro i W hj b o hb
          rw [hJ] at hj
          obtain ⟨g', l', es', q1, q2, q3, q4, q5, q6, q7, q8⟩ := hj
          exact q3.imm _ _ (q5 b o hb)
        · intro i W hj
          rw [hJ] at hj ⊢
          obtain ⟨g', l', es', q1, q2, q3, q4, q5, q6, q7, q8⟩ := hj
          exact ⟨g', l', es', q1, q2.drew', q3.ofHeap rfl, q4, q5, q6.keep (Keep.refl g' W).drew', q7, q8⟩
        · intro W hj
          rw [hJx] at hj ⊢
          obtain ⟨g', x, l', es', c, p1, p2, q2, q3, q4, q6, q7, q8⟩ := hj
          exact ⟨g', x, l', es', c, p1, p2, q2.drew', q3.ofHeap rfl, q4, q6.keep (Keep.refl g' W).drew', q7, q8⟩
        · -- one round
          intro i vs W hvs hj
          rw [hJ] at hj
          obtain ⟨g', l', es', q1, q2, q3, q4, q5, q6, q7, q8⟩ := hj
          have hi : i < yss.length := by rw [← hlen]; exact (List.getElem?_eq_some_iff.1 hvs).1
          have hys : yss[i]? = some yss[i] := by simp [hi]
          have hdrop : yss.drop i = yss[i] :: yss.drop (i + 1) := List.drop_eq_getElem_cons hi
          rw [hdrop, rgL] at q1
          cases hset : setL l' ps.toList yss[i] with
          | none => rw [hset] at q1; cases q1
          | some l1 =>
          rw [hset] at q1
          simp only at q1
          obtain ⟨y, l3, e3, hx, hcase⟩ := rgS_some q1
          unfold rgB at hx
          obtain ⟨l2, e2, ha, hb⟩ := thC_some hx
          have hVL := hvals i _ _ hys hvs
          have hVs : ∀ (j : Nat) (d : D), yss[i][j]? = some d → V g' d (vs.toList.getD j undef) := fun j d hd => by
            have := (hVL.2 j d hd).free (g' := g') q5 (hfree _ (List.getElem_mem hi) d (List.mem_of_getElem? hd))
            simpa [List.getD, Array.getD_eq_getD_getElem?] using this
          obtain ⟨hE1, hsz, hln⟩ := env_setL (g := g') ps.toList yss[i] l' l1 vs.toList a.tmps hset (by simpa using hVL.1) hVs (fun p hp => by rw [hn]; exact hps p hp) q4
          have hfold : ((ps.zip vs).foldl (fun tmps (x : Tmp × Value) => tmps.setIfInBounds x.1 x.2) a.tmps) = ((ps.toList.zip vs.toList).foldl (fun t (x : Nat × Value) => t.setIfInBounds x.1 x.2) a.tmps) := by
            rw [← Array.foldl_toList, Array.toList_zip]
          have hy := run_yield (P := P) (args := vs) q7 (by rw [hrc]; simpa using hln)
          rw [hrc] at hy
          have hG' : Glob g' GL := hG.mono q2.le
          refine ⟨fnid, _, asg, bod, hy, roundIn_of_wpIn trivial ?_⟩
          have hA := hrr asg (.inl rfl) L g' W es'.length hG' (fun i v hi => q3.fresh i v (by rw [stL_next]; exact hi)) l1 es' _ ha W.heap.size
            { tmps := (ps.zip vs).foldl (fun tmps (x : Tmp × Value) => tmps.setIfInBounds x.1 x.2) a.tmps, defers := [] } W
            g' (.refl _ _) q3 (by rw [hfold]; exact hE1) (by rw [hfold, hsz]; exact hn) (Mk.nil _ _ _)
          refine wpIn_mono hA ?_
          intro e a1 W2 ⟨g2, E2, S2, x2, z1, z2, z3, z4, z5, z6, z7, z8, z9⟩
          simp only at z7 z8 z9
          subst z7 z8 z9
          cases e with
          | normal =>
            have hlt : L < W.heap.size := (Array.getElem?_eq_some_iff.1 q7).1
            obtain ⟨u2, hL2⟩ := q8.keep z1 q7
            refine ⟨_, run_beginRound hL2 (by rw [hrc]), ?_⟩
            obtain ⟨W2', hW2'⟩ : ∃ W2', W2.putObj L (.loop { rc .ready none with state := .busy }) = W2' := ⟨_, rfl⟩
            rw [hW2']
            have hlt2 : L < W2.heap.size := (Array.getElem?_eq_some_iff.1 hL2).1
            have s2' : Sim g2 (stL e2) W2' := by rw [← hW2']; exact z2.shut _ u2.1 u2.2
            have k2' : Keep g0 g2 w0 W2' := by rw [← hW2']; exact (q2.trans z1).shut _ hLw
            have m2' : Mk w0.heap.size g2 W2' ({ target := .collected w.heap.size, args := #[] } :: a.defers) := by rw [← hW2']; exact (q6.keep z1).put _ hL2
            have hL2' : W2'.heap[L]? = some (.loop { rc .ready none with state := .busy }) := by rw [← hW2']; exact World.putObj_heap_same hlt2
            have hB := hrr bod (.inr rfl) L g2 W2' e2.length (hG.mono k2'.le) (fun i v hi => s2'.fresh i v (by rw [stL_next]; exact hi)) l2 e2 _ hb W.heap.size a1 W2' g2 (.refl _ _) s2' z3 z4 (by rw [← hW2']; exact z5.put _ hL2)
            refine wpIn_mono hB ?_
            intro e a3 W3 ⟨g3, E3, S3, x3, y1, y2, y3, y4, y5, y6, y7, y8, y9⟩
            simp only at y7 y8 y9
            subst y7 y8 y9
            have u2' : Untr g2 L := u2
            obtain ⟨u3, hL3⟩ := u2'.keep y1 hL2'
            have k3 : Keep g0 g3 w0 W3 := k2'.trans y1
            have m3 : Mk w0.heap.size g3 W3 ({ target := .collected w.heap.size, args := #[] } :: a.defers) := m2'.keep y1
            have hlt3 : L < W3.heap.size := (Array.getElem?_eq_some_iff.1 hL3).1
            have he3 : Env g3 (ofL l') a := q4.mono ((z1.le).trans y1.le)
            have hm3 : ∀ b o, g.m b = some o → g3.m b = some o := fun b o hb => y1.le.m _ _ (z1.le.m _ _ (q5 b o hb))
            have fin : ∀ (jump : Option Code), (Instr.endRound L jump).run P W3 = .ok (.bool jump.isNone) (W3.putObj L (.loop (rc (if jump.isNone then .ready else .done) jump))) ∧
                (W3.putObj L (.loop (rc (if jump.isNone then .ready else .done) jump))).heap[L]? = some (.loop (rc (if jump.isNone then .ready else .done) jump)) ∧
                Keep g0 g3 w0 (W3.putObj L (.loop (rc (if jump.isNone then .ready else .done) jump))) ∧ Sim g3 (stL e3) (W3.putObj L (.loop (rc (if jump.isNone then .ready else .done) jump))) ∧
                Mk w0.heap.size g3 (W3.putObj L (.loop (rc (if jump.isNone then .ready else .done) jump))) ({ target := .collected w.heap.size, args := #[] } :: a.defers) := fun jump => by
              refine ⟨?_, World.putObj_heap_same hlt3, k3.shut _ hLw, y2.shut _ u3.1 u3.2, m3.put _ hL3⟩
              have := run_endRound (P := P) jump hL3
              rw [hrc] at this ⊢
              exact this
            rcases hcase with ⟨rfl, hnx⟩ | ⟨rfl, rfl⟩ | ⟨id, rfl, rfl⟩
            · cases e with
              | normal =>
                obtain ⟨f1, f2, f3, f4, f5⟩ := fin none
                refine ⟨_, _, f1, .inl ⟨rfl, ?_⟩⟩
                rw [hJ]
                obtain ⟨l4, e4, t1, t2⟩ := thT_some' hnx
                obtain ⟨g4, v1, v2, v3, v4, v5⟩ := tidy_g h0 t1 a f3 f4 he3
                exact ⟨g4, l4, e4, t2, v1, v2, v3, fun b o hb => by rw [v4]; exact hm3 b o hb, f5.of_r (fun D hD => by rw [v4]; exact hD) v5, f2, u3.of v4 v5⟩
              | _ => simp [Rel] at y6
            · cases e with
              | ret =>
                obtain ⟨f1, f2, f3, f4, f5⟩ := fin (some .ret)
                refine ⟨_, _, f1, .inr ⟨rfl, ?_⟩⟩
                rw [hJx]
                exact ⟨g3, .ret, l', e3, .ret, rfl, .inl ⟨rfl, rfl⟩, f3, f4, he3, f5, f2, u3⟩
              | _ => simp [Rel] at y6
            · cases e with
              | exit id' =>
                simp only [Rel] at y6
                subst y6
                obtain ⟨f1, f2, f3, f4, f5⟩ := fin (some (.exit id))
                refine ⟨_, _, f1, .inr ⟨rfl, ?_⟩⟩
                rw [hJx]
                exact ⟨g3, .exit id, l', e3, .exit id, rfl, .inr ⟨id, rfl, rfl⟩, f3, f4, he3, f5, f2, u3⟩
              | _ => simp [Rel] at y6
          | _ => simp [Rel] at z6
        · rw [hJ]
          exact ⟨g, l, es, by simpa using h, hk1, hs1, he, fun _ _ hh => hh, hmk1, hL1, un _ (by omega)⟩
        · -- behind the iterator
          rintro e W ⟨⟨v, rfl⟩, hj | hj⟩
          · rw [hJ] at hj
            obtain ⟨g', l', es', q1, q2, q3, q4, q5, q6, q7, q8⟩ := hj
            rw [hlen, List.drop_length, rgL] at q1
            simp only [Option.some.injEq] at q1
            subst q1
            refine ⟨none, _, by have := run_endLoop (P := P) q7 (by rw [hrc]; simp); rw [hrc] at this; exact this, ?_⟩
            exact ⟨g', _, _, .normal, q2.shut _ hLw, q3.shut _ q8.1 q8.2, q4, hn, q6.put _ q7, trivial, rfl, rfl, rfl⟩
          · rw [hJx] at hj
            obtain ⟨g', x, l', es', c, rfl, p2, q2, q3, q4, q6, q7, q8⟩ := hj
            refine ⟨some c, _, by have := run_endLoop (P := P) q7 (by rw [hrc]; simp); rw [hrc] at this; exact this, ?_⟩
            rcases p2 with ⟨rfl, rfl⟩ | ⟨id, rfl, rfl⟩
            · exact wpIn_ret ⟨g', _, _, .ret, q2.shut _ hLw, q3.shut _ q8.1 q8.2, q4, hn, q6.put _ q7, trivial, rfl, rfl, rfl⟩
            · exact wpIn_exit ⟨g', _, _, .exit id, q2.shut _ hLw, q3.shut _ q8.1 q8.2, q4, hn, q6.put _ q7, rfl, rfl, rfl, rfl⟩
  | _ => rw [hev] at hv; cases hv
end
end Go.Bw

/- The evaluator, part 7: what it says of code is so. -/
namespace Go.Bw
open Go

/-- nothing beyond the store's end -/
def St.wf (S : St) : Prop := ∀ i, S.next ≤ i → S.tab i = none

theorem wf_stL (es : Sto) : (stL es).wf := fun i hi => by rw [stL_next] at hi; rw [stL_tab, List.getElem?_eq_none hi]; rfl
theorem St.wf.new {S : St} (h : S.wf) (ob : List D) : (S.new ob).wf := fun i hi => by
  rw [St.new_next] at hi
  rw [St.new_tab, if_neg (by omega)]
  exact h i (by omega)
theorem St.wf.put {S : St} (h : S.wf) {i : Nat} {e : En} (he : S.tab i = some e) (e' : Option En) : (S.put i e').wf := fun j hj => by
  rw [St.put_next] at hj
  rw [St.put_tab]
  split
  · rename_i hji; subst hji; rw [h j hj] at he; cases he
  · exact h j hj
theorem St.wf.stL_toL {S : St} (h : S.wf) : stL (toL S) = S := by
  have hx : stL (toL S) = ⟨(toL S).length, fun i => ((toL S)[i]?).getD none⟩ := rfl
  rw [hx]
  have hl : (toL S).length = S.next := by simp [toL, upto_len]
  rw [hl]
  cases S with
  | mk next tab =>
    simp only [St.mk.injEq, true_and]
    funext i
    simp only [toL, List.getElem?_map]
    rcases Nat.lt_or_ge i next with hi | hi
    · rw [upto_at hi]; rfl
    · rw [List.getElem?_eq_none (by rw [upto_len]; exact hi)]; exact (h i hi).symm

section
variable {P : Program} {GL : Nat → D} {C : Orc}

theorem map_wf {α : Type} {x : Option α} {S S' : St} {d : α} (hS : S.wf) (h : (x.map fun r => (r, S)) = some (d, S')) : S'.wf := by
  rw [Option.map_eq_some_iff] at h
  obtain ⟨y, _, h⟩ := h
  simp only [Prod.mk.injEq] at h
  rw [← h.2]; exact hS

theorem stD_wf {S S' : St} {t : TypeId} {x y : D} (hS : S.wf) (h : stD P S t x y = some S') : S'.wf := by
  unfold stD at h
  split at h
  · split at h
    · rename_i e n he hn
      split at h
      · simp only [Option.some.injEq] at h; subst h; exact hS.put he _
      · cases h
    · cases h
  · cases h

theorem makeSliceD_wf {S S' : St} {t : TypeId} {l c d : D} (hS : S.wf) (h : makeSliceD P S t l c = some (d, S')) : S'.wf := by
  unfold makeSliceD at h
  repeat' (split at h)
  all_goals first
    | (simp only [Option.some.injEq, Prod.mk.injEq] at h; obtain ⟨-, rfl⟩ := h; exact hS.new _)
    | cases h

theorem toBytesD_wf {S S' : St} {s t : TypeId} {x d : D} (hS : S.wf) (h : toBytesD P S s t x = some (d, S')) : S'.wf := by
  unfold toBytesD at h
  repeat' (split at h)
  all_goals first
    | (simp only [Option.some.injEq, Prod.mk.injEq] at h; obtain ⟨-, rfl⟩ := h; exact hS.new _)
    | cases h

theorem convD_wf {S S' : St} {s t : TypeId} {x d : D} (hS : S.wf) (h : convD P S s t x = some (d, S')) : S'.wf := by
  unfold convD at h
  split at h
  · split at h
    · simp only [Option.some.injEq, Prod.mk.injEq] at h; obtain ⟨-, rfl⟩ := h; exact hS
    · exact toBytesD_wf hS h
  · exact map_wf hS h

theorem appendD_wf {S S' : St} {a b : Option TypeId} {x y d : D} (hS : S.wf) (h : appendD P S a b x y = some (d, S')) : S'.wf := by
  unfold appendD at h
  repeat' (split at h)
  all_goals first
    | (simp only [Option.some.injEq, Prod.mk.injEq] at h; obtain ⟨-, rfl⟩ := h; first | exact hS | exact hS.new _ | exact hS.put (by assumption) _)
    | cases h

theorem bltD_wf {S S' : St} {b : Builtin} {ats : Array TypeId} {ty : TypeId} {cs : Array Bool} {xs : List D} {d : D} (hS : S.wf) (h : bltD P S b ats ty cs xs = some (d, S')) : S'.wf := by
  unfold bltD at h
  repeat' (split at h)
  all_goals first
    | exact map_wf hS h
    | exact appendD_wf hS h
    | cases h

theorem opD_wf {E : Nat → D} {S S' : St} {o : Oper} {d : D} (hS : S.wf) (h : opD P E GL S o = some (d, S')) : S'.wf := by
  unfold opD at h
  split at h
  all_goals first
    | exact map_wf hS h
    | exact convD_wf hS h
    | exact makeSliceD_wf hS h
    | (simp only [Option.some.injEq, Prod.mk.injEq] at h; obtain ⟨-, rfl⟩ := h; exact hS)
    | skip
  all_goals first
    | (rw [Option.map_eq_some_iff] at h; obtain ⟨S1, h1, h2⟩ := h; simp only [Prod.mk.injEq] at h2; obtain ⟨-, rfl⟩ := h2; exact stD_wf hS h1)
    | skip
  all_goals (repeat' (split at h))
  all_goals first
    | exact map_wf hS h
    | exact bltD_wf hS h
    | (simp only [Option.some.injEq, Prod.mk.injEq] at h; obtain ⟨-, rfl⟩ := h; first | exact hS | exact hS.new _)
    | cases h

theorem opD_st (E : Nat → D) (es : Sto) (o : Oper) (d : D) (S' : St) (h : opD P E GL (stL es) o = some (d, S')) : stL (toL S') = S' := (opD_wf (wf_stL es) h).stL_toL

variable {n : Nat} {g0 : G} {w0 : World}

theorem tidy_at {m0 : Nat} (h0 : ∀ i v, m0 ≤ i → g0.r i v = none) {ks : List Nat} {l l' : Fr} {es es' : Sto} (h : tidy m0 ks l es = some (l', es')) (a : Act) (w : World) (hat : At P GL n g0 w0 (ofL l) (stL es) a w) : At P GL n g0 w0 (ofL l') (stL es') a w := by
  obtain ⟨g, hk, hs, he, hn, hd⟩ := hat
  obtain ⟨g', v1, v2, v3, v4, v5⟩ := tidy_g h0 h a hk hs he
  exact ⟨g', v1, v2, v3, hn, hd.of_r (fun D hD => by rw [v4]; exact hD) v5⟩

theorem tidyK_at {m0 : Nat} (h0 : ∀ i v, m0 ≤ i → g0.r i v = none) {o : Option (List Nat)} {l l' : Fr} {es es' : Sto} (h : tidyK m0 o l es = some (l', es')) (a : Act) (w : World) (hat : At P GL n g0 w0 (ofL l) (stL es) a w) : At P GL n g0 w0 (ofL l') (stL es') a w := by
  unfold tidyK at h
  split at h
  · exact tidy_at h0 h a w hat
  · simp only [Option.some.injEq, Prod.mk.injEq] at h
    obtain ⟨rfl, rfl⟩ := h
    exact hat

theorem lim_some {α : Type} {s : Nat → Option α} {x : α} (h : lim s = some x) : ∃ k, s k = some x := by
  unfold lim at h
  split at h
  · exact ⟨_, h⟩
  · cases h

theorem thT_some {x : Option (Fr × Sto)} {k : Fr → Sto → Option Out} {o : Out} (h : thT x k = some o) : ∃ l es, x = some (l, es) ∧ k l es = some o := by
  unfold thT at h
  split at h
  · exact ⟨_, _, rfl, h⟩
  · cases h

theorem ofL_map {f : D → D} (hf : f .undef = .undef) (t : Nat) : ∀ (l : Fr), ofL (l.map fun x => (x.1, f x.2)) t = f (ofL l t)
  | [] => by simp only [List.map_nil, ofL, hf]
  | (k, d) :: l => by
    simp only [List.map_cons, ofL]
    split
    · rfl
    · exact ofL_map hf t l

theorem frzN_undef (es : Sto) (F : Nat → Bool) (n : Nat) : frzN es F n .undef = .undef := by cases n <;> rfl

theorem frzK_at {l : Fr} {es : Sto} {o : Option (List Nat)} {out : Out} (h : frzK o l es = some out) : ∃ l' es', out = (.normal, l', es') ∧ ∀ a w, At P GL n g0 w0 (ofL l) (stL es) a w → At P GL n g0 w0 (ofL l') (stL es') a w := by
  unfold frzK at h
  split at h
  · simp only [Option.some.injEq] at h; subst h; exact ⟨l, es, rfl, fun _ _ h => h⟩
  · simp only [Option.some.injEq] at h
    subst h
    rename_i ks
    refine ⟨_, _, rfl, ?_⟩
    generalize hasB (reach 200 0 es (D.refsL (ks.map (ofL l))) []) = F
    intro a w ⟨g, hk, hs, he, hn, hd⟩
    obtain ⟨s1, s2⟩ := hs.frz (F := F) 20
    refine ⟨_, hk.trans s2, s1, fun t => ?_, hn, hd.keep s2⟩
    rw [ofL_map (frzN_undef es F 20)]
    exact V.frz hs 20 (he t)

theorem lift_at {l l' : Fr} {es es' : Sto} (hi : ∀ a w, At P GL n g0 w0 (ofL l) (stL es) a w → At P GL n g0 w0 (ofL l') (stL es') a w) {e : Exit} {a : Act} {w : World} (h : Lift n w0.heap.size g0 w0 (isOut (.normal, l, es)) e a w) : Lift n w0.heap.size g0 w0 (isOut (.normal, l', es')) e a w := by
  obtain ⟨g, E, S, x, k1, k2, k3, k4, k5, k6, q1, q2, q3⟩ := h
  simp only at q1 q2 q3
  subst q1 q2 q3
  obtain ⟨g2, p1, p2, p3, p4, p5⟩ := hi a w ⟨g, k1, k2, k3, k4, k5⟩
  refine ⟨g2, _, _, .normal, p1, p2, p3, p4, p5, ?_, rfl, rfl, rfl⟩
  cases e <;> simp [Rel] at k6 ⊢

theorem triB_frz {c : Code} {l : Fr} {es : Sto} {x : Option Out} {o : Option (List Nat)} {out : Out} (h : thO x (frzK o) = some out) (hc : ∀ o1, x = some o1 → TriB P GL n g0 w0 c (ofL l) (stL es) (isOut o1)) : TriB P GL n g0 w0 c (ofL l) (stL es) (isOut out) := by
  rcases thO_some h with ⟨l1, e1, h1, h2⟩ | ⟨h1, _⟩
  · obtain ⟨l', es', rfl, hi⟩ := frzK_at (P := P) (GL := GL) (n := n) (g0 := g0) (w0 := w0) h2
    exact fun a w hat => wp_mono (hc _ h1 a w hat) fun e a w hh => lift_at hi hh
  · exact hc _ h1

/-- a piece of code comes to just that -/
def Comes (P : Program) (GL : Nat → D) (n : Nat) (g0 : G) (w0 : World) (c : Code) (f : Fr → Sto → Option Out) : Prop :=
  ∀ l es out, f l es = some out → TriB P GL n g0 w0 c (ofL l) (stL es) (isOut out)

theorem frzK_g {l : Fr} {es : Sto} {o : Option (List Nat)} {out : Out} (h : frzK o l es = some out) : ∃ l' es', out = (.normal, l', es') ∧ ∀ (a : Act) (w : World) (g : G), Sim g (stL es) w → Env g (ofL l) a → ∃ g', Keep g g' w w ∧ Sim g' (stL es') w ∧ Env g' (ofL l') a := by
  unfold frzK at h
  split at h
  · simp only [Option.some.injEq] at h; subst h; exact ⟨l, es, rfl, fun _ _ g h1 h2 => ⟨g, .refl _ _, h1, h2⟩⟩
  · simp only [Option.some.injEq] at h
    subst h
    rename_i ks
    refine ⟨_, _, rfl, ?_⟩
    generalize hasB (reach 200 0 es (D.refsL (ks.map (ofL l))) []) = F
    intro a w g hs he
    obtain ⟨s1, s2⟩ := hs.frz (F := F) 20
    refine ⟨_, s2, s1, fun t => ?_⟩
    rw [ofL_map (frzN_undef es F 20)]
    exact V.frz hs 20 (he t)

theorem RdB.mono {lab : Nat} {c : Code} {E : Nat → D} {S : St} {Q Q' : Post} (h : RdB lab P GL n g0 w0 c E S Q) (hq : ∀ x E S, Q x E S → Q' x E S) : RdB lab P GL n g0 w0 c E S Q' :=
  fun mb a w g h1 h2 h3 h4 h5 => wpIn_mono (h mb a w g h1 h2 h3 h4 h5) fun e a w ⟨g', E', S', x, k1, k2, k3, k4, k5, k6, k7⟩ => ⟨g', E', S', x, k1, k2, k3, k4, k5, k6, hq _ _ _ k7⟩

theorem rd_frz {lab : Nat} {c : Code} {l : Fr} {es : Sto} {x : Option Out} {o : Option (List Nat)} {out : Out} (h : thO x (frzK o) = some out) (hc : ∀ o1, x = some o1 → RdB lab P GL n g0 w0 c (ofL l) (stL es) (isOut o1)) : RdB lab P GL n g0 w0 c (ofL l) (stL es) (isOut out) := by
  rcases thO_some h with ⟨l1, e1, h1, h2⟩ | ⟨h1, _⟩
  · obtain ⟨l', es', rfl, hi⟩ := frzK_g h2
    intro mb a w g p1 p2 p3 p4 p5
    refine wpIn_mono (hc _ h1 mb a w g p1 p2 p3 p4 p5) fun e a w ⟨g', E', S', x, k1, k2, k3, k4, k5, k6, q1, q2, q3⟩ => ?_
    simp only at q1 q2 q3
    subst q1 q2 q3
    obtain ⟨g2, z1, z2, z3⟩ := hi a w g' k2 k3
    exact ⟨g2, _, _, .normal, k1.trans z1, z2, z3, k4, k5.keep z1, by cases e <;> simp [Rel] at k6 ⊢, rfl, rfl, rfl⟩
  · exact hc _ h1

theorem SchT.mono {ops : Array Oper} {E : Nat → D} {S : St} {Q Q' : Post} (h : SchT P GL n ops E S Q) (hq : ∀ x E S, Q x E S → Q' x E S) : SchT P GL n ops E S Q' :=
  fun _ g a w hs he hg hn hd l hl => wpOps_post (fun e a w ⟨g', E', S', x, k1, k2, k3, k4, k5, k6, k7⟩ => ⟨g', E', S', x, k1, k2, k3, k4, k5, k6, hq _ _ _ k7⟩) _ _ _ (h g a w hs he hg hn hd l hl)

/-- one of two ends, each of which, tidied, is the same -/
def isTwo (l1 : Fr) (e1 : Sto) (l2 : Fr) (e2 : Sto) : Post := fun x E S => isOut (.normal, l1, e1) x E S ∨ isOut (.normal, l2, e2) x E S

/-- a region that draws its order -/
theorem evTwo_sch (hC : SoundO P GL C) {ops : Array Oper} {m0 : Nat} {o : Option (List Nat)} {plan : Plan} {p2 : Option Plan} {l : Fr} {es : Sto} {out : Out} (hok : twoOk n ops plan p2 = true) (h : evTwo P GL C ops m0 o plan p2 l es = some out) :
    SchT P GL n ops (ofL l) (stL es) (isOut out) ∨ ∃ l1 e1 l2 e2 l3 e3, out = (.normal, l3, e3) ∧ tidyK m0 o l1 e1 = some (l3, e3) ∧ tidyK m0 o l2 e2 = some (l3, e3) ∧ SchT P GL n ops (ofL l) (stL es) (isTwo l1 e1 l2 e2) := by
  unfold evTwo at h
  unfold twoOk at hok
  split at h
  · have h1 := evDraw_L hC opD_st (planOps ops plan) [es] l h
    have h2 := drawT_of_L plan [stL es] (ofL l) _ (plan_lt hok) h1
    exact .inl (any_draw (Q := isOut out) plan hok h2).sch
  · cases h
  · rename_i y p2
    obtain ⟨i, j, b⟩ := y
    simp only [Bool.and_eq_true, bne_iff_ne, ne_eq, decide_eq_true_eq] at hok
    obtain ⟨⟨⟨⟨o1, o2⟩, o3⟩, o4⟩, o5⟩ := hok
    obtain ⟨l1, e1, h1, h2⟩ := thC_some h
    unfold agr at h2
    obtain ⟨l3, e3, t1, h2⟩ := thT_some h2
    obtain ⟨l2, e2, h3, h4⟩ := thC_some h2
    obtain ⟨l4, e4, t2, h4⟩ := thT_some h4
    split at h4
    · rename_i hh
      obtain ⟨rfl, rfl⟩ := hh
      simp only [Option.some.injEq] at h4
      subst h4
      have one : ∀ (i j : Nat) (p : Plan) (l1 : Fr) (e1 : Sto), planOk n (addEdge ops j i) p = true → evDraw P GL C ops (planOps ops p) [es] l = some (.normal, l1, e1) → SchT P GL n (addEdge ops j i) (ofL l) (stL es) (isOut (.normal, l1, e1)) := fun i j p l1 e1 hp h => by
        have h1 := evDraw_L hC opD_st (planOps ops p) [es] l h
        have h2 := drawT_of_L p [stL es] (ofL l) _ (by have := plan_lt hp; rw [addEdge_size] at this; exact this) h1
        rw [← drawT_edge j i (E := ofL l)] at h2
        exact (any_draw (Q := isOut (.normal, l1, e1)) p hp h2).sch
      exact .inr ⟨l1, e1, l2, e2, l3, e3, rfl, t1, t2, ((one i j plan l1 e1 o4 h1).mono fun x E S hh => .inl hh).split o3 o2 o1 ((one j i p2 l2 e2 o5 h3).mono fun x E S hh => .inr hh)⟩
    · cases h4

/-- what comes of a region that draws its order -/
def SchO (P : Program) (GL : Nat → D) (n : Nat) (ops : Array Oper) (m0 : Nat) (o : Option (List Nat)) (l : Fr) (es : Sto) (out : Out) : Prop :=
  SchT P GL n ops (ofL l) (stL es) (isOut out) ∨ ∃ l1 e1 l2 e2 l3 e3, out = (.normal, l3, e3) ∧ tidyK m0 o l1 e1 = some (l3, e3) ∧ tidyK m0 o l2 e2 = some (l3, e3) ∧ SchT P GL n ops (ofL l) (stL es) (isTwo l1 e1 l2 e2)

theorem exOp_congr {E E' : Nat → D} {ops : Array Oper} {o : Oper} {es : Sto} (h : ∀ t ∈ o.looksAt ops, E' t = E t) : exOp P GL C [] E' es o = exOp P GL C [] E es o := by
  have h1 := rho_looks (GL := GL) h
  unfold exOp
  cases hc : calleeOf o with
  | some fa =>
    obtain ⟨f, args⟩ := fa
    obtain ⟨m1, m2⟩ := calleeOf_mem hc
    simp only
    rw [h1 f m2, List.map_congr_left fun x hx => h1 x (m1 x hx)]
  | none =>
    simp only
    cases hp : panicOf o with
    | some x =>
      simp only
      have hop : o.op = .panic x := by
        unfold panicOf at hp
        split at hp
        · rename_i y hy; simp only [Option.some.injEq] at hp; subst hp; exact hy
        · cases hp
      rw [h1 x (by rw [hop]; simp [Op.operands])]
    | none =>
      simp only
      have hz : frozenOf [] o = none := by
        unfold frozenOf
        split
        · simp
        · rfl
      rw [hz, ownOp_nil, ownOp_nil]
      simp only [opL, opD_congr o h1]

theorem OpP.of_ex (hC : SoundO P GL C) {E : Nat → D} {o : Oper} {es es' : Sto} {d : D} (h : exOp P GL C [] E es o = some (.pan d, es')) : OpP P GL n E (stL es) o d (stL es') := by
  intro mb g a w hs he hg hn hd
  refine op_mono2 (fun _ _ hh => hh) (fun e a' w' hh => ?_) (exOp_wp (Q := fun x E' S' => x = .pan d ∧ E' = E ∧ S' = stL es') hC (.refl g w) h hs he hg hn hd (fun _ _ _ _ hr => by cases hr) (fun d' hr => ?_))
  · obtain ⟨g', E', S', x, k1, k2, k3, k4, k5, k6, q1, q2, q3⟩ := hh
    exact ⟨g', _, S', x, k1, k2, fun _ => .undef, k4, k5, k6, q1, rfl, q3⟩
  · simp only [R.pan.injEq] at hr
    subst hr
    exact ⟨rfl, rfl, rfl⟩

theorem evPan_sch (hC : SoundO P GL C) {ops : Array Oper} {p : Option Plan} {m0 : Nat} {o : Option (List Nat)} {l : Fr} {es : Sto} {k : Option Out} {out : Out} (hok : panOkO n ops p = true) (hk : k = some out → SchO P GL n ops m0 o l es out) (h : evPan P GL C ops p l es k = some out) : SchO P GL n ops m0 o l es out := by
  unfold evPan at h
  split at h
  · exact hk h
  · cases h
  · rename_i i x1 x2 pre
    obtain ⟨l1, e1, h1, h2⟩ := thC_some h
    unfold panX at h2
    split at h2
    · rename_i o0 ho
      have hpl : panOk n ops i pre = true := hok
      have hplt : ∀ x ∈ pre, x.1 < ops.size := by
        have hq := hpl
        unfold panOk at hq
        simp only [Bool.and_eq_true] at hq
        have key : ∀ (pl : Plan) (dn cs : List Nat), ordOk ops pl dn cs = true → ∀ x ∈ pl, x.1 < ops.size := by
          intro pl
          induction pl with
          | nil => intro dn cs _ x hx; cases hx
          | cons y pl ih =>
            intro dn cs ho x hx
            obtain ⟨i, lo, ch⟩ := y
            unfold ordOk at ho
            split at ho
            · cases ho
            · rename_i o hoi
              simp only [Bool.and_eq_true] at ho
              rcases List.mem_cons.1 hx with rfl | hx
              · exact (Array.getElem?_eq_some_iff.1 hoi).1
              · exact ih _ _ ho.2 x hx
        exact key pre [] [] hq.1.1.1.1.1.2
      have hL := drawT_of_L pre [stL es] (ofL l) _ hplt (evDraw_L hC opD_st (planOps ops pre) [es] l h1)
      cases hgd : guardD ops (ofL l1) o0.guard with
      | none => rw [hgd] at h2; simp [stG, panC] at h2
      | some b =>
        rw [hgd] at h2
        simp only [stG, stp] at h2
        cases b with
        | false => exact hk (by simpa [panC] using h2)
        | true =>
          simp only [if_true] at h2
          cases hex : exOp P GL C [] (ofL l1) e1 o0 with
          | none => rw [hex] at h2; simp [panC] at h2
          | some y =>
            obtain ⟨r, es'⟩ := y
            rw [hex] at h2
            cases r with
            | ret d => exact hk (by simpa [panC] using h2)
            | pan d =>
              simp only [panC, Option.some.injEq] at h2
              subst h2
              refine .inl (any_pan (Q := isOut (.pan d, [], es')) hpl ho ?_ ⟨rfl, rfl, rfl⟩).sch
              have himp : ∀ E S, isOut (.normal, l1, e1) .normal E S → guardD ops E o0.guard = some true ∧ ∀ E', (∀ t ∈ o0.looksAt ops, E' t = E t) → OpP P GL n E' S o0 d (stL es') := by
                intro E S ⟨_, q2, q3⟩
                simp only at q2 q3
                subst q2 q3
                exact ⟨hgd, fun E' hE => .of_ex hC (by rw [exOp_congr hE]; exact hex)⟩
              exact drawT_mono himp _ _ _ hL
    · cases h2

theorem evAll_sch (hC : SoundO P GL C) {ops : Array Oper} {m0 : Nat} {A : Ann} {id : Nat} {plan : Plan} {l : Fr} {es : Sto} {out : Out} (hok : allOk n ops A id plan = true) (h : evAll P GL C ops m0 A id plan l es = some out) : SchO P GL n ops m0 (look A.keep (2000000 + id)) l es out := by
  unfold allOk at hok
  simp only [Bool.and_eq_true] at hok
  obtain ⟨⟨o1, o2⟩, o3⟩ := hok
  exact evPan_sch hC o2 (fun h1 => evPan_sch hC o3 (fun h2 => evTwo_sch hC o1 h2) h1) h

theorem lift_two {m0 : Nat} (h0 : ∀ i v, m0 ≤ i → g0.r i v = none) {o : Option (List Nat)} {l1 l2 l3 : Fr} {e1 e2 e3 : Sto} (t1 : tidyK m0 o l1 e1 = some (l3, e3)) (t2 : tidyK m0 o l2 e2 = some (l3, e3)) {mb : Nat} {e : Exit} {a : Act} {w : World}
    (h : Lift n mb g0 w0 (isTwo l1 e1 l2 e2) e a w) : Lift n mb g0 w0 (isOut (.normal, l3, e3)) e a w := by
  obtain ⟨g, E, S, x, k1, k2, k3, k4, k5, k6, hq⟩ := h
  have key : ∀ l1 e1, tidyK m0 o l1 e1 = some (l3, e3) → isOut (.normal, l1, e1) x E S → Lift n mb g0 w0 (isOut (.normal, l3, e3)) e a w := fun l1 e1 t hq => by
    obtain ⟨q1, q2, q3⟩ := hq
    simp only at q1 q2 q3
    subst q1 q2 q3
    unfold tidyK at t
    split at t
    · obtain ⟨g', v1, v2, v3, v4, v5⟩ := tidy_g h0 t a k1 k2 k3
      exact ⟨g', _, _, .normal, v1, v2, v3, k4, k5.of_r (fun D hD => by rw [v4]; exact hD) v5, by cases e <;> simp [Rel] at k6 ⊢, rfl, rfl, rfl⟩
    · simp only [Option.some.injEq, Prod.mk.injEq] at t
      obtain ⟨rfl, rfl⟩ := t
      exact ⟨g, _, _, .normal, k1, k2, k3, k4, k5, k6, rfl, rfl, rfl⟩
  exact hq.elim (key _ _ t1) (key _ _ t2)

/-- what is frozen ahead of a region -/
theorem rd_pre {lab : Nat} {c : Code} {l l1 : Fr} {es e1 : Sto} {o : Option (List Nat)} {Q : Post} (h : frzK o l es = some (.normal, l1, e1)) (hc : RdB lab P GL n g0 w0 c (ofL l1) (stL e1) Q) : RdB lab P GL n g0 w0 c (ofL l) (stL es) Q := by
  obtain ⟨l', es', e, hi⟩ := frzK_g h
  simp only [Prod.mk.injEq, true_and] at e
  obtain ⟨rfl, rfl⟩ := e
  intro mb a w g h1 h2 h3 h4 h5
  obtain ⟨g', k, s, en⟩ := hi a w g h2 h3
  exact hc mb a w g' (h1.trans k) s en h4 (h5.keep k)

theorem tri_pre {c : Code} {l l1 : Fr} {es e1 : Sto} {o : Option (List Nat)} {Q : Post} (h : frzK o l es = some (.normal, l1, e1)) (hc : TriB P GL n g0 w0 c (ofL l1) (stL e1) Q) : TriB P GL n g0 w0 c (ofL l) (stL es) Q := by
  obtain ⟨l', es', e, hi⟩ := frzK_at (P := P) (GL := GL) (n := n) (g0 := g0) (w0 := w0) h
  simp only [Prod.mk.injEq, true_and] at e
  obtain ⟨rfl, rfl⟩ := e
  exact hc.at hi

theorem pre_some {l : Fr} {es : Sto} {o : Option (List Nat)} {k : Fr → Sto → Option Out} {out : Out} (h : thO (frzK o l es) k = some out) : ∃ l1 e1, frzK o l es = some (.normal, l1, e1) ∧ k l1 e1 = some out := by
  rcases thO_some h with h | ⟨h1, h2⟩
  · exact h
  · unfold frzK at h1
    split at h1
    · simp only [Option.some.injEq] at h1; subst h1; exact absurd rfl h2
    · simp only [Option.some.injEq] at h1; subst h1; exact absurd rfl h2

/-- code in a round comes to just what the evaluator says -/
theorem evRd_sound (hC : SoundO P GL C) (hm : P.follows .mixedOrders = true) (lab : Nat) {rec : Nat → Code → Fr → Sto → Option Out} {A : Ann} : ∀ (c : Code), okRd n A c = true → ∀ (g0 : G) (w0 : World) (m0 : Nat), Glob g0 GL → (∀ i v, m0 ≤ i → g0.r i v = none) →
    ∀ l es out, evR P GL C A m0 rec c l es = some out → RdB lab P GL n g0 w0 c (ofL l) (stL es) (isOut out) := by
  intro c
  induction c with
  | skip =>
    intro _ g0 w0 m0 hG h0 l es out h
    simp only [evR, Option.some.injEq] at h; subst h
    exact fun mb a w g h1 h2 h3 h4 h5 => wpIn_skip ⟨g, _, _, .normal, h1, h2, h3, h4, h5, trivial, rfl, rfl, rfl⟩
  | region id ops dr =>
    intro hok g0 w0 m0 hG h0 l es out h
    simp only [evR] at h
    have h' := pre_some h
    clear h
    obtain ⟨l1, e1, hp1, h⟩ := h'
    refine rd_pre hp1 ?_
    clear hp1
    revert l1 e1
    clear l es
    intro l es h
    cases dr with
    | false =>
      simp only at h
      simp only [okRd, Bool.and_eq_true] at hok
      refine rd_frz h fun o1 h => ?_
      intro mb a w g hk hs he hn hd
      refine wpIn_region ?_
      have := evOps_wp (fz := A.froz) hC hok.1 ops.toList 0 rfl l es g a w hk h hs he (hG.mono hk.le) hn hd
      rw [List.range_eq_range']
      exact wpOps_round hok.2 lift_lets _ _ _ (by simpa using this)
    | true =>
      simp only at h
      simp only [okRd] at hok
      split at h
      · rename_i plan hp
        rw [hp] at hok
        simp only [Bool.and_eq_true] at hok
        refine rd_frz h fun o1 h => ?_
        intro mb a w g hk hs he hn hd
        refine wpIn_region_draw fun t => ?_
        simp only [Region.schedule, hm, Bool.true_or, if_true]
        refine wpOps_round hok.2 lift_lets _ _ _ ?_
        rcases evAll_sch hC hok.1 h with h | ⟨l1, e1, l2, e2, l3, e3, rfl, t1, t2, h⟩
        · have h3 := h g a w hs he (hG.mono hk.le) hn hd _ (lin_sch ops.size t _)
          exact wpOps_post (fun e a w hh => Lift.keep hk hh) _ _ _ h3
        · have h3 := h g a w hs he (hG.mono hk.le) hn hd _ (lin_sch ops.size t _)
          exact wpOps_post (fun e a w hh => lift_two h0 t1 t2 (Lift.keep hk hh)) _ _ _ h3
      · cases h
  | seq x y ihx ihy =>
    intro hok g0 w0 m0 hG h0 l es out h
    simp only [okRd, Bool.and_eq_true] at hok
    simp only [evR] at h
    intro mb a w g hk hs he hn hd
    refine wpIn_seq ?_
    rcases thO_some h with ⟨l1, e1, h1, h2⟩ | ⟨h1, h2⟩
    · refine wpIn_mono (ihx hok.1 g0 w0 m0 hG h0 l es _ h1 mb a w g hk hs he hn hd) ?_
      intro e a' w' ⟨g', E', S', xx, k1, k2, k3, k4, k5, k6, q1, q2, q3⟩
      simp only at q1 q2 q3
      subst q1 q2 q3
      cases e with
      | normal => exact ihy hok.2 g0 w0 m0 hG h0 l1 e1 out h2 mb a' w' g' k1 k2 k3 k4 k5
      | _ => simp [Rel] at k6
    · refine wpIn_mono (ihx hok.1 g0 w0 m0 hG h0 l es _ h1 mb a w g hk hs he hn hd) ?_
      intro e a' w' ⟨g', E', S', xx, k1, k2, k3, k4, k5, k6, q1, q2, q3⟩
      cases e with
      | normal =>
        obtain ⟨yy, l2, e2⟩ := out
        simp only at h2 q1
        subst q1
        cases xx <;> simp [Rel] at k6
        exact absurd rfl h2
      | _ => exact ⟨g', E', S', xx, k1, k2, k3, k4, k5, k6, q1, q2, q3⟩
  | cond c x y ihx ihy =>
    intro hok g0 w0 m0 hG h0 l es out h
    simp only [okRd, Bool.and_eq_true] at hok
    simp only [evR, cnd] at h
    split at h
    · rename_i t ht
      intro mb a w g hk hs he hn hd
      have := rho_V he (hG.mono hk.le) c
      rw [ht] at this
      have hv := (V_sc_inv this).1
      refine wpIn_cond_split hv (fun hb => ?_) (fun hb => ?_)
      · subst hb; exact ihx hok.1 g0 w0 m0 hG h0 l es out (by simpa using h) mb a w g hk hs he hn hd
      · subst hb; exact ihy hok.2 g0 w0 m0 hG h0 l es out (by simpa using h) mb a w g hk hs he hn hd
    · cases h
  | block id c ih =>
    intro hok g0 w0 m0 hG h0 l es out h
    simp only [okRd] at hok
    simp only [evR] at h
    cases hx : thT (tidyK m0 (look A.keep id) l es) (evR P GL C A m0 rec c) with
    | none => rw [hx] at h; simp [blk] at h
    | some o1 =>
      obtain ⟨l1, e1, h1, h2⟩ := thT_some hx
      rw [hx] at h
      intro mb a w g hk hs he hn hd
      obtain ⟨g', v1, v2, v3, v4⟩ : ∃ g', Keep g0 g' w0 w ∧ Sim g' (stL e1) w ∧ Env g' (ofL l1) a ∧ Mk mb g' w a.defers := by
        unfold tidyK at h1
        split at h1
        · obtain ⟨g', v1, v2, v3, v4, v5⟩ := tidy_g h0 h1 a hk hs he
          exact ⟨g', v1, v2, v3, hd.of_r (fun D hD => by rw [v4]; exact hD) v5⟩
        · simp only [Option.some.injEq, Prod.mk.injEq] at h1
          obtain ⟨rfl, rfl⟩ := h1
          exact ⟨g, hk, hs, he, hd⟩
      refine wpIn_block (wpIn_mono (ih hok g0 w0 m0 hG h0 l1 e1 o1 h2 mb a w g' v1 v2 v3 hn v4) ?_)
      intro e a' w' ⟨g', E', S', x, k1, k2, k3, k4, k5, k6, q1, q2, q3⟩
      subst q1 q2 q3
      obtain ⟨xx, l2, e2⟩ := o1
      cases xx with
      | exit i =>
        cases e with
        | exit j =>
          simp only [Rel] at k6
          subst k6
          simp only [blk] at h
          simp only [Exit.inBlock]
          split
          · rename_i hi
            rw [if_pos hi] at h
            simp only [Option.some.injEq] at h; subst h
            exact ⟨g', _, _, .normal, k1, k2, k3, k4, k5, trivial, rfl, rfl, rfl⟩
          · rename_i hi
            rw [if_neg hi] at h
            simp only [Option.some.injEq] at h; subst h
            exact ⟨g', _, _, .exit i, k1, k2, k3, k4, k5, rfl, rfl, rfl, rfl⟩
        | _ => simp [Rel] at k6
      | _ =>
        simp only [blk, Option.some.injEq] at h
        subst h
        cases e <;> first | (simp [Rel] at k6; done) | exact ⟨g', _, _, _, k1, k2, k3, k4, k5, k6, rfl, rfl, rfl⟩
  | exit id =>
    intro _ g0 w0 m0 hG h0 l es out h
    simp only [evR, Option.some.injEq] at h; subst h
    exact fun mb a w g h1 h2 h3 h4 h5 => wpIn_exit ⟨g, _, _, .exit id, h1, h2, h3, h4, h5, rfl, rfl, rfl, rfl⟩
  | ret =>
    intro _ g0 w0 m0 hG h0 l es out h
    simp only [evR, Option.some.injEq] at h; subst h
    exact fun mb a w g h1 h2 h3 h4 h5 => wpIn_ret ⟨g, _, _, .ret, h1, h2, h3, h4, h5, trivial, rfl, rfl, rfl⟩
  | _ => intro hok; cases hok

theorem evR_sound (hC : SoundO P GL C) (hm : P.follows .mixedOrders = true) (hG : Glob g0 GL) {A : Ann} (hI : SoundI P A.its) {m0 : Nat} (h0 : ∀ i v, m0 ≤ i → g0.r i v = none) {rec : Nat → Code → Fr → Sto → Option Out}
    (hrr : ∀ (lab : Nat) (c : Code), okRd n A c = true → ∀ (g0 : G) (w0 : World) (m0 : Nat), Glob g0 GL → (∀ i v, m0 ≤ i → g0.r i v = none) → ∀ l es out, rec m0 c l es = some out → RdB lab P GL n g0 w0 c (ofL l) (stL es) (isOut out)) :
    (∀ c, okCode n A c = true → Comes P GL n g0 w0 c (rec m0 c)) → ∀ c, okCode n A c = true → Comes P GL n g0 w0 c (evR P GL C A m0 rec c) := by
  intro hrec c
  have hfind : ∀ (c : Code) (lab : Nat) (rest : Code), okCode n A c = true → findLabel c lab = some rest → okCode n A rest = true := by
    intro c
    induction c with
    | seq x y ihx ihy =>
      intro lab rest hok hf
      simp only [okCode, Bool.and_eq_true] at hok
      simp only [findLabel] at hf
      split at hf
      · rename_i r hr
        simp only [Option.some.injEq] at hf
        subst hf
        simp only [okCode, Bool.and_eq_true]
        exact ⟨ihx lab r hok.1 hr, hok.2⟩
      · exact ihy lab rest hok.2 hf
    | label l =>
      intro lab rest _ hf
      simp only [findLabel] at hf
      split at hf
      · simp only [Option.some.injEq] at hf; subst hf; rfl
      · cases hf
    | _ => intro lab rest _ hf; simp [findLabel] at hf
  induction c with
  | skip =>
    intro _ l es out h
    simp only [evR, Option.some.injEq] at h; subst h
    exact (tri_skip (⟨rfl, rfl, rfl⟩ : isOut (.normal, l, es) .normal (ofL l) (stL es))).base hG
  | region id ops dr =>
    intro hok l es out h
    simp only [evR] at h
    have h' := pre_some h
    clear h
    obtain ⟨l1, e1, hp1, h⟩ := h'
    refine tri_pre hp1 ?_
    clear hp1
    revert l1 e1
    clear l es
    intro l es h
    cases dr with
    | false =>
      simp only at h
      simp only [okCode] at hok
      refine triB_frz h fun o1 h => ?_
      intro a w ⟨g, hk, hs, he, hn, hd⟩
      refine wp_region ?_
      have := evOps_wp (fz := A.froz) hC hok ops.toList 0 rfl l es g a w hk h hs he (hG.mono hk.le) hn hd
      rw [List.range_eq_range']
      simpa using this
    | true =>
      simp only at h
      simp only [okCode] at hok
      split at h
      · rename_i plan hp
        rw [hp] at hok
        simp only at hok
        refine triB_frz h fun o1 h => ?_
        rcases evAll_sch hC hok h with h | ⟨l1, e1, l2, e2, l3, e3, rfl, t1, t2, h⟩
        · exact (tri_sch (id := id) (Q := isOut o1) hm h).base hG
        · exact fun a w hat => wp_mono ((tri_sch (id := id) (Q := isTwo l1 e1 l2 e2) hm h).base hG a w hat) fun e a w hh => lift_two h0 t1 t2 hh
      · cases h
  | seq x y ihx ihy =>
    intro hok l es out h
    simp only [okCode, Bool.and_eq_true] at hok
    simp only [evR] at h
    refine triB_seq ?_
    rcases thO_some h with ⟨l1, e1, h1, h2⟩ | ⟨h1, h2⟩
    · refine (ihx hok.1 l es _ h1).mono fun x E S hq => ?_
      obtain ⟨q1, q2, q3⟩ := hq
      simp only at q1 q2 q3
      subst q1 q2 q3
      exact ihy hok.2 l1 e1 out h2
    · refine (ihx hok.1 l es _ h1).mono fun x E S hq => ?_
      obtain ⟨q1, q2, q3⟩ := hq
      subst q1 q2 q3
      obtain ⟨xx, l2, e2⟩ := out
      simp only at h2
      cases xx <;> first | exact absurd rfl h2 | exact ⟨rfl, rfl, rfl⟩
  | cond c x y ihx ihy =>
    intro hok l es out h
    simp only [okCode, Bool.and_eq_true] at hok
    simp only [evR, cnd] at h
    split at h
    · rename_i t ht
      refine triB_cond hG ht (fun hb => ?_) (fun hb => ?_)
      · subst hb; exact ihx hok.1 l es out (by simpa using h)
      · subst hb; exact ihy hok.2 l es out (by simpa using h)
    · cases h
  | block id c ih =>
    intro hok l es out h
    simp only [okCode] at hok
    simp only [evR] at h
    cases hx : thT (tidyK m0 (look A.keep id) l es) (evR P GL C A m0 rec c) with
    | none => rw [hx] at h; simp [blk] at h
    | some o1 =>
      obtain ⟨l1, e1, h1, h2⟩ := thT_some hx
      rw [hx] at h
      refine triB_block (TriB.at (tidyK_at h0 h1) ((ih hok l1 e1 o1 h2).mono fun x E S hq => ?_))
      obtain ⟨q1, q2, q3⟩ := hq
      subst q1 q2 q3
      obtain ⟨xx, l2, e2⟩ := o1
      cases xx with
      | exit i =>
        simp only [blk] at h
        simp only [blockPost]
        split
        · rename_i hi
          rw [if_pos hi] at h
          simp only [Option.some.injEq] at h; subst h; exact ⟨rfl, rfl, rfl⟩
        · rename_i hi
          rw [if_neg hi] at h
          simp only [Option.some.injEq] at h; subst h; exact ⟨rfl, rfl, rfl⟩
      | _ => simp only [blk, Option.some.injEq] at h; subst h; exact ⟨rfl, rfl, rfl⟩
  | loop c ih =>
    intro hok l es out h
    simp only [okCode] at hok
    simp only [evR, evL] at h
    obtain ⟨k, hk⟩ := lim_some h
    generalize hks : l.map Prod.fst = ks at hk
    refine triB_loop (fun i E S => ∃ l es, E = ofL l ∧ S = stL es ∧ iter m0 ks (evR P GL C A m0 rec c) i l es = some out) ?_ k ⟨l, es, rfl, rfl, hk⟩
    rintro i _ _ ⟨l1, e1, rfl, rfl, hi⟩
    cases i with
    | zero => simp [iter] at hi
    | succ i =>
      rw [iter] at hi
      have hr : ∃ o1, evR P GL C A m0 rec c l1 e1 = some o1 ∧ ((∃ l3 e3, o1 = (.normal, l3, e3) ∧ ∃ l2 e2, tidy m0 ks l3 e3 = some (l2, e2) ∧ iter m0 ks (evR P GL C A m0 rec c) i l2 e2 = some out) ∨ (o1 = out ∧ o1.1 ≠ .normal)) := by
        unfold rnd at hi
        split at hi
        · rename_i l3 e3 heq
          obtain ⟨l2, e2, p1, p2⟩ := thT_some hi
          exact ⟨_, heq, .inl ⟨l3, e3, rfl, l2, e2, p1, p2⟩⟩
        · rename_i hne
          obtain ⟨xx, l3, e3⟩ := out
          refine ⟨_, hi, .inr ⟨rfl, fun hj => ?_⟩⟩
          simp only at hj
          subst hj
          exact hne l3 e3 hi
      obtain ⟨o1, hx, hcase⟩ := hr
      refine (ih hok l1 e1 o1 hx).mono fun x E S hq => ?_
      obtain ⟨q1, q2, q3⟩ := hq
      subst q1 q2 q3
      rcases hcase with ⟨l3, e3, rfl, l2, e2, p1, p2⟩ | ⟨rfl, hne⟩
      · exact ⟨i, ofL l2, stL e2, Nat.lt_succ_self _, tidy_at h0 p1, l2, e2, rfl, rfl, p2⟩
      · obtain ⟨xx, l2, e2⟩ := o1
        cases xx <;> first | exact absurd rfl hne | exact ⟨rfl, rfl, rfl⟩
  | exit id =>
    intro _ l es out h
    simp only [evR, Option.some.injEq] at h; subst h
    exact (tri_exit (⟨rfl, rfl, rfl⟩ : isOut (.exit id, l, es) (.exit id) (ofL l) (stL es))).base hG
  | ret =>
    intro _ l es out h
    simp only [evR, Option.some.injEq] at h; subst h
    exact (tri_ret (⟨rfl, rfl, rfl⟩ : isOut (.ret, l, es) .ret (ofL l) (stL es))).base hG
  | label lab =>
    intro _ l es out h
    simp only [evR, Option.some.injEq] at h; subst h
    exact (tri_label (⟨rfl, rfl, rfl⟩ : isOut (.normal, l, es) .normal (ofL l) (stL es))).base hG
  | goto lab =>
    intro _ l es out h
    simp only [evR, Option.some.injEq] at h; subst h
    exact (tri_goto (⟨rfl, rfl, rfl⟩ : isOut (.goto lab, l, es) (.goto lab) (ofL l) (stL es))).base hG
  | scope c ih =>
    intro hok l es out h
    simp only [okCode] at hok
    simp only [evR, scp] at h
    split at h
    · rename_i lab hlab
      split at h
      · rename_i rest hrest
        have hrok := hfind c lab rest hok hrest
        have hjmp : ∀ (x : Option Out) (k : Fr → Sto → Option Out), jmp m0 lab (look A.keep (1000000 + lab)) x k = some out → ∃ o1, x = some o1 ∧ ((∃ l1 e1, o1 = (.goto lab, l1, e1) ∧ ∃ l2 e2, tidyK m0 (look A.keep (1000000 + lab)) l1 e1 = some (l2, e2) ∧ k l2 e2 = some out) ∨ (o1 = out ∧ ∀ j, o1.1 ≠ .goto j)) := by
          intro x k hj
          unfold jmp at hj
          split at hj
          · rename_i l' l1 e1
            split at hj
            · rename_i hl
              subst hl
              obtain ⟨l2, e2, p1, p2⟩ := thT_some hj
              exact ⟨_, rfl, .inl ⟨l1, e1, rfl, l2, e2, p1, p2⟩⟩
            · cases hj
          · rename_i hne
            subst hj
            obtain ⟨xx, l1, e1⟩ := out
            refine ⟨_, rfl, .inr ⟨rfl, fun j hj => ?_⟩⟩
            simp only at hj
            subst hj
            exact hne j l1 e1 rfl
        obtain ⟨o1, hx, hcase⟩ := hjmp _ _ h
        refine triB_scope lab hrest (fun i E S => ∃ l es, E = ofL l ∧ S = stL es ∧ jumps m0 lab (look A.keep (1000000 + lab)) (rec m0 rest) i l es = some out) ((ih hok l es o1 hx).mono fun x E S hq => ?_) ?_
        · obtain ⟨q1, q2, q3⟩ := hq
          subst q1 q2 q3
          rcases hcase with ⟨l1, e1, rfl, l2, e2, p1, p2⟩ | ⟨rfl, hne⟩
          · unfold evJ at p2
            obtain ⟨k, hk⟩ := lim_some p2
            exact ⟨rfl, k, ofL l2, stL e2, trivial, tidyK_at h0 p1, l2, e2, rfl, rfl, hk⟩
          · obtain ⟨xx, l2, e2⟩ := o1
            cases xx <;> first | exact absurd rfl (hne _) | exact ⟨rfl, rfl, rfl⟩
        · rintro i _ _ ⟨l1, e1, rfl, rfl, hi⟩
          cases i with
          | zero => simp [jumps] at hi
          | succ i =>
            rw [jumps] at hi
            obtain ⟨o2, hx2, hcase2⟩ := hjmp _ _ hi
            refine (hrec rest hrok l1 e1 o2 hx2).mono fun x E S hq => ?_
            obtain ⟨q1, q2, q3⟩ := hq
            subst q1 q2 q3
            rcases hcase2 with ⟨l3, e3, rfl, l2, e2, p1, p2⟩ | ⟨rfl, hne⟩
            · exact ⟨rfl, i, ofL l2, stL e2, Nat.lt_succ_self _, tidyK_at h0 p1, l2, e2, rfl, rfl, p2⟩
            · obtain ⟨xx, l2, e2⟩ := o2
              cases xx <;> first | exact absurd rfl (hne _) | exact ⟨rfl, rfl, rfl⟩
      · cases h
    · cases h
  | rangeFunc gop ps asg bod _ _ =>
    intro hok l es out h
    simp only [okCode, Bool.and_eq_true] at hok
    simp only [evR] at h
    cases hy : A.its (rhoD (ofL l) GL gop) with
    | none => rw [hy] at h; cases h
    | some yss =>
      rw [hy] at h
      simp only [rgO] at h
      refine triB_range hG h0 (fun p hp => ?_) (hI _ _ hy) (fun c hc lab g1 w1 m1 p1 p2 l es out h2 => ?_) h
      · have := hok.2
        rw [Array.all_eq_true_iff_forall_mem] at this
        simpa using this p (by simpa using hp)
      · rcases hc with rfl | rfl
        · exact hrr lab _ hok.1.1 g1 w1 m1 p1 p2 l es out h2
        · exact hrr lab _ hok.1.2 g1 w1 m1 p1 p2 l es out h2
  | refuse => intro _ l es out h; simp [evR] at h
end
end Go.Bw

/- The evaluator, part 8: what calls come to is what their bodies come to. -/
namespace Go.Bw
open Go

def Le (C C' : Orc) : Prop := ∀ f ds es r, C f ds es = some r → C' f ds es = some r

def Chain (Ck : Nat → Orc) : Prop := ∀ i j, i ≤ j → Le (Ck i) (Ck j)

noncomputable def limO (Ck : Nat → Orc) : Orc := fun f ds es => lim fun k => Ck k f ds es

theorem lim_of {α : Type} {s : Nat → Option α} (hs : ∀ i j x, i ≤ j → s i = some x → s j = some x) {k : Nat} {x : α} (h : s k = some x) : lim s = some x := by
  have he : ∃ n, (s n).isSome = true := ⟨k, by rw [h]; rfl⟩
  unfold lim
  rw [dif_pos he]
  obtain ⟨y, hy⟩ := Option.isSome_iff_exists.1 he.choose_spec
  rcases Nat.le_total k he.choose with hle | hle
  · exact hs _ _ _ hle h
  · have := hs _ _ _ hle hy
    rw [h] at this
    rw [hy]; exact this.symm

structure Cts {α : Type} (F : Orc → Option α) : Prop where
  mono : ∀ C C', Le C C' → ∀ x, F C = some x → F C' = some x
  cpt : ∀ Ck, Chain Ck → ∀ x, F (limO Ck) = some x → ∃ k, F (Ck k) = some x

theorem Le.lim {Ck : Nat → Orc} (h : Chain Ck) (k : Nat) : Le (Ck k) (limO Ck) := fun f ds es _ hr =>
  lim_of (s := fun k => Ck k f ds es) (fun i j _ hij hx => h i j hij f ds es _ hx) (k := k) hr

theorem Cts.const {α : Type} (x : Option α) : Cts (fun _ => x) := ⟨fun _ _ _ _ h => h, fun _ _ _ h => ⟨0, h⟩⟩
theorem Cts.orc (f : FuncId) (ds : List D) (es : Sto) : Cts (fun C => C f ds es) := ⟨fun _ _ h _ hx => h _ _ _ _ hx, fun _ _ _ h => lim_some h⟩
theorem Cts.bind {α β : Type} {F : Orc → Option α} {K : Orc → α → Option β} (h : Cts F) (k : ∀ x, Cts (fun C => K C x)) : Cts (fun C => (F C).bind (K C)) where
  mono := fun C C' hle x hx => by
    obtain ⟨y, h1, h2⟩ := Option.bind_eq_some_iff.1 hx
    exact Option.bind_eq_some_iff.2 ⟨y, h.mono C C' hle y h1, (k y).mono C C' hle x h2⟩
  cpt := fun Ck hc x hx => by
    obtain ⟨y, h1, h2⟩ := Option.bind_eq_some_iff.1 hx
    obtain ⟨i, hi⟩ := h.cpt Ck hc y h1
    obtain ⟨j, hj⟩ := (k y).cpt Ck hc x h2
    exact ⟨max i j, Option.bind_eq_some_iff.2 ⟨y, h.mono _ _ (hc i _ (Nat.le_max_left ..)) y hi, (k y).mono _ _ (hc j _ (Nat.le_max_right ..)) x hj⟩⟩
theorem Cts.ite {α : Type} {p : Prop} [Decidable p] {F K : Orc → Option α} (h : Cts F) (k : Cts K) : Cts (fun C => if p then F C else K C) := by
  by_cases hp : p
  · simp only [if_pos hp]; exact h
  · simp only [if_neg hp]; exact k
theorem Cts.congr {α : Type} {F K : Orc → Option α} (h : Cts F) (e : ∀ C, K C = F C) : Cts K := by
  have : K = F := funext e
  rw [this]; exact h

theorem Cts.thO {F : Orc → Option Out} {K : Orc → Fr → Sto → Option Out} (h : Cts F) (k : ∀ l es, Cts (fun C => K C l es)) : Cts (fun C => thO (F C) (K C)) :=
  (Cts.bind (K := fun C o => match o with | (.normal, l, es) => K C l es | o => some o) h fun ⟨x, l, es⟩ => by
    cases x <;> first | exact k l es | exact .const _).congr fun C => by
    unfold Bw.thO
    cases F C with
    | none => rfl
    | some o => obtain ⟨x, l, es⟩ := o; cases x <;> rfl
theorem Cts.thC {F : Orc → Option Out} {K : Orc → Fr → Sto → Option Out} (h : Cts F) (k : ∀ l es, Cts (fun C => K C l es)) : Cts (fun C => thC (F C) (K C)) :=
  (Cts.bind (K := fun C o => match o with | (.normal, l, es) => K C l es | _ => none) h fun ⟨x, l, es⟩ => by
    cases x <;> first | exact k l es | exact .const _).congr fun C => by
    unfold Bw.thC
    cases F C with
    | none => rfl
    | some o => obtain ⟨x, l, es⟩ := o; cases x <;> rfl
theorem Cts.thT {x : Option (Fr × Sto)} {K : Orc → Fr → Sto → Option Out} (k : ∀ l es, Cts (fun C => K C l es)) : Cts (fun C => thT x (K C)) := by
  unfold Bw.thT
  cases x with
  | none => exact .const _
  | some y => exact k _ _
theorem Cts.thD {F : Orc → Option D} {t : Option Tmp} {l : Fr} {K : Orc → Fr → Option Out} (h : Cts F) (k : ∀ l, Cts (fun C => K C l)) : Cts (fun C => thD (F C) t l (K C)) :=
  (Cts.bind (K := fun C d => K C (setO l t d)) h fun d => k _).congr fun C => by
    unfold Bw.thD
    cases F C <;> rfl
theorem Cts.rnd {m0 : Nat} {ks : List Nat} {F : Orc → Option Out} {K : Orc → Fr → Sto → Option Out} (h : Cts F) (k : ∀ l es, Cts (fun C => K C l es)) : Cts (fun C => rnd m0 ks (F C) (K C)) :=
  (Cts.bind (K := fun C o => match o with | (.normal, l, es) => Bw.thT (tidy m0 ks l es) (K C) | o => some o) h fun ⟨x, l, es⟩ => by
    cases x <;> first | exact .thT k | exact .const _).congr fun C => by
    unfold Bw.rnd
    cases F C with
    | none => rfl
    | some o => obtain ⟨x, l, es⟩ := o; cases x <;> rfl
theorem Cts.jmp {m0 lab : Nat} {ks : Option (List Nat)} {F : Orc → Option Out} {K : Orc → Fr → Sto → Option Out} (h : Cts F) (k : ∀ l es, Cts (fun C => K C l es)) : Cts (fun C => jmp m0 lab ks (F C) (K C)) :=
  (Cts.bind (K := fun C o => match o with | (.goto l', l, es) => (if l' = lab then Bw.thT (tidyK m0 ks l es) (K C) else none) | o => some o) h fun ⟨x, l, es⟩ => by
    cases x <;> first | exact .ite (.thT k) (.const _) | exact .const _).congr fun C => by
    unfold Bw.jmp
    cases F C with
    | none => rfl
    | some o => obtain ⟨x, l, es⟩ := o; cases x <;> rfl

theorem Cts.rgS {F : Orc → Option Out} {K : Orc → Sto → Option Out} {l : Fr} (h : Cts F) (k : ∀ es, Cts (fun C => K C es)) : Cts (fun C => rgS (F C) (K C) l) :=
  (Cts.bind (K := fun C o => match o with | (.normal, _, es) => K C es | (.ret, _, es) => some (.ret, l, es) | (.exit i, _, es) => some (.exit i, l, es) | _ => none) h fun ⟨x, l, es⟩ => by
    cases x <;> first | exact k es | exact .const _).congr fun C => by
    unfold Bw.rgS
    cases F C with
    | none => rfl
    | some o => obtain ⟨x, l, es⟩ := o; cases x <;> rfl

section
variable {P : Program} {GL : Nat → D}

theorem cts_callE (f : FuncId) (ds : List D) (es : Sto) : Cts (fun C => callE C f ds es) := by
  unfold callE
  cases gcA 0 ds es with
  | none => exact .const _
  | some x =>
    obtain ⟨ids, ds', es'⟩ := x
    simp only [callG]
    exact (Cts.bind (K := fun _ y => unpk es ids (some y)) (.orc f ds' es') fun _ => .const _).congr fun C => by
      cases C f ds' es' <;> rfl

theorem cts_callV (fd : D) (ds : List D) (es : Sto) : Cts (fun C => callV C fd ds es) := by
  unfold callV
  split
  · exact cts_callE _ _ _
  · exact .const _

theorem cts_callB (b : Bool) (fd : D) (ds : List D) (es : Sto) : Cts (fun C => callB C b fd ds es) := by
  unfold callB
  refine .ite ?_ (cts_callV ..)
  exact (Cts.bind (K := fun _ y => brwR es (some y)) (cts_callV (frzN es allF 20 fd) (ds.map (frzN es allF 20)) (frzSto es allF 20)) fun _ => .const _).congr fun C => by
    cases callV C (frzN es allF 20 fd) (ds.map (frzN es allF 20)) (frzSto es allF 20) <;> rfl

theorem cts_invD (name : String) (d : D) (ds : List D) (es : Sto) : Cts (fun C => invD P C name d ds es) := by
  unfold invD
  split
  · split
    · rename_i t x _ f _
      exact (Cts.bind (K := fun _ y => retR (some y)) (cts_callE f (x :: ds) es) fun _ => .const _).congr fun C => by
        cases callE C f (x :: ds) es <;> rfl
    · exact .const _
  · exact .const _
theorem cts_exOp (fz : List Nat) (E : Nat → D) (es : Sto) (o : Oper) : Cts (fun C => exOp P GL C fz E es o) := by
  unfold exOp
  split
  · exact cts_callB ..
  · split
    · exact .const _
    · split
      · exact .const _
      · by_cases hi : ∃ recv name args ats tm, o.op = .call ⟨.invoke recv name, args, ats⟩ ∧ o.dst = some tm
        · obtain ⟨recv, name, args, ats, tm, h1, h2⟩ := hi
          unfold ownOp
          simp only [h1, h2]
          by_cases hm : tm ∈ fz
          · simp only [hm, if_true]
            exact cts_invD ..
          · simp only [hm, if_false]
            exact .const _
        · have key : ∀ C C' : Orc, ownOp P GL C fz E es o = ownOp P GL C' fz E es o := fun C C' => by
            unfold ownOp
            split <;> first | rfl | (exfalso; exact hi ⟨_, _, _, _, _, by assumption, by assumption⟩)
          have key2 : ∀ C, ownOp P GL C fz E es o = ownOp P GL (fun _ _ _ => none) fz E es o := fun C => key C _
          simp only [key2]
          exact .const _

theorem cts_stG {F : Orc → Option (R × Sto)} (h : Cts F) (g : Option Bool) (t : Option Tmp) (l : Fr) (es : Sto) : Cts (fun C => stG g (F C) t l es) := by
  cases g with
  | none => exact .const _
  | some b =>
    simp only [stG, stp]
    refine .ite ?_ (.const _)
    exact (Cts.bind (K := fun _ (y : R × Sto) => match y with | (.ret d, es') => some (.normal, setO l t d, es') | (.pan d, es') => some (.pan d, l, es')) h fun _ => .const _).congr fun C => by
      cases F C with
      | none => rfl
      | some y => obtain ⟨r, e⟩ := y; cases r <;> rfl

theorem cts_evOps (fz : List Nat) (ops : Array Oper) : ∀ (rest : List Oper) (l : Fr) (es : Sto), Cts (fun C => evOps P GL C fz ops rest l es)
  | [], l, es => .const _
  | o :: rest, l, es => Cts.thO (cts_stG (cts_exOp ..) ..) (cts_evOps fz ops rest)

open Classical in
theorem cts_drOp (lo : Nat) (E : Nat → D) (es : Sto) (er : List Sto) (o : Oper) : Cts (fun C => drOp P GL C lo E es er o) := by
  have key : ∀ (fd : D) (args : List D) (d : D) (l : List Sto), Cts (fun C => if ∀ e1 ∈ l, callV C fd args e1 = some (.ret d, e1) then some () else none) := by
    intro fd args d l
    induction l with
    | nil => exact (Cts.const (some ())).congr fun C => by simp
    | cons e l ih =>
      refine (Cts.bind (F := fun C => callV C fd args e) (K := fun C y => if y = (.ret d, e) then (if ∀ e1 ∈ l, callV C fd args e1 = some (.ret d, e1) then some () else none) else none) (cts_callV ..) fun y => .ite ih (.const _)).congr fun C => ?_
      cases hc : callV C fd args e with
      | none => simp [hc]
      | some y =>
        simp only [List.mem_cons, forall_eq_or_imp, hc, Option.some.injEq, Option.bind_some]
        by_cases hy : y = (.ret d, e)
        · simp [hy]
        · simp [hy]
  unfold drOp
  split
  · rename_i f args hc
    refine (Cts.bind (F := fun C => callV C (rhoD E GL f) (args.map (rhoD E GL)) es)
      (K := fun C y => match y with | (.ret d, es') => (if es' = es then (if ∀ e1 ∈ er.take (er.length - lo), callV C (rhoD E GL f) (args.map (rhoD E GL)) e1 = some (.ret d, e1) then some () else none).bind fun _ => some d else none) | _ => none) (cts_callV ..) fun ⟨r, es'⟩ => ?_).congr fun C => ?_
    · cases r with
      | ret d => exact .ite ((key ..).bind fun _ => .const _) (.const _)
      | pan d => exact .const _
    · cases hcv : callV C (rhoD E GL f) (args.map (rhoD E GL)) es with
      | none => rfl
      | some y =>
        obtain ⟨r, es'⟩ := y
        cases r with
        | pan d => rfl
        | ret d =>
          simp only [Option.bind_some]
          by_cases h1 : es' = es
          · by_cases h2 : ∀ e1 ∈ er.take (er.length - lo), callV C (rhoD E GL f) (args.map (rhoD E GL)) e1 = some (.ret d, e1)
            · rw [if_pos ⟨h1, h2⟩, if_pos h1, if_pos h2]; rfl
            · rw [if_neg (fun hh => h2 hh.2), if_pos h1, if_neg h2]; rfl
          · rw [if_neg (fun hh => h1 hh.1), if_neg h1]
  · exact .const _

theorem cts_evDraw (ops : Array Oper) : ∀ (plan : List (Oper × Nat × Bool)) (Ss : List Sto) (l : Fr), Cts (fun C => evDraw P GL C ops plan Ss l)
  | [], [], l => by simp only [evDraw]; exact .const _
  | [], _ :: _, l => by simp only [evDraw]; exact .const _
  | (_, _, ch) :: _, [], l => by cases ch <;> (simp only [evDraw]; exact .const _)
  | (o, lo, true) :: rest, e :: er, l => by
    simp only [evDraw]
    exact Cts.thC (cts_stG (cts_exOp ..) ..) fun l' e' => cts_evDraw ops rest _ _
  | (o, lo, false) :: rest, e :: er, l => by
    simp only [evDraw]
    refine Cts.thD ?_ fun l' => cts_evDraw ops rest _ _
    unfold dsG
    split
    · unfold dsp
      exact .ite (cts_drOp ..) (.const _)
    · exact .const _

theorem cts_evTwo (ops : Array Oper) (m0 : Nat) (o : Option (List Nat)) (plan : Plan) (p2 : Option Plan) (l : Fr) (es : Sto) : Cts (fun C => evTwo P GL C ops m0 o plan p2 l es) := by
  unfold evTwo
  split
  · exact cts_evDraw ..
  · exact .const _
  · refine Cts.thC (cts_evDraw ..) fun l1 e1 => ?_
    unfold agr
    exact Cts.thT fun _ _ => Cts.thC (cts_evDraw ..) fun _ _ => .const _

theorem cts_panX (ops : Array Oper) (o : Option Oper) (l : Fr) (es : Sto) {k : Orc → Option Out} (hk : Cts k) : Cts (fun C => panX P GL C ops o l es (k C)) := by
  unfold panX
  split
  · rename_i o
    have h1 : Cts (fun C => stG (guardD ops (ofL l) o.guard) (exOp P GL C [] (ofL l) es o) o.dst l es) := cts_stG (cts_exOp ..) ..
    have h2 : ∀ x : Out, Cts (fun C => panC (some x) (k C)) := fun x => by
      obtain ⟨x, l2, e2⟩ := x
      cases x with
      | normal => exact hk
      | _ => exact .const _
    exact (Cts.bind (K := fun C y => panC (some y) (k C)) h1 h2).congr fun C => by
      cases stG (guardD ops (ofL l) o.guard) (exOp P GL C [] (ofL l) es o) o.dst l es <;> rfl
  · exact .const _

theorem cts_evPan (ops : Array Oper) (p : Option Plan) (l : Fr) (es : Sto) {k : Orc → Option Out} (hk : Cts k) : Cts (fun C => evPan P GL C ops p l es (k C)) := by
  unfold evPan
  split
  · exact hk
  · exact .const _
  · exact Cts.thC (cts_evDraw ..) fun l1 e1 => cts_panX _ _ _ _ hk

theorem cts_evAll (ops : Array Oper) (m0 : Nat) (A : Ann) (id : Nat) (plan : Plan) (l : Fr) (es : Sto) : Cts (fun C => evAll P GL C ops m0 A id plan l es) := by
  unfold evAll
  exact cts_evPan _ _ _ _ (cts_evPan _ _ _ _ (cts_evTwo ..))

theorem iter_mono {m0 : Nat} {ks : List Nat} {g : Fr → Sto → Option Out} : ∀ (i j : Nat) (l : Fr) (es : Sto) (x : Out), i ≤ j → iter m0 ks g i l es = some x → iter m0 ks g j l es = some x
  | 0, _, _, _, _, _, h => by simp [iter] at h
  | i + 1, 0, _, _, _, hij, _ => by omega
  | i + 1, j + 1, l, es, x, hij, h => by
    rw [iter] at h ⊢
    unfold rnd at h ⊢
    split at h
    · rename_i l1 e1 heq
      obtain ⟨l2, e2, h1, h2⟩ := thT_some h
      simp only [h1, thT]
      exact iter_mono i j l2 e2 x (by omega) h2
    · exact h

theorem jumps_mono {m0 lab : Nat} {ks : Option (List Nat)} {g : Fr → Sto → Option Out} : ∀ (i j : Nat) (l : Fr) (es : Sto) (x : Out), i ≤ j → jumps m0 lab ks g i l es = some x → jumps m0 lab ks g j l es = some x
  | 0, _, _, _, _, _, h => by simp [jumps] at h
  | i + 1, 0, _, _, _, hij, _ => by omega
  | i + 1, j + 1, l, es, x, hij, h => by
    rw [jumps] at h ⊢
    unfold jmp at h ⊢
    split at h
    · rename_i l' l1 e1 heq
      split at h
      · rename_i hl
        simp only [if_pos hl]
        obtain ⟨l2, e2, h1, h2⟩ := thT_some h
        simp only [h1, thT]
        exact jumps_mono i j l2 e2 x (by omega) h2
      · cases h
    · exact h

theorem cts_iter {m0 : Nat} {ks : List Nat} {g : Orc → Fr → Sto → Option Out} (hg : ∀ l es, Cts (fun C => g C l es)) : ∀ (n : Nat) (l : Fr) (es : Sto), Cts (fun C => iter m0 ks (g C) n l es)
  | 0, _, _ => .const _
  | n + 1, l, es => Cts.rnd (hg l es) (cts_iter hg n)

theorem cts_jumps {m0 lab : Nat} {ks : Option (List Nat)} {g : Orc → Fr → Sto → Option Out} (hg : ∀ l es, Cts (fun C => g C l es)) : ∀ (n : Nat) (l : Fr) (es : Sto), Cts (fun C => jumps m0 lab ks (g C) n l es)
  | 0, _, _ => .const _
  | n + 1, l, es => Cts.jmp (hg l es) (cts_jumps hg n)

theorem cts_lim {α : Type} {s : Orc → Nat → Option α} (hs : ∀ C i j x, i ≤ j → s C i = some x → s C j = some x) (h : ∀ n, Cts (fun C => s C n)) : Cts (fun C => lim (s C)) where
  mono := fun C C' hle x hx => by
    obtain ⟨k, hk⟩ := lim_some hx
    exact lim_of (hs C') ((h k).mono C C' hle x hk)
  cpt := fun Ck hc x hx => by
    obtain ⟨n, hn⟩ := lim_some hx
    obtain ⟨k, hk⟩ := (h n).cpt Ck hc x hn
    exact ⟨k, lim_of (hs (Ck k)) hk⟩

theorem cts_rgL {m0 : Nat} {ps : List Nat} {k : Orc → Nat → Fr → Sto → Option Out} (hk : ∀ m l es, Cts (fun C => k C m l es)) : ∀ (yss : List (List D)) (l : Fr) (es : Sto), Cts (fun C => rgL m0 ps (k C) yss l es)
  | [], l, es => by simp only [rgL]; exact .const _
  | ys :: r, l, es => by
    simp only [rgL]
    split
    · exact Cts.rgS (hk ..) fun e => Cts.thT fun l2 e2 => cts_rgL hk r l2 e2
    · exact .const _

theorem cts_evR {A : Ann} {m0 : Nat} {rec : Orc → Nat → Code → Fr → Sto → Option Out} (hr : ∀ m c l es, Cts (fun C => rec C m c l es)) : ∀ (c : Code) (l : Fr) (es : Sto), Cts (fun C => evR P GL C A m0 (rec C) c l es) := by
  intro c
  induction c with
  | region id ops dr =>
    intro l es
    simp only [evR]
    refine Cts.thO (.const _) fun l es => ?_
    cases dr with
    | false => exact Cts.thO (cts_evOps ..) fun _ _ => .const _
    | true =>
      simp only
      split
      · exact Cts.thO (cts_evAll ..) fun _ _ => .const _
      · exact .const _
  | seq x y ihx ihy => intro l es; simp only [evR]; exact Cts.thO (ihx l es) ihy
  | cond c x y ihx ihy =>
    intro l es
    simp only [evR, cnd]
    split
    · exact .ite (ihx l es) (ihy l es)
    · exact .const _
  | block id c ih =>
    intro l es
    simp only [evR]
    exact (Cts.bind (K := fun _ o => blk id (some o)) (Cts.thT (x := tidyK m0 (look A.keep id) l es) ih) fun _ => .const _).congr fun C => by
      cases thT (tidyK m0 (look A.keep id) l es) (evR P GL C A m0 (rec C) c) <;> rfl
  | loop c ih =>
    intro l es
    simp only [evR, evL]
    exact cts_lim (fun C i j x hij h => iter_mono i j l es x hij h) fun n => cts_iter ih n l es
  | scope c ih =>
    intro l es
    simp only [evR, scp]
    split
    · split
      · rename_i lab _ rest _
        refine Cts.jmp (ih l es) fun l2 e2 => ?_
        unfold evJ
        exact cts_lim (fun C i j x hij h => jumps_mono i j l2 e2 x hij h) fun n => cts_jumps (hr m0 rest) n l2 e2
      · exact .const _
    · exact .const _
  | rangeFunc gop ps asg bod _ _ =>
    intro l es
    simp only [evR, rgO]
    split
    · rename_i yss _
      exact cts_rgL (k := fun C => rgB (rec C) asg bod) (fun m l es => by
        unfold rgB
        exact Cts.thC (hr m asg l es) fun l1 e1 => hr e1.length bod l1 e1) yss l es
    · exact .const _
  | _ => intro l es; simp only [evR]; exact .const _

theorem cts_evB (A : Ann) (fn : Func) (ds : List D) (es : Sto) : Cts (fun C => evB P GL C A fn ds es) := by
  unfold evB
  split
  · rename_i c _
    have h : Cts (fun C => evC P GL C A es.length c (argsL 0 ds) es) := by
      unfold evC
      exact cts_evR (fun m c l es => cts_evR (fun _ _ _ _ => .const _) c l es) c _ _
    exact (Cts.bind (K := fun _ o => fin P A.frz es.length fn.results.toList (some o)) h fun _ => .const _).congr fun C => by
      cases evC P GL C A es.length c (argsL 0 ds) es <;> rfl
  · exact .const _

theorem cts_canO {α : Type} {F : Orc → Option α} (h : Cts F) (nc : List Nat) : Cts (fun C => F (canO nc C)) where
  mono := fun C C' hle x hx => h.mono _ _ (fun f ds es r hr => hle f _ _ r hr) x hx
  cpt := fun Ck hc x hx => h.cpt (fun k => canO nc (Ck k)) (fun i j hij f ds es r hr => hc i j hij f _ _ r hr) x hx

theorem cts_evStep (An : FuncId → Ann) (nc : List Nat) (X : Orc) (f : FuncId) (ds : List D) (es : Sto) : Cts (fun C => evStep P GL An nc X C f ds es) := by
  unfold evStep
  split
  · exact .const _
  · split
    · refine .ite ?_ (.const _)
      rename_i fn _
      exact (Cts.bind (K := fun _ y => cnsF (look (An f).keep 4000000) es.length (some y)) (cts_canO (cts_evB (An f) fn ds es) nc) fun _ => .const _).congr fun C => by
        cases evB P GL (canO nc C) (An f) fn ds es with
        | none => simp only [Option.bind_none, cnsF]; cases look (An f).keep 4000000 <;> rfl
        | some y => rfl
    · exact .const _

theorem evK_le (An : FuncId → Ann) (nc : List Nat) (X : Orc) : ∀ k, Le (evK P GL An nc X k) (evK P GL An nc X (k + 1))
  | 0 => fun f ds es r h => by simp [evK] at h
  | k + 1 => fun f ds es r h => (cts_evStep An nc X f ds es).mono _ _ (evK_le An nc X k) r h

theorem evK_chain (An : FuncId → Ann) (nc : List Nat) (X : Orc) : Chain (evK P GL An nc X) := by
  intro i j hij
  induction hij with
  | refl => exact fun _ _ _ _ h => h
  | step _ ih => exact fun f ds es r h => evK_le An nc X _ f ds es r (ih f ds es r h)

/-- WHAT A CALL COMES TO, BY ITS BODY -/
theorem ev_eq (An : FuncId → Ann) (nc : List Nat) (X : Orc) (f : FuncId) (ds : List D) (es : Sto) : ev P GL An nc X f ds es = evStep P GL An nc X (ev P GL An nc X) f ds es := by
  have he : ev P GL An nc X = limO (evK P GL An nc X) := rfl
  have hc : Chain (evK P GL An nc X) := evK_chain An nc X
  apply Option.ext
  intro r
  constructor
  · intro h
    obtain ⟨k, hk⟩ := lim_some h
    cases k with
    | zero => simp [evK] at hk
    | succ k =>
      rw [he]
      exact (cts_evStep An nc X f ds es).mono _ _ (Le.lim hc k) r hk
  · intro h
    rw [he] at h
    obtain ⟨k, hk⟩ := (cts_evStep An nc X f ds es).cpt _ hc r h
    rw [he]
    exact Le.lim hc (k + 1) f ds es r hk

theorem evL_eq (m0 : Nat) (ks : List Nat) (g : Fr → Sto → Option Out) (l : Fr) (es : Sto) : evL m0 ks g l es = rnd m0 ks (g l es) (evL m0 ks g) := by
  have up : ∀ (x : Option Out) (k : Nat) (r : Out), rnd m0 ks x (iter m0 ks g k) = some r → rnd m0 ks x (evL m0 ks g) = some r := by
    intro x k r h
    unfold rnd at h ⊢
    split at h
    · rename_i l1 e1
      obtain ⟨l2, e2, h1, h2⟩ := thT_some h
      simp only [h1, thT]
      exact lim_of (fun i j x hij h => iter_mono i j l2 e2 x hij h) h2
    · exact h
  apply Option.ext
  intro r
  constructor
  · intro h
    obtain ⟨k, hk⟩ := lim_some h
    cases k with
    | zero => simp [iter] at hk
    | succ k => exact up _ k r hk
  · intro h
    have : ∃ k, rnd m0 ks (g l es) (iter m0 ks g k) = some r := by
      unfold rnd at h ⊢
      split at h
      · rename_i l1 e1 heq
        obtain ⟨l2, e2, h1, h2⟩ := thT_some h
        obtain ⟨k, hk⟩ := lim_some h2
        exact ⟨k, by simp only [h1, thT]; exact hk⟩
      · exact ⟨0, h⟩
    obtain ⟨k, hk⟩ := this
    exact lim_of (fun i j x hij h => iter_mono i j l es x hij h) (k := k + 1) hk

theorem evJ_eq (m0 lab : Nat) (ks : Option (List Nat)) (g : Fr → Sto → Option Out) (l : Fr) (es : Sto) : evJ m0 lab ks g l es = jmp m0 lab ks (g l es) (evJ m0 lab ks g) := by
  apply Option.ext
  intro r
  constructor
  · intro h
    obtain ⟨k, hk⟩ := lim_some h
    cases k with
    | zero => simp [jumps] at hk
    | succ k =>
      rw [jumps] at hk
      unfold jmp at hk ⊢
      split at hk
      · rename_i l' l1 e1 heq
        split at hk
        · rename_i hl
          simp only [if_pos hl]
          obtain ⟨l2, e2, h1, h2⟩ := thT_some hk
          simp only [h1, thT]
          exact lim_of (fun i j x hij h => jumps_mono i j l2 e2 x hij h) h2
        · cases hk
      · exact hk
  · intro h
    have : ∃ k, jmp m0 lab ks (g l es) (jumps m0 lab ks g k) = some r := by
      unfold jmp at h ⊢
      split at h
      · rename_i l' l1 e1 heq
        split at h
        · rename_i hl
          obtain ⟨l2, e2, h1, h2⟩ := thT_some h
          obtain ⟨k, hk⟩ := lim_some h2
          exact ⟨k, by simp only [if_pos hl, h1, thT]; exact hk⟩
        · cases h
      · exact ⟨0, h⟩
    obtain ⟨k, hk⟩ := this
    exact lim_of (fun i j x hij h => jumps_mono i j l es x hij h) (k := k + 1) hk
end
end Go.Bw

/- The evaluator, part 9: what it says of calls is so. -/
namespace Go.Bw
open Go

section
variable {P : Program} {GL : Nat → D} {C : Orc}

theorem ofL_argsL : ∀ (ds : List D) (k t : Nat), ofL (argsL k ds) t = if t < k then .undef else ds.getD (t - k) .undef
  | [], k, t => by simp [argsL, ofL]
  | d :: l, k, t => by
    simp only [argsL, ofL]
    split
    · rename_i h; subst h; simp
    · rename_i h
      rw [ofL_argsL l (k + 1) t]
      rcases Nat.lt_or_ge t k with hl | hl
      · rw [if_pos (by omega), if_pos hl]
      · rw [if_neg (by omega), if_neg (by omega)]
        have : t - k = (t - (k + 1)) + 1 := by omega
        rw [this, List.getD_cons_succ]

theorem argsE_argsL (ds : List D) : argsE ds = ofL (argsL 0 ds) := by
  funext t
  rw [ofL_argsL]
  simp [argsE]

theorem Sim.ud {g : G} {es : Sto} {w : World} (h : Sim g (stL es) w) : Sim g (stL (es.map udR)) w := by
  have hrow : ∀ i e, rowOf (es.map udR) i = some e → ∃ e0, rowOf es i = some e0 ∧ e.ver = e0.ver ∧ e.ob = e0.ob.map fun _ => D.undef := by
    intro i e he
    unfold rowOf at he ⊢
    rw [List.getElem?_map] at he
    cases hx : es[i]? with
    | none => rw [hx] at he; simp at he
    | some o =>
      rw [hx] at he
      simp only [Option.map_some, Option.getD_some, udR, Option.map_eq_some_iff] at he
      obtain ⟨e0, h1, rfl⟩ := he
      exact ⟨e0, by simp [h1], rfl, rfl⟩
  refine ⟨h.imm, fun i e he => ?_, fun i j e e' b n n' hi hj ri rj => ?_, fun i v hi => ?_, fun i hi => ?_, fun i e v hi hv => ?_, h.inb⟩
  · obtain ⟨e0, h1, h2, h3⟩ := hrow i e he
    obtain ⟨b, n, c, t, fz, a1, a2, a3, a4, a5, a6, a7⟩ := h.sto i e0 h1
    refine ⟨b, n, c, t, fz, by rw [h2]; exact a1, a2, a3, by rw [h3, List.length_map]; exact a4, a5, a6, fun j d hd => ?_⟩
    rw [h3] at hd
    obtain ⟨d0, h0, rfl⟩ := at_map hd
    exact .undef
  · obtain ⟨e0, h1, h2, _⟩ := hrow i e hi
    obtain ⟨e0', h1', h2', _⟩ := hrow j e' hj
    rw [h2] at ri
    rw [h2'] at rj
    exact h.inj _ _ _ _ _ _ _ h1 h1' ri rj
  · rw [stL_next, List.length_map] at hi
    exact h.fresh i v (by rw [stL_next]; exact hi)
  · rw [stL_next] at hi
    rw [stL_tab, List.getElem?_eq_none hi]; rfl
  · obtain ⟨e0, h1, h2, _⟩ := hrow i e hi
    exact h.later i e0 v h1 (by rw [← h2]; exact hv)

theorem V.no_refs {g g' : G} (hg : ∀ b o, g.m b = some o → g'.m b = some o) {d : D} {v : Value} (h : V g d v) (hr : d.refs = []) : V g' d v := h.free hg (D.free_refs hr)

/-- a row that was handed in alone, handed back grown or in new memory: under one name -/
theorem CallT.cns {f : FuncId} {ds : List D} {ob0 : List D} {i v sz off n : Nat} {es2 : Sto} {e : En} (he : rowOf es2 i = some e) (hv : e.ver = v) (hr : D.refsL e.ob = []) (h : CallT P GL f ds (stL [some ⟨0, ob0⟩]) (fun r' s => r' = .ret (.ref i v sz off n) ∧ s = stL es2)) :
    CallT P GL f ds (stL [some ⟨0, ob0⟩]) (fun r' s => r' = .ret (.ref 0 1 sz off n) ∧ s = stL [some ⟨1, e.ob⟩]) := by
  refine ⟨h.1, fun g w vs hs hvl hg => (h.2 g w vs hs hvl hg).mono fun x w' ⟨g2, S2, k1, k2, k3⟩ => ?_⟩
  cases x with
  | panicked c => obtain ⟨_, _, _, _, hh, _⟩ := k3; cases hh
  | outgrown => exact k3.elim
  | returned val =>
    obtain ⟨d, q1, q2, q3⟩ := k3
    simp only [R.ret.injEq] at q2
    subst q2 q3 hv
    have hgr : ∀ j u p, g.r j u = some p → j = 0 ∧ u = 0 := fun j u p hp => by
      have hj : j < 1 := by
        rcases Nat.lt_or_ge j 1 with hl | hl
        · exact hl
        · rw [hs.fresh j u hl] at hp; cases hp
      have hj0 : j = 0 := by omega
      subst hj0
      rcases Nat.eq_zero_or_pos u with hu | hu
      · exact ⟨rfl, hu⟩
      · rw [hs.later 0 ⟨0, ob0⟩ u rfl hu] at hp; cases hp
    obtain ⟨b, m, c, t, fz, a1, a2, a3, a4, a5, a6, a7⟩ := k2.sto i e he
    let g3 : G := ⟨g2.m, fun j u => if j = 0 then (if u = 0 then g.r 0 0 else if u = 1 then some (b, m) else none) else none⟩
    have h31 : g3.r 0 1 = some (b, m) := by simp [g3]
    have hsome : ∀ j u p, g3.r j u = some p → g.r j u = some p ∨ p = (b, m) := fun j u p hp => by
      simp only [g3] at hp
      split at hp
      · rename_i hj; subst hj
        split at hp
        · rename_i hu; subst hu; exact .inl hp
        · split at hp
          · simp only [Option.some.injEq] at hp; exact .inr hp.symm
          · cases hp
      · cases hp
    refine ⟨g3, _, ⟨⟨k1.le.m, fun j u p hp => ?_⟩, k1.size, k1.old, k1.newm, fun j u b' n' hp => ?_, k1.os, k1.tape, k1.output⟩, ⟨k2.imm, fun j e' hj => ?_, fun j j' e1 e2 b1 n1 n2 h1 h2 _ _ => ?_, fun j u hj => ?_, fun j hj => ?_, fun j e' u hj hu => ?_, fun j u b' n' hp => ?_⟩, _, ?_, rfl, rfl⟩
    · obtain ⟨rfl, rfl⟩ := hgr j u p hp
      simpa [g3] using hp
    · rcases hsome j u _ hp with q | q
      · exact .inr ⟨_, _, _, q⟩
      · simp only [Prod.mk.injEq] at q
        obtain ⟨rfl, rfl⟩ := q
        exact k1.newr _ _ _ _ a1
    · match j, hj with
      | 0, hj =>
        have : e' = ⟨1, e.ob⟩ := by simpa [stL_tab] using hj.symm
        subst this
        exact ⟨b, m, c, t, fz, h31, a2, a3, a4, a5, a6, fun k d hd => V.no_refs (g := g2) (g' := g3) (fun _ _ hh => hh) (a7 k d hd) (by
          apply List.eq_nil_iff_forall_not_mem.2
          intro x hx
          have : x ∈ D.refsL e.ob := D.mem_refsL.2 ⟨d, List.mem_of_getElem? hd, hx⟩
          rw [hr] at this; cases this)⟩
      | j + 1, hj => simp [stL_tab] at hj
    · have z : ∀ j e', (stL [some (⟨1, e.ob⟩ : En)]).tab j = some e' → j = 0 := fun j e' hj => by
        match j, hj with
        | 0, _ => rfl
        | j + 1, hj => simp [stL_tab] at hj
      rw [z _ _ h1, z _ _ h2]
    · simp only [stL_next, List.length_cons, List.length_nil] at hj
      simp only [g3]; rw [if_neg (by omega)]
    · simp only [stL_next, List.length_cons, List.length_nil] at hj
      rw [stL_tab, List.getElem?_eq_none (by simpa using hj)]; rfl
    · match j, hj with
      | 0, hj =>
        have : e' = ⟨1, e.ob⟩ := by simpa [stL_tab] using hj.symm
        subst this
        simp only at hu
        simp [g3, show u ≠ 0 by omega, show u ≠ 1 by omega]
      | j + 1, hj => simp [stL_tab] at hj
    · rcases hsome j u _ hp with q | q
      · exact Nat.lt_of_lt_of_le (hs.inb _ _ _ _ q) k1.size
      · simp only [Prod.mk.injEq] at q
        obtain ⟨rfl, rfl⟩ := q
        exact k2.inb _ _ _ _ a1
    · cases q1 with
      | @ref _ _ _ _ _ b' n' cap hr' hl hx hn =>
        rw [hr'] at a1
        simp only [Option.some.injEq, Prod.mk.injEq] at a1
        obtain ⟨rfl, rfl⟩ := a1
        exact .ref h31 hl hx hn

theorem cns_sound {A : Ann} {f : FuncId} {ds : List D} {es : Sto} {x : Option (R × Sto)} {r : R} {ts : Sto} (hok : cnsOk A es = true) (hx : ∀ r ts, x = some (r, ts) → CallT P GL f ds (stL es) (fun r' s => r' = r ∧ s = stL ts))
    (h : cnsF (look A.keep 4000000) es.length x = some (r, ts)) : CallT P GL f ds (stL es) (fun r' s => r' = r ∧ s = stL ts) := by
  unfold cnsF at h
  unfold cnsOk at hok
  split at h
  · rename_i ks hl
    rw [hl] at hok
    simp only at hok
    unfold cnsR at h
    split at h
    · rename_i i v sz off n es2
      split at h
      · rename_i hlen
        split at hok
        · simp at hlen
        · rename_i e0
          have hver : e0.ver = 0 := by simpa using hok
          obtain ⟨ver, ob0⟩ := e0
          simp only at hver
          subst hver
          unfold cnsE at h
          split at h
          · rename_i e he
            split at h
            · rename_i hc
              simp only [Option.some.injEq, Prod.mk.injEq] at h
              obtain ⟨rfl, rfl⟩ := h
              exact CallT.cns he hc.1 hc.2 (hx _ _ rfl)
            · cases h
          · cases h
        · cases hok
      · exact hx r ts h
    · exact hx r ts h
  · exact hx r ts h

theorem evB_sound (hC : SoundO P GL C) (hm : P.follows .mixedOrders = true) {f : FuncId} {fn : Func} (hf : P.funcs[f]? = some fn) {A : Ann} (hI : SoundI P A.its) (hok : okFn A fn = true) {ds : List D} {es ts : Sto} {r : R} (hl : ds.length ≤ fn.ntmps)
    (h : evB P GL C A fn ds es = some (r, ts)) : CallT P GL f ds (stL es) (fun r' s => r' = r ∧ s = stL ts) := by
  unfold evB at h
  unfold okFn at hok
  split at h
  case h_2 => cases h
  rename_i c hb
  rw [hb] at hok
  simp only [Bool.and_eq_true] at hok
  obtain ⟨hok, hname⟩ := hok
  refine ⟨by unfold goFn; rw [hf]; simp only [hname, hb]; rfl, fun g w vs hs hv hg => ?_⟩
  have h0 : ∀ i v, es.length ≤ i → g.r i v = none := fun i v hi => hs.fresh i v (by rw [stL_next]; exact hi)
  cases hev : evC P GL C A es.length c (argsL 0 ds) es with
  | none => rw [hev] at h; simp [fin] at h
  | some out =>
  rw [hev] at h
  refine calls_of_marks hf hb ?_
  have hsound : TriB P GL fn.ntmps g w c (ofL (argsL 0 ds)) (stL es) (isOut out) := by
    unfold evC at hev
    exact evR_sound hC hm hg hI h0 (fun lab c hok g0 w0 m0 q1 q2 l es out hh => evRd_sound hC hm lab c hok g0 w0 m0 q1 q2 l es out hh) (evR_sound hC hm hg hI h0 (rec := fun _ _ _ _ => none) (fun lab c hok g0 w0 m0 q1 q2 l es out hh => by cases hh) (fun c _ l es out hh => by cases hh)) c hok (argsL 0 ds) es out hev
  refine wp_mono (hsound _ w ⟨g, .refl _ _, hs, by rw [← argsE_argsL]; exact args_env hv, by simp [hv.1]; omega, Mk.nil _ _ _⟩) ?_
  intro e a w' ⟨g', E', S', x, k1, k2, k3, k4, k5, k6, q1, q2, q3⟩
  subst q2 q3
  obtain ⟨x', l', es'⟩ := out
  simp only at q1 k2 k3
  subst q1
  -- the end by a value
  have hgcs : ∀ es' d2 ds2 acc ts2, finF A.frz es.length d2 es' = some (acc, ds2, ts2) → ∀ v w', Sim g' (stL es') w' → Keep g g' w w' → V g' d2 v → ∃ g'' d, ds2 = [d] ∧ Keep g g'' w w' ∧ Sim g'' (stL ts2) w' ∧ V g'' d v := by
    intro es' d2 ds2 acc ts2 hf v w' k2 k1 hv
    have key : ∀ (g1 : G) (d3 : D) (es3 : Sto), Keep g g1 w w' → Sim g1 (stL es3) w' → V g1 d3 v → gcA es.length [d3] es3 = some (acc, ds2, ts2) → ∃ g'' d, ds2 = [d] ∧ Keep g g'' w w' ∧ Sim g'' (stL ts2) w' ∧ V g'' d v := by
      intro g1 d3 es3 p1 p2 p3 hgc
      obtain ⟨s1, s2⟩ := p2.gc hgc
      have hv2 := s2 #[v] ⟨rfl, fun j d hd => by
        cases j with
        | zero => simp only [List.getElem?_cons_zero, Option.some.injEq] at hd; subst hd; exact p3
        | succ j => simp at hd⟩
      have hlen : ds2.length = 1 := hv2.1.symm
      obtain ⟨d4, rfl⟩ := List.length_eq_one_iff.1 hlen
      exact ⟨_, d4, rfl, p1.gc h0, s1, by simpa using hv2.2 0 d4 rfl⟩
    unfold finF at hf
    split at hf
    · obtain ⟨s1, s2⟩ := k2.frz (F := fromB es.length) 20
      exact key _ _ _ (k1.trans s2) s1 (V.frz k2 20 hv).can hf
    · exact key _ _ _ k1 k2 hv hf
  have hdone : ∀ rs, resultsD P (ofL l') (stL es') fn.results.toList = some rs → finR .ret (finF A.frz es.length (retD rs) es') = some (r, ts) → LeavesInM Fence.wide 0 P fn a.tmps (Lands g w fun r' s => r' = r ∧ s = stL ts) a.defers .returning w' := by
    intro rs h1 h2
    refine k5.leave (by simp) k2 k1 fun w2 z2 z1 => ?_
    obtain ⟨v, p1, p2⟩ := results_run z2 k3 h1
    cases hgc : finF A.frz es.length (retD rs) es' with
    | none => rw [hgc] at h2; simp [finR] at h2
    | some y =>
      obtain ⟨acc, ds2, es2⟩ := y
      rw [hgc] at h2
      simp only [finR, Option.some.injEq, Prod.mk.injEq] at h2
      obtain ⟨rfl, rfl⟩ := h2
      obtain ⟨g'', d, rfl, q1, q2, q3⟩ := hgcs _ _ _ _ _ hgc v w2 z2 z1 p2
      exact ⟨v, p1, g'', _, q1, q2, d, q3, rfl, rfl⟩
  cases e with
  | normal =>
    cases x with
    | normal =>
      simp only [fin] at h
      cases hrs : resultsD P (ofL l') (stL es') fn.results.toList with
      | none => rw [hrs] at h; simp [finD] at h
      | some rs => rw [hrs] at h; exact hdone rs hrs h
    | _ => simp [Rel] at k6
  | ret =>
    cases x with
    | ret =>
      simp only [fin] at h
      cases hrs : resultsD P (ofL l') (stL es') fn.results.toList with
      | none => rw [hrs] at h; simp [finD] at h
      | some rs => rw [hrs] at h; exact hdone rs hrs h
    | _ => simp [Rel] at k6
  | panic ch =>
    cases x with
    | pan d =>
      simp only [fin] at h
      obtain ⟨v, rfl, hvv⟩ := k6
      have k2 := k2.ud
      cases hgc : finF A.frz es.length d (es'.map udR) with
      | none => rw [hgc] at h; simp [finR] at h
      | some y =>
        obtain ⟨acc, ds2, es2⟩ := y
        rw [hgc] at h
        simp only [finR, Option.some.injEq, Prod.mk.injEq] at h
        obtain ⟨rfl, rfl⟩ := h
        refine k5.leave (by simp) k2 k1 fun w2 z2 z1 => ?_
        obtain ⟨g'', d1, rfl, q1, q2, q3⟩ := hgcs _ _ _ _ _ hgc v w2 z2 z1 hvv
        exact ⟨g'', _, q1, q2, v, d1, rfl, q3, rfl, rfl⟩
    | _ => simp [Rel] at k6
  | exit i =>
    cases x with
    | exit j => simp [fin] at h
    | _ => simp [Rel] at k6
  | goto i =>
    cases x with
    | goto j => simp [fin] at h
    | _ => simp [Rel] at k6
  | outgrown => cases x <;> simp [Rel] at k6

theorem canO_sound (hC : SoundO P GL C) (nc : List Nat) : SoundO P GL (canO nc C) := fun f ds es r ts h => by
  unfold canO at h
  split at h
  · exact (hC _ _ _ _ _ h).can (.inl rfl)
  · exact (hC _ _ _ _ _ h).can (.inr rfl)

theorem evK_sound {An : FuncId → Ann} {nc : List Nat} {X : Orc} (hI : ∀ f, SoundI P (An f).its) (hX : SoundO P GL X) (hm : P.follows .mixedOrders = true) : ∀ k, SoundO P GL (evK P GL An nc X k)
  | 0 => fun f ds es r ts h => by simp [evK] at h
  | k + 1 => fun f ds es r ts h => by
    simp only [evK, evStep] at h
    split at h
    · rename_i r' hx
      simp only [Option.some.injEq] at h
      subst h
      exact hX f ds es r ts hx
    · split at h
      · rename_i fn hf
        split at h
        · rename_i hc; exact cns_sound hc.2.2 (fun r ts h => evB_sound (canO_sound (evK_sound hI hX hm k) nc) hm hf (hI f) hc.1 hc.2.1 h) h
        · cases h
      · cases h

/-- WHAT THE EVALUATOR SAYS OF A CALL IS SO -/
theorem ev_sound {An : FuncId → Ann} {nc : List Nat} {X : Orc} (hI : ∀ f, SoundI P (An f).its) (hX : SoundO P GL X) (hm : P.follows .mixedOrders = true) : SoundO P GL (ev P GL An nc X) := fun f ds es r ts h => by
  obtain ⟨k, hk⟩ := lim_some h
  exact evK_sound hI hX hm k f ds es r ts hk

theorem ev_of {An : FuncId → Ann} {nc : List Nat} {X : Orc} {f : FuncId} {fn : Func} {ds : List D} {es : Sto} (hX : X f ds es = none) (hf : P.funcs[f]? = some fn) (hok : okFn (An f) fn = true) (hl : ds.length ≤ fn.ntmps) (hc : cnsOk (An f) es = true) :
    ev P GL An nc X f ds es = cnsF (look (An f).keep 4000000) es.length (evB P GL (canO nc (ev P GL An nc X)) (An f) fn ds es) := by
  rw [ev_eq, evStep, hX]
  simp only [hf, hok, hl, hc, and_self, if_true]

end
end Go.Bw

/- The evaluator, part 10: as it is rewritten. -/
namespace Go.Bw
open Go

/-- an equation that is not laid by unfolding, as a rewrite takes it -/
theorem nr {α : Sort _} {a b : α} (h : a = b) : a = b := h

/-- code, with so many scopes within scopes -/
noncomputable def evD (P : Program) (GL : Nat → D) (C : Orc) (A : Ann) : Nat → Nat → Code → Fr → Sto → Option Out
  | 0 => fun _ _ _ _ => none
  | k + 1 => fun m0 => evR P GL C A m0 (evD P GL C A k)

/-- what stands behind a piece of code -/
inductive Kt where
  | sq (b : Code) (k : Nat)
  | bk (id : Nat)
  | lp (ks : List Nat) (c : Code) (k : Nat)
  | jp (lab : Nat) (ks : Option (List Nat)) (rest : Code) (k : Nat)
  | fn (rs : List ResultVar)
  | fz (id : Nat)
  | cmp (o : Option (List Nat)) (ops : Array Oper) (p2 : List (Oper × Nat × Bool)) (es : Sto) (l : Fr)
  | eqo (o : Option (List Nat)) (l : Fr) (es : Sto)
  | pn (i : Nat) (ops : Array Oper) (st : Nat) (id : Nat) (plan : Plan) (l0 : Fr) (e0 : Sto)
  | ra (m : Nat) (ps : List Nat) (a b : Code) (k : Nat) (yss : List (List D)) (l : Fr)
  | rg (m : Nat) (ps : List Nat) (a b : Code) (k : Nat) (yss : List (List D)) (l : Fr)

/-- behind a round -/
noncomputable def rgN (P : Program) (GL : Nat → D) (C : Orc) (A : Ann) (m0 : Nat) (ps : List Nat) (a b : Code) (k : Nat) (yss : List (List D)) (l : Fr) (es : Sto) : Option Out :=
  thT (tidy m0 (l.map Prod.fst) l es) (rgL m0 ps (rgB (evD P GL C A k) a b) yss)

/-- what is looked at: panics first, then the whole -/
noncomputable def evSt (P : Program) (GL : Nat → D) (C : Orc) (A : Ann) (m0 : Nat) (ops : Array Oper) (id : Nat) (plan : Plan) (l : Fr) (es : Sto) : Nat → Option Out
  | 0 => evTwo P GL C ops m0 (look A.keep (2000000 + id)) plan (look A.plan (1000000 + id)) l es
  | 1 => evPan P GL C ops (look A.plan (5000000 + id)) l es (evTwo P GL C ops m0 (look A.keep (2000000 + id)) plan (look A.plan (1000000 + id)) l es)
  | _ => evAll P GL C ops m0 A id plan l es

open Classical in
/-- the second order's end against the first's, which is tidied -/
noncomputable def agE (m0 : Nat) (o : Option (List Nat)) (y : Option Out) (l : Fr) (es : Sto) : Option Out :=
  thC y fun l2 e2 => thT (tidyK m0 o l2 e2) fun l3 e3 => if l = l3 ∧ es = e3 then some (.normal, l, es) else none

noncomputable def plug (P : Program) (GL : Nat → D) (C : Orc) (A : Ann) : Nat → List Kt → Option Out → Option (R × Sto)
  | _, [], _ => none
  | m0, .sq b k :: K, x => plug P GL C A m0 K (thO x (evR P GL C A m0 (evD P GL C A k) b))
  | m0, .bk id :: K, x => plug P GL C A m0 K (blk id x)
  | m0, .lp ks c k :: K, x => plug P GL C A m0 K (rnd m0 ks x (evL m0 ks (evR P GL C A m0 (evD P GL C A k) c)))
  | m0, .jp lab ks rest k :: K, x => plug P GL C A m0 K (jmp m0 lab ks x (evJ m0 lab ks (evD P GL C A k m0 rest)))
  | m0, .fn rs :: _, x => cnsF (look A.keep 4000000) m0 (fin P A.frz m0 rs x)
  | m0, .pn i ops st id plan l0 e0 :: K, x => plug P GL C A m0 K (thC x fun l1 e1 => panX P GL C ops ops[i]? l1 e1 (evSt P GL C A m0 ops id plan l0 e0 st))
  | m0, .fz id :: K, x => plug P GL C A m0 K (thO x (frzK (look A.frzAt id)))
  | m0, .cmp o ops p2 es l :: K, x => plug P GL C A m0 K (thC x (agr m0 o (evDraw P GL C ops p2 [es] l)))
  | m0, .eqo o l es :: K, x => plug P GL C A m0 K (agE m0 o x l es)
  | _, .ra m ps a b k yss l :: K, x => plug P GL C A m K (rgS (thC x fun l1 e1 => evD P GL C A k e1.length b l1 e1) (rgN P GL C A m ps a b k yss l) l)
  | _, .rg m ps a b k yss l :: K, x => plug P GL C A m K (rgS x (rgN P GL C A m ps a b k yss l) l)

section
variable (P : Program) (GL : Nat → D) (C : Orc) (A : Ann) (m0 : Nat)

noncomputable def run (k : Nat) (K : List Kt) (c : Code) (l : Fr) (es : Sto) : Option (R × Sto) := plug P GL C A m0 K (evR P GL C A m0 (evD P GL C A k) c l es)
noncomputable def unw (K : List Kt) (x : X) (l : Fr) (es : Sto) : Option (R × Sto) := plug P GL C A m0 K (some (x, l, es))
noncomputable def lpK (k : Nat) (K : List Kt) (ks : List Nat) (c : Code) (l : Fr) (es : Sto) : Option (R × Sto) := plug P GL C A m0 K (evL m0 ks (evR P GL C A m0 (evD P GL C A k) c) l es)
noncomputable def jpK (k : Nat) (K : List Kt) (lab : Nat) (ks : Option (List Nat)) (rest : Code) (l : Fr) (es : Sto) : Option (R × Sto) := plug P GL C A m0 K (evJ m0 lab ks (evD P GL C A k m0 rest) l es)
noncomputable def opsK (K : List Kt) (ops : Array Oper) (rest : List Oper) (l : Fr) (es : Sto) : Option (R × Sto) := plug P GL C A m0 K (evOps P GL C A.froz ops rest l es)
noncomputable def stK (K : List Kt) (ops : Array Oper) (rest : List Oper) (b : Bool) (x : Option (R × Sto)) (t : Option Tmp) (l : Fr) (es : Sto) : Option (R × Sto) :=
  plug P GL C A m0 K (thO (stp b x t l es) (evOps P GL C A.froz ops rest))
noncomputable def stgK (K : List Kt) (ops : Array Oper) (rest : List Oper) (g : Option Bool) (x : Option (R × Sto)) (t : Option Tmp) (l : Fr) (es : Sto) : Option (R × Sto) :=
  plug P GL C A m0 K (thO (stG g x t l es) (evOps P GL C A.froz ops rest))
noncomputable def drK (K : List Kt) (ops : Array Oper) (plan : List (Oper × Nat × Bool)) (Ss : List Sto) (l : Fr) : Option (R × Sto) := plug P GL C A m0 K (evDraw P GL C ops plan Ss l)
noncomputable def drTwo (K : List Kt) (ops : Array Oper) (o : Option (List Nat)) (plan : Plan) (p2 : Option Plan) (l : Fr) (es : Sto) : Option (R × Sto) :=
  match p2 with
  | none => drK P GL C A m0 K ops (planOps ops plan) [es] l
  | some [] => none
  | some (_ :: p2) => drK P GL C A m0 (.cmp o ops (planOps ops p2) es l :: K) ops (planOps ops plan) [es] l
noncomputable def drS (K : List Kt) (ops : Array Oper) (rest : List (Oper × Nat × Bool)) (x : Option D) (t : Option Tmp) (Ss : List Sto) (l : Fr) : Option (R × Sto) :=
  plug P GL C A m0 K (thD x t l (evDraw P GL C ops rest Ss))
noncomputable def drC (K : List Kt) (ops : Array Oper) (rest : List (Oper × Nat × Bool)) (g : Option Bool) (x : Option (R × Sto)) (t : Option Tmp) (e : Sto) (er : List Sto) (l : Fr) : Option (R × Sto) :=
  plug P GL C A m0 K (thC (stG g x t l e) (fun l' e' => evDraw P GL C ops rest (e' :: e :: er) l'))
noncomputable def cndK (k : Nat) (K : List Kt) (d : D) (a b : Code) (l : Fr) (es : Sto) : Option (R × Sto) :=
  plug P GL C A m0 K (cnd d (evR P GL C A m0 (evD P GL C A k) a) (evR P GL C A m0 (evD P GL C A k) b) l es)
noncomputable def thK (k : Nat) (K : List Kt) (c : Code) (x : Option (Fr × Sto)) : Option (R × Sto) :=
  plug P GL C A m0 K (thT x (evR P GL C A m0 (evD P GL C A k) c))
noncomputable def lpT (k : Nat) (K : List Kt) (ks : List Nat) (c : Code) (x : Option (Fr × Sto)) : Option (R × Sto) :=
  plug P GL C A m0 K (thT x (evL m0 ks (evR P GL C A m0 (evD P GL C A k) c)))
noncomputable def jpT (k : Nat) (K : List Kt) (lab : Nat) (ks : Option (List Nat)) (rest : Code) (x : Option (Fr × Sto)) : Option (R × Sto) :=
  plug P GL C A m0 K (thT x (evJ m0 lab ks (evD P GL C A k m0 rest)))
end

section
variable {P : Program} {GL : Nat → D} {C : Orc} {A : Ann} {m0 k : Nat} {K : List Kt} {l : Fr} {es : Sto}

theorem plug_none : ∀ (m0 : Nat) (K : List Kt), plug P GL C A m0 K none = none
  | _, [] => rfl
  | _, .sq b k :: K => by simp only [plug, thO]; exact plug_none _ K
  | _, .bk id :: K => by simp only [plug, blk]; exact plug_none _ K
  | _, .lp ks c k :: K => by simp only [plug, rnd]; exact plug_none _ K
  | _, .jp lab ks rest k :: K => by simp only [plug, jmp]; exact plug_none _ K
  | m0, .fn rs :: K => by simp only [plug, fin, cnsF]; cases look A.keep 4000000 <;> rfl
  | _, .pn .. :: K => by simp only [plug, thC]; exact plug_none _ K
  | _, .fz id :: K => by simp only [plug, thO]; exact plug_none _ K
  | _, .cmp .. :: K => by simp only [plug, thC]; exact plug_none _ K
  | _, .eqo .. :: K => by simp only [plug, agE, thC]; exact plug_none _ K
  | _, .ra .. :: K => by simp only [plug, thC, rgS]; exact plug_none _ K
  | _, .rg .. :: K => by simp only [plug, rgS]; exact plug_none _ K


theorem run_skip : run P GL C A m0 k K .skip l es = unw P GL C A m0 K .normal l es := nr rfl
/-- a region, behind what is frozen ahead of it -/
noncomputable def rgnF (P : Program) (GL : Nat → D) (C : Orc) (A : Ann) (m0 : Nat) (K : List Kt) (id : Nat) (os : List Oper) (o : Option (List Nat)) (l : Fr) (es : Sto) : Option (R × Sto) :=
  plug P GL C A m0 K (thO (frzK o l es) fun l es => thO (evOps P GL C A.froz (List.toArray os) os l es) (frzK (look A.frzAt id)))
noncomputable def rgnD (P : Program) (GL : Nat → D) (C : Orc) (A : Ann) (m0 : Nat) (K : List Kt) (id : Nat) (ops : Array Oper) (o : Option (List Nat)) (l : Fr) (es : Sto) : Option (R × Sto) :=
  plug P GL C A m0 K (thO (frzK o l es) fun l es => match look A.plan id with | some plan => thO (evAll P GL C ops m0 A id plan l es) (frzK (look A.frzAt id)) | none => none)
theorem run_region {id : Nat} {os : List Oper} : run P GL C A m0 k K (.region id (List.toArray os) false) l es = rgnF P GL C A m0 K id os (look A.frzAt (3000000 + id)) l es := nr rfl
theorem run_draw {id : Nat} {ops : Array Oper} : run P GL C A m0 k K (.region id ops true) l es = rgnD P GL C A m0 K id ops (look A.frzAt (3000000 + id)) l es := nr rfl
theorem rgnF_none {id : Nat} {os : List Oper} : rgnF P GL C A m0 K id os none l es = opsK P GL C A m0 (.fz id :: K) (List.toArray os) os l es := nr rfl
theorem rgnF_some {id : Nat} {os : List Oper} {ks : List Nat} : rgnF P GL C A m0 K id os (some ks) l es = opsK P GL C A m0 (.fz id :: K) (List.toArray os) os (frzL (reach 200 0 es (D.refsL (ks.map (ofL l))) []) l es).1 (frzL (reach 200 0 es (D.refsL (ks.map (ofL l))) []) l es).2 := nr rfl
noncomputable def alK (P : Program) (GL : Nat → D) (C : Orc) (A : Ann) (m0 : Nat) (n : Nat) (K : List Kt) (id : Nat) (ops : Array Oper) (plan : Plan) (l : Fr) (es : Sto) : Option (R × Sto) := plug P GL C A m0 K (evSt P GL C A m0 ops id plan l es n)
noncomputable def drawK (P : Program) (GL : Nat → D) (C : Orc) (A : Ann) (m0 : Nat) (K : List Kt) (id : Nat) (ops : Array Oper) (p : Option Plan) (l : Fr) (es : Sto) : Option (R × Sto) :=
  match p with
  | some plan => alK P GL C A m0 2 (.fz id :: K) id ops plan l es
  | none => none
/-- a panic, if there may be one here -/
noncomputable def paK (P : Program) (GL : Nat → D) (C : Orc) (A : Ann) (m0 : Nat) (n : Nat) (K : List Kt) (id : Nat) (ops : Array Oper) (p : Option Plan) (plan : Plan) (l : Fr) (es : Sto) : Option (R × Sto) :=
  plug P GL C A m0 K (evPan P GL C ops p l es (evSt P GL C A m0 ops id plan l es n))
noncomputable def pxK (P : Program) (GL : Nat → D) (C : Orc) (A : Ann) (m0 : Nat) (n : Nat) (K : List Kt) (id : Nat) (ops : Array Oper) (plan : Plan) (l0 : Fr) (e0 : Sto) (o : Option Oper) (l : Fr) (es : Sto) : Option (R × Sto) :=
  plug P GL C A m0 K (panX P GL C ops o l es (evSt P GL C A m0 ops id plan l0 e0 n))
noncomputable def pcK (P : Program) (GL : Nat → D) (C : Orc) (A : Ann) (m0 : Nat) (n : Nat) (K : List Kt) (id : Nat) (ops : Array Oper) (plan : Plan) (l0 : Fr) (e0 : Sto) (x : Option (R × Sto)) (t : Option Tmp) (l : Fr) (es : Sto) : Option (R × Sto) :=
  plug P GL C A m0 K (panC (stp true x t l es) (evSt P GL C A m0 ops id plan l0 e0 n))
section
variable {n id : Nat} {ops : Array Oper} {plan : Plan}
theorem alK_two : alK P GL C A m0 2 K id ops plan l es = paK P GL C A m0 1 K id ops (look A.plan (4000000 + id)) plan l es := nr rfl
theorem alK_one : alK P GL C A m0 1 K id ops plan l es = paK P GL C A m0 0 K id ops (look A.plan (5000000 + id)) plan l es := nr rfl
theorem alK_zero : alK P GL C A m0 0 K id ops plan l es = drTwo P GL C A m0 K ops (look A.keep (2000000 + id)) plan (look A.plan (1000000 + id)) l es := by
  show plug P GL C A m0 K (evTwo P GL C ops m0 (look A.keep (2000000 + id)) plan (look A.plan (1000000 + id)) l es) = _
  unfold drTwo evTwo
  cases look A.plan (1000000 + id) with
  | none => rfl
  | some p2 =>
    cases p2 with
    | nil => exact plug_none _ K
    | cons y p2 => rfl
theorem paK_none : paK P GL C A m0 n K id ops none plan l es = alK P GL C A m0 n K id ops plan l es := nr rfl
theorem paK_some {i a : Nat} {b : Bool} {pre : Plan} : paK P GL C A m0 n K id ops (some ((i, a, b) :: pre)) plan l es = drK P GL C A m0 (.pn i ops n id plan l es :: K) ops (planOps ops pre) [es] l := nr rfl
theorem unw_pn {i : Nat} {ops : List Oper} {l0 : Fr} {e0 : Sto} : unw P GL C A m0 (.pn i (List.toArray ops) n id plan l0 e0 :: K) .normal l es = pxK P GL C A m0 n K id (List.toArray ops) plan l0 e0 ops[i]? l es := by
  simp only [unw, plug, thC, pxK, List.getElem?_toArray]
theorem pxK_some {l0 : Fr} {e0 : Sto} {dst : Option Tmp} {op : Op} {ty : TypeId} {ps : String} {af : Array Edge} : pxK P GL C A m0 n K id ops plan l0 e0 (some ⟨dst, op, ty, ps, af, none⟩) l es = pcK P GL C A m0 n K id ops plan l0 e0 (exOp P GL C [] (ofL l) es ⟨dst, op, ty, ps, af, none⟩) dst l es := nr rfl
theorem pcK_ret {l0 : Fr} {e0 es' : Sto} {d : D} {t : Option Tmp} : pcK P GL C A m0 n K id ops plan l0 e0 (some (.ret d, es')) t l es = alK P GL C A m0 n K id ops plan l0 e0 := nr rfl
theorem pcK_pan {l0 : Fr} {e0 es' : Sto} {d : D} {t : Option Tmp} : pcK P GL C A m0 n K id ops plan l0 e0 (some (.pan d, es')) t l es = unw P GL C A m0 K (.pan d) [] es' := nr rfl
theorem paK_congr {p p' : Option Plan} (h : p = p') : paK P GL C A m0 n K id ops p plan l es = paK P GL C A m0 n K id ops p' plan l es := by rw [h]
theorem pxK_congr {l0 : Fr} {e0 : Sto} {o o' : Option Oper} (h : o = o') : pxK P GL C A m0 n K id ops plan l0 e0 o l es = pxK P GL C A m0 n K id ops plan l0 e0 o' l es := by rw [h]
theorem pcK_congr {l0 : Fr} {e0 : Sto} {x x' : Option (R × Sto)} {t : Option Tmp} (h : x = x') : pcK P GL C A m0 n K id ops plan l0 e0 x t l es = pcK P GL C A m0 n K id ops plan l0 e0 x' t l es := by rw [h]
theorem alK_congr {l' : Fr} {es' : Sto} (h1 : l = l') (h2 : es = es') : alK P GL C A m0 n K id ops plan l es = alK P GL C A m0 n K id ops plan l' es' := by rw [h1, h2]
end
theorem drawK_eq {id : Nat} {ops : Array Oper} : plug P GL C A m0 K (match look A.plan id with | some plan => thO (evAll P GL C ops m0 A id plan l es) (frzK (look A.frzAt id)) | none => none) = drawK P GL C A m0 K id ops (look A.plan id) l es := by
  unfold drawK
  cases h : look A.plan id with
  | none => exact plug_none _ K
  | some plan => rfl
theorem rgnD_none {id : Nat} {ops : Array Oper} : rgnD P GL C A m0 K id ops none l es = drawK P GL C A m0 K id ops (look A.plan id) l es := drawK_eq
theorem rgnD_some {id : Nat} {ops : Array Oper} {ks : List Nat} : rgnD P GL C A m0 K id ops (some ks) l es = drawK P GL C A m0 K id ops (look A.plan id) (frzL (reach 200 0 es (D.refsL (ks.map (ofL l))) []) l es).1 (frzL (reach 200 0 es (D.refsL (ks.map (ofL l))) []) l es).2 := drawK_eq
theorem drawK_some {id : Nat} {ops : Array Oper} {plan : Plan} : drawK P GL C A m0 K id ops (some plan) l es = alK P GL C A m0 2 (.fz id :: K) id ops plan l es := nr rfl
theorem rgnF_congr {id : Nat} {os : List Oper} {o o' : Option (List Nat)} (h : o = o') : rgnF P GL C A m0 K id os o l es = rgnF P GL C A m0 K id os o' l es := by rw [h]
theorem rgnD_congr {id : Nat} {ops : Array Oper} {o o' : Option (List Nat)} (h : o = o') : rgnD P GL C A m0 K id ops o l es = rgnD P GL C A m0 K id ops o' l es := by rw [h]
theorem drawK_congr {id : Nat} {ops : Array Oper} {p p' : Option Plan} (h : p = p') : drawK P GL C A m0 K id ops p l es = drawK P GL C A m0 K id ops p' l es := by rw [h]
theorem drTwo_none {ops : Array Oper} {o : Option (List Nat)} {plan : Plan} : drTwo P GL C A m0 K ops o plan none l es = drK P GL C A m0 K ops (planOps ops plan) [es] l := nr rfl
theorem drTwo_some {ops : Array Oper} {o : Option (List Nat)} {plan p2 : Plan} {y : Nat × Nat × Bool} : drTwo P GL C A m0 K ops o plan (some (y :: p2)) l es = drK P GL C A m0 (.cmp o ops (planOps ops p2) es l :: K) ops (planOps ops plan) [es] l := nr rfl
/-- the first order's end, tidied; then the second -/
noncomputable def cmT (P : Program) (GL : Nat → D) (C : Orc) (A : Ann) (m0 : Nat) (K : List Kt) (o : Option (List Nat)) (ops : Array Oper) (p2 : List (Oper × Nat × Bool)) (e0 : Sto) (l0 : Fr) (x : Option (Fr × Sto)) : Option (R × Sto) :=
  plug P GL C A m0 K (thT x fun l1 e1 => agE m0 o (evDraw P GL C ops p2 [e0] l0) l1 e1)
/-- the second order's end, tidied -/
noncomputable def eqT (P : Program) (GL : Nat → D) (C : Orc) (A : Ann) (m0 : Nat) (K : List Kt) (l0 : Fr) (e0 : Sto) (x : Option (Fr × Sto)) : Option (R × Sto) :=
  plug P GL C A m0 K (thT x fun l3 e3 => open Classical in if l0 = l3 ∧ e0 = e3 then some (.normal, l0, e0) else none)
theorem unw_cmp {o : Option (List Nat)} {ops : Array Oper} {p2 : List (Oper × Nat × Bool)} {e0 : Sto} {l0 : Fr} : unw P GL C A m0 (.cmp o ops p2 e0 l0 :: K) .normal l es = cmT P GL C A m0 K o ops p2 e0 l0 (tidyK m0 o l es) := nr rfl
theorem cmT_some {o : Option (List Nat)} {ops : Array Oper} {p2 : List (Oper × Nat × Bool)} {e0 : Sto} {l0 : Fr} : cmT P GL C A m0 K o ops p2 e0 l0 (some (l, es)) = drK P GL C A m0 (.eqo o l es :: K) ops p2 [e0] l0 := nr rfl
theorem unw_eqo {o : Option (List Nat)} {e0 : Sto} {l0 : Fr} : unw P GL C A m0 (.eqo o l0 e0 :: K) .normal l es = eqT P GL C A m0 K l0 e0 (tidyK m0 o l es) := nr rfl
open Classical in
theorem eqT_some {e0 : Sto} {l0 : Fr} : eqT P GL C A m0 K l0 e0 (some (l, es)) = if l0 = l ∧ e0 = es then unw P GL C A m0 K .normal l0 e0 else none := by
  simp only [eqT, thT, unw]
  by_cases h : l0 = l ∧ e0 = es
  · rw [if_pos h, if_pos h]
  · rw [if_neg h, if_neg h]; exact plug_none _ K
theorem cmT_congr {o : Option (List Nat)} {ops : Array Oper} {p2 : List (Oper × Nat × Bool)} {e0 : Sto} {l0 : Fr} {x x' : Option (Fr × Sto)} (h : x = x') : cmT P GL C A m0 K o ops p2 e0 l0 x = cmT P GL C A m0 K o ops p2 e0 l0 x' := by rw [h]
theorem eqT_congr {e0 : Sto} {l0 : Fr} {x x' : Option (Fr × Sto)} (h : x = x') : eqT P GL C A m0 K l0 e0 x = eqT P GL C A m0 K l0 e0 x' := by rw [h]
theorem run_seq {a b : Code} : run P GL C A m0 k K (.seq a b) l es = run P GL C A m0 k (.sq b k :: K) a l es := nr rfl
theorem run_cond {c : Operand} {a b : Code} : run P GL C A m0 k K (.cond c a b) l es = cndK P GL C A m0 k K (rhoD (ofL l) GL c) a b l es := nr rfl
theorem run_block {id : Nat} {c : Code} : run P GL C A m0 k K (.block id c) l es = thK P GL C A m0 k (.bk id :: K) c (tidyK m0 (look A.keep id) l es) := nr rfl
theorem run_loop {c : Code} : run P GL C A m0 k K (.loop c) l es = lpK P GL C A m0 k K (l.map Prod.fst) c l es := nr rfl
theorem run_exit {id : Nat} : run P GL C A m0 k K (.exit id) l es = unw P GL C A m0 K (.exit id) l es := nr rfl
theorem run_ret : run P GL C A m0 k K .ret l es = unw P GL C A m0 K .ret l es := nr rfl
theorem run_label {lab : Nat} : run P GL C A m0 k K (.label lab) l es = unw P GL C A m0 K .normal l es := nr rfl
theorem run_goto {lab : Nat} : run P GL C A m0 k K (.goto lab) l es = unw P GL C A m0 K (.goto lab) l es := nr rfl
theorem run_scope {c rest : Code} (lab : Nat) (h1 : labelOf c = some lab) (h2 : findLabel c lab = some rest) : run P GL C A m0 k K (.scope c) l es = run P GL C A m0 k (.jp lab (look A.keep (1000000 + lab)) rest k :: K) c l es := by
  simp only [run, evR, scp, h1, h2]; rfl

theorem cnd_true {a b : Code} : cndK P GL C A m0 k K (.sc (.bool true)) a b l es = run P GL C A m0 k K a l es := nr rfl
theorem cnd_false {a b : Code} : cndK P GL C A m0 k K (.sc (.bool false)) a b l es = run P GL C A m0 k K b l es := nr rfl
theorem cnd_sym {a b : Code} {t : Bool} : cndK P GL C A m0 k K (.sc (.bool t)) a b l es = if t = true then run P GL C A m0 k K a l es else run P GL C A m0 k K b l es := by
  cases t <;> rfl
theorem thK_some {c : Code} : thK P GL C A m0 k K c (some (l, es)) = run P GL C A m0 k K c l es := nr rfl
theorem lpT_some {ks : List Nat} {c : Code} : lpT P GL C A m0 k K ks c (some (l, es)) = lpK P GL C A m0 k K ks c l es := nr rfl
theorem jpT_some {lab : Nat} {ks : Option (List Nat)} {rest : Code} : jpT P GL C A m0 k K lab ks rest (some (l, es)) = jpK P GL C A m0 k K lab ks rest l es := nr rfl

theorem unw_sq {b : Code} : unw P GL C A m0 (.sq b k :: K) .normal l es = run P GL C A m0 k K b l es := nr rfl
theorem unw_sq_ret {b : Code} : unw P GL C A m0 (.sq b k :: K) .ret l es = unw P GL C A m0 K .ret l es := nr rfl
theorem unw_sq_exit {b : Code} {i : Nat} : unw P GL C A m0 (.sq b k :: K) (.exit i) l es = unw P GL C A m0 K (.exit i) l es := nr rfl
theorem unw_sq_goto {b : Code} {i : Nat} : unw P GL C A m0 (.sq b k :: K) (.goto i) l es = unw P GL C A m0 K (.goto i) l es := nr rfl
theorem unw_sq_pan {b : Code} {d : D} : unw P GL C A m0 (.sq b k :: K) (.pan d) l es = unw P GL C A m0 K (.pan d) l es := nr rfl
theorem unw_bk {id : Nat} : unw P GL C A m0 (.bk id :: K) .normal l es = unw P GL C A m0 K .normal l es := nr rfl
theorem unw_bk_ret {id : Nat} : unw P GL C A m0 (.bk id :: K) .ret l es = unw P GL C A m0 K .ret l es := nr rfl
theorem unw_bk_exit {id i : Nat} : unw P GL C A m0 (.bk id :: K) (.exit i) l es = if i = id then unw P GL C A m0 K .normal l es else unw P GL C A m0 K (.exit i) l es := by
  simp only [unw, plug, blk]
  by_cases h : i = id
  · rw [if_pos h, if_pos h]
  · rw [if_neg h, if_neg h]
theorem unw_bk_goto {id i : Nat} : unw P GL C A m0 (.bk id :: K) (.goto i) l es = unw P GL C A m0 K (.goto i) l es := nr rfl
theorem unw_bk_pan {id : Nat} {d : D} : unw P GL C A m0 (.bk id :: K) (.pan d) l es = unw P GL C A m0 K (.pan d) l es := nr rfl
theorem unw_lp {ks : List Nat} {c : Code} : unw P GL C A m0 (.lp ks c k :: K) .normal l es = lpT P GL C A m0 k K ks c (tidy m0 ks l es) := nr rfl
theorem unw_lp_ret {ks : List Nat} {c : Code} : unw P GL C A m0 (.lp ks c k :: K) .ret l es = unw P GL C A m0 K .ret l es := nr rfl
theorem unw_lp_exit {ks : List Nat} {c : Code} {i : Nat} : unw P GL C A m0 (.lp ks c k :: K) (.exit i) l es = unw P GL C A m0 K (.exit i) l es := nr rfl
theorem unw_lp_goto {ks : List Nat} {c : Code} {i : Nat} : unw P GL C A m0 (.lp ks c k :: K) (.goto i) l es = unw P GL C A m0 K (.goto i) l es := nr rfl
theorem unw_lp_pan {ks : List Nat} {c : Code} {d : D} : unw P GL C A m0 (.lp ks c k :: K) (.pan d) l es = unw P GL C A m0 K (.pan d) l es := nr rfl
theorem unw_jp {lab : Nat} {ks : Option (List Nat)} {rest : Code} : unw P GL C A m0 (.jp lab ks rest k :: K) .normal l es = unw P GL C A m0 K .normal l es := nr rfl
theorem unw_jp_ret {lab : Nat} {ks : Option (List Nat)} {rest : Code} : unw P GL C A m0 (.jp lab ks rest k :: K) .ret l es = unw P GL C A m0 K .ret l es := nr rfl
theorem unw_jp_exit {lab i : Nat} {ks : Option (List Nat)} {rest : Code} : unw P GL C A m0 (.jp lab ks rest k :: K) (.exit i) l es = unw P GL C A m0 K (.exit i) l es := nr rfl
theorem unw_jp_pan {lab : Nat} {d : D} {ks : Option (List Nat)} {rest : Code} : unw P GL C A m0 (.jp lab ks rest k :: K) (.pan d) l es = unw P GL C A m0 K (.pan d) l es := nr rfl
theorem unw_jp_goto {lab : Nat} {ks : Option (List Nat)} {rest : Code} : unw P GL C A m0 (.jp lab ks rest k :: K) (.goto lab) l es = jpT P GL C A m0 k K lab ks rest (tidyK m0 ks l es) := by
  simp only [unw, plug, jmp, if_true]; rfl
noncomputable def fzK (P : Program) (GL : Nat → D) (C : Orc) (A : Ann) (m0 : Nat) (o : Option (List Nat)) (K : List Kt) (l : Fr) (es : Sto) : Option (R × Sto) := plug P GL C A m0 K (frzK o l es)
theorem fzK_none : fzK P GL C A m0 none K l es = unw P GL C A m0 K .normal l es := nr rfl
theorem fzK_some {ks : List Nat} : fzK P GL C A m0 (some ks) K l es = unw P GL C A m0 K .normal (frzL (reach 200 0 es (D.refsL (ks.map (ofL l))) []) l es).1 (frzL (reach 200 0 es (D.refsL (ks.map (ofL l))) []) l es).2 := nr rfl
theorem fzK_congr {o o' : Option (List Nat)} (h : o = o') : fzK P GL C A m0 o K l es = fzK P GL C A m0 o' K l es := by rw [h]
theorem unw_fz {id : Nat} : unw P GL C A m0 (.fz id :: K) .normal l es = fzK P GL C A m0 (look A.frzAt id) K l es := nr rfl
theorem unw_fz_pan {id : Nat} {d : D} : unw P GL C A m0 (.fz id :: K) (.pan d) l es = unw P GL C A m0 K (.pan d) l es := nr rfl
theorem unw_fn {rs : List ResultVar} : unw P GL C A m0 (.fn rs :: K) .normal l es = cnsF (look A.keep 4000000) m0 (finD A.frz m0 es (resultsD P (ofL l) (stL es) rs)) := nr rfl
theorem unw_fn_ret {rs : List ResultVar} : unw P GL C A m0 (.fn rs :: K) .ret l es = cnsF (look A.keep 4000000) m0 (finD A.frz m0 es (resultsD P (ofL l) (stL es) rs)) := nr rfl
theorem unw_fn_pan {rs : List ResultVar} {d : D} : unw P GL C A m0 (.fn rs :: K) (.pan d) l es = cnsF (look A.keep 4000000) m0 (finR .pan (finF A.frz m0 d (es.map udR))) := nr rfl
theorem cnsF_none {m0 : Nat} {x : Option (R × Sto)} : cnsF none m0 x = x := nr rfl
theorem cnsF_some {ks : List Nat} {m0 : Nat} {x : Option (R × Sto)} : cnsF (some ks) m0 x = cnsR m0 x := nr rfl
theorem cnsF_congr {b b' : Option (List Nat)} {m0 : Nat} {x x' : Option (R × Sto)} (h : b = b') (h2 : x = x') : cnsF b m0 x = cnsF b' m0 x' := by rw [h, h2]

theorem opsK_nil {ops : Array Oper} : opsK P GL C A m0 K ops [] l es = unw P GL C A m0 K .normal l es := nr rfl
theorem opsK_none {ops : Array Oper} {rest : List Oper} {dst : Option Tmp} {op : Op} {ty : TypeId} {ps : String} {af : Array Edge} : opsK P GL C A m0 K ops (⟨dst, op, ty, ps, af, none⟩ :: rest) l es = stK P GL C A m0 K ops rest true (exOp P GL C A.froz (ofL l) es ⟨dst, op, ty, ps, af, none⟩) dst l es := nr rfl
def gdL (l : Fr) (w : Bool) : Option Tmp → Option Bool
  | some t => gv (ofL l t) w
  | none => none
theorem opsK_some {ops : List Oper} {rest : List Oper} {dst : Option Tmp} {op : Op} {ty : TypeId} {ps : String} {af : Array Edge} {j : Nat} {w : Bool} : opsK P GL C A m0 K (List.toArray ops) (⟨dst, op, ty, ps, af, some (j, w)⟩ :: rest) l es =
    stgK P GL C A m0 K (List.toArray ops) rest (gdL l w ((ops[j]?).bind (·.dst))) (exOp P GL C A.froz (ofL l) es ⟨dst, op, ty, ps, af, some (j, w)⟩) dst l es := by
  simp only [opsK, evOps, stgK, guardD, List.getElem?_toArray]
  cases ops[j]?.bind (·.dst) <;> rfl
theorem stgK_some {ops : Array Oper} {rest : List Oper} {b : Bool} {x : Option (R × Sto)} {t : Option Tmp} : stgK P GL C A m0 K ops rest (some b) x t l es = stK P GL C A m0 K ops rest b x t l es := nr rfl
theorem stK_true {ops : Array Oper} {rest : List Oper} {d : D} {es' : Sto} {t : Option Tmp} : stK P GL C A m0 K ops rest true (some (.ret d, es')) t l es = opsK P GL C A m0 K ops rest (setO l t d) es' := nr rfl
theorem stK_pan {ops : Array Oper} {rest : List Oper} {d : D} {es' : Sto} {t : Option Tmp} : stK P GL C A m0 K ops rest true (some (.pan d, es')) t l es = unw P GL C A m0 K (.pan d) l es' := nr rfl
theorem stK_false {ops : Array Oper} {rest : List Oper} {x : Option (R × Sto)} {t : Option Tmp} : stK P GL C A m0 K ops rest false x t l es = opsK P GL C A m0 K ops rest (setO l t (.tup [])) es := nr rfl
theorem stK_sym {ops : Array Oper} {rest : List Oper} {b : Bool} {d : D} {t : Option Tmp} : stK P GL C A m0 K ops rest b (some (.ret d, es)) t l es = opsK P GL C A m0 K ops rest (setO l t (cond b d (.tup []))) es := by
  cases b <;> rfl
theorem stK_sym2 {ops : Array Oper} {rest : List Oper} {b : Bool} {d : D} {es' : Sto} {t : Option Tmp} : stK P GL C A m0 K ops rest b (some (.ret d, es')) t l es = if b = true then opsK P GL C A m0 K ops rest (setO l t d) es' else opsK P GL C A m0 K ops rest (setO l t (.tup [])) es := by
  cases b <;> rfl
theorem stK_congr {ops : Array Oper} {rest : List Oper} {b : Bool} {x x' : Option (R × Sto)} {t : Option Tmp} (h : b = true → x = x') : stK P GL C A m0 K ops rest b x t l es = stK P GL C A m0 K ops rest b x' t l es := by
  cases b with
  | true => rw [h rfl]
  | false => rfl
theorem stgK_congr {ops : Array Oper} {rest : List Oper} {g g' : Option Bool} {x : Option (R × Sto)} {t : Option Tmp} (h : g = g') : stgK P GL C A m0 K ops rest g x t l es = stgK P GL C A m0 K ops rest g' x t l es := by rw [h]
theorem cndK_congr {d d' : D} {a b : Code} (h : d = d') : cndK P GL C A m0 k K d a b l es = cndK P GL C A m0 k K d' a b l es := by rw [h]
theorem thK_congr {c : Code} {x x' : Option (Fr × Sto)} (h : x = x') : thK P GL C A m0 k K c x = thK P GL C A m0 k K c x' := by rw [h]
theorem lpT_congr {ks : List Nat} {c : Code} {x x' : Option (Fr × Sto)} (h : x = x') : lpT P GL C A m0 k K ks c x = lpT P GL C A m0 k K ks c x' := by rw [h]
theorem jpT_congr {lab : Nat} {ks : Option (List Nat)} {rest : Code} {x x' : Option (Fr × Sto)} (h : x = x') : jpT P GL C A m0 k K lab ks rest x = jpT P GL C A m0 k K lab ks rest x' := by rw [h]
theorem run_congr {c : Code} {l' : Fr} {es' : Sto} (h1 : l = l') (h2 : es = es') : run P GL C A m0 k K c l es = run P GL C A m0 k K c l' es' := by rw [h1, h2]
theorem unw_congr {x : X} {l' : Fr} {es' : Sto} (h1 : l = l') (h2 : es = es') : unw P GL C A m0 K x l es = unw P GL C A m0 K x l' es' := by rw [h1, h2]
theorem opsK_congr {ops : Array Oper} {rest : List Oper} {l' : Fr} {es' : Sto} (h1 : l = l') (h2 : es = es') : opsK P GL C A m0 K ops rest l es = opsK P GL C A m0 K ops rest l' es' := by rw [h1, h2]
theorem lpK_congr {ks ks' : List Nat} {c : Code} {l' : Fr} {es' : Sto} (h : ks = ks') (h1 : l = l') (h2 : es = es') : lpK P GL C A m0 k K ks c l es = lpK P GL C A m0 k K ks' c l' es' := by rw [h, h1, h2]
theorem jpK_congr {lab : Nat} {ks : Option (List Nat)} {rest : Code} {l' : Fr} {es' : Sto} (h1 : l = l') (h2 : es = es') : jpK P GL C A m0 k K lab ks rest l es = jpK P GL C A m0 k K lab ks rest l' es' := by rw [h1, h2]

/-! loops over functions -/
noncomputable def rgK (P : Program) (GL : Nat → D) (C : Orc) (A : Ann) (m0 k : Nat) (K : List Kt) (ps : List Nat) (a b : Code) (yss : List (List D)) (l : Fr) (es : Sto) : Option (R × Sto) := plug P GL C A m0 K (rgL m0 ps (rgB (evD P GL C A k) a b) yss l es)
noncomputable def rgOK (P : Program) (GL : Nat → D) (C : Orc) (A : Ann) (m0 k : Nat) (K : List Kt) (ps : List Nat) (a b : Code) (o : Option (List (List D))) (l : Fr) (es : Sto) : Option (R × Sto) := plug P GL C A m0 K (rgO o fun yss => rgL m0 ps (rgB (evD P GL C A k) a b) yss l es)
noncomputable def rgT (P : Program) (GL : Nat → D) (C : Orc) (A : Ann) (m0 k : Nat) (K : List Kt) (ps : List Nat) (a b : Code) (yss : List (List D)) (x : Option (Fr × Sto)) : Option (R × Sto) := plug P GL C A m0 K (thT x (rgL m0 ps (rgB (evD P GL C A k) a b) yss))
def rgG (x : Option Fr) (f : Fr → Option Out) : Option Out := match x with | some l => f l | none => none
noncomputable def rgF (P : Program) (GL : Nat → D) (C : Orc) (A : Ann) (m0 k : Nat) (K : List Kt) (ps : List Nat) (a b : Code) (yss : List (List D)) (x : Option Fr) (l : Fr) (es : Sto) : Option (R × Sto) :=
  plug P GL C A m0 K (rgG x fun l1 => rgS (rgB (evD P GL C A k) a b es.length l1 es) (rgN P GL C A m0 ps a b k yss l) l)
theorem run_range {g : Operand} {ps : List Nat} {a b : Code} : run P GL C A m0 k K (.rangeFunc g (List.toArray ps) a b) l es = rgOK P GL C A m0 k K ps a b (A.its (rhoD (ofL l) GL g)) l es := nr rfl
theorem rgOK_some {ps : List Nat} {a b : Code} {yss : List (List D)} : rgOK P GL C A m0 k K ps a b (some yss) l es = rgK P GL C A m0 k K ps a b yss l es := nr rfl
theorem rgK_nil {ps : List Nat} {a b : Code} : rgK P GL C A m0 k K ps a b [] l es = unw P GL C A m0 K .normal l es := nr rfl
theorem rgK_cons {ps : List Nat} {a b : Code} {ys : List D} {yss : List (List D)} : rgK P GL C A m0 k K ps a b (ys :: yss) l es = rgF P GL C A m0 k K ps a b yss (setL l ps ys) l es := by
  simp only [rgK, rgF, rgL, rgG]
  cases setL l ps ys <;> rfl
theorem rgF_some {ps : List Nat} {a b : Code} {yss : List (List D)} {l1 : Fr} : rgF P GL C A m0 (k + 1) K ps a b yss (some l1) l es = run P GL C A es.length k (.ra m0 ps a b (k + 1) yss l :: K) a l1 es := nr rfl
theorem unw_ra {m1 : Nat} {ps : List Nat} {a b : Code} {yss : List (List D)} {l0 : Fr} : unw P GL C A m1 (.ra m0 ps a b (k + 1) yss l0 :: K) .normal l es = run P GL C A es.length k (.rg m0 ps a b (k + 1) yss l0 :: K) b l es := nr rfl
theorem unw_rg {m1 : Nat} {ps : List Nat} {a b : Code} {yss : List (List D)} {l0 : Fr} : unw P GL C A m1 (.rg m0 ps a b k yss l0 :: K) .normal l es = rgT P GL C A m0 k K ps a b yss (tidy m0 (l0.map Prod.fst) l0 es) := nr rfl
theorem unw_rg_ret {m1 : Nat} {ps : List Nat} {a b : Code} {yss : List (List D)} {l0 : Fr} : unw P GL C A m1 (.rg m0 ps a b k yss l0 :: K) .ret l es = unw P GL C A m0 K .ret l0 es := nr rfl
theorem unw_rg_exit {m1 : Nat} {ps : List Nat} {a b : Code} {yss : List (List D)} {l0 : Fr} {i : Nat} : unw P GL C A m1 (.rg m0 ps a b k yss l0 :: K) (.exit i) l es = unw P GL C A m0 K (.exit i) l0 es := nr rfl
theorem rgT_some {ps : List Nat} {a b : Code} {yss : List (List D)} : rgT P GL C A m0 k K ps a b yss (some (l, es)) = rgK P GL C A m0 k K ps a b yss l es := nr rfl
theorem setL_nil : setL l [] [] = some l := nr rfl
theorem setL_cons {p : Nat} {ps : List Nat} {d : D} {ds : List D} : setL l (p :: ps) (d :: ds) = setL ((p, d) :: l) ps ds := nr rfl
theorem rgOK_congr {ps : List Nat} {a b : Code} {o o' : Option (List (List D))} (h : o = o') : rgOK P GL C A m0 k K ps a b o l es = rgOK P GL C A m0 k K ps a b o' l es := by rw [h]
theorem rgK_congr {ps : List Nat} {a b : Code} {yss yss' : List (List D)} {l' : Fr} {es' : Sto} (h : yss = yss') (h1 : l = l') (h2 : es = es') : rgK P GL C A m0 k K ps a b yss l es = rgK P GL C A m0 k K ps a b yss' l' es' := by rw [h, h1, h2]
theorem rgT_congr {ps : List Nat} {a b : Code} {yss : List (List D)} {x x' : Option (Fr × Sto)} (h : x = x') : rgT P GL C A m0 k K ps a b yss x = rgT P GL C A m0 k K ps a b yss x' := by rw [h]
theorem rgF_congr {ps : List Nat} {a b : Code} {yss : List (List D)} {x x' : Option Fr} (h : x = x') : rgF P GL C A m0 k K ps a b yss x l es = rgF P GL C A m0 k K ps a b yss x' l es := by rw [h]
/-- A LOOP OVER A FUNCTION, BY WHAT HOLDS AT EACH ROUND'S BEGIN -/
theorem rgK_inv {ps : List Nat} {a b : Code} {yss : List (List D)} {r : Option (R × Sto)} (I : List (List D) → Fr → Sto → Prop) (h : I yss l es) (done : ∀ l es, I [] l es → unw P GL C A m0 K .normal l es = r)
    (round : ∀ ys rest l es, I (ys :: rest) l es → (∀ l' es', I rest l' es' → rgK P GL C A m0 k K ps a b rest l' es' = r) → rgF P GL C A m0 k K ps a b rest (setL l ps ys) l es = r) : rgK P GL C A m0 k K ps a b yss l es = r := by
  have key : ∀ yss l es, I yss l es → rgK P GL C A m0 k K ps a b yss l es = r := by
    intro yss
    induction yss with
    | nil => intro l es h; rw [rgK_nil]; exact done l es h
    | cons ys rest ih => intro l es h; rw [rgK_cons]; exact round ys rest l es h fun l' es' hh => ih l' es' hh
  exact key yss l es h

/-- A LOOP, BY WHAT HOLDS AT EACH ROUND'S BEGIN -/
theorem lpK_inv {ks : List Nat} {c : Code} {r : Option (R × Sto)} (I : Nat → Fr → Sto → Prop) (m : Nat) (h : I m l es)
    (round : ∀ m l es, I m l es → (∀ m' l' es', m' < m → I m' l' es' → lpK P GL C A m0 k K ks c l' es' = r) → run P GL C A m0 k (.lp ks c k :: K) c l es = r) : lpK P GL C A m0 k K ks c l es = r := by
  have key : ∀ m l es, I m l es → lpK P GL C A m0 k K ks c l es = r := by
    intro m
    induction m using Nat.strongRecOn with
    | _ m ih =>
      intro l es hI
      have := round m l es hI fun m' l' es' hlt hI' => ih m' hlt l' es' hI'
      unfold lpK
      rw [evL_eq]
      exact this
  exact key m l es h

theorem jpK_inv {lab : Nat} {ks : Option (List Nat)} {rest : Code} {r : Option (R × Sto)} (I : Nat → Fr → Sto → Prop) (m : Nat) (h : I m l es)
    (round : ∀ m l es, I m l es → (∀ m' l' es', m' < m → I m' l' es' → jpK P GL C A m0 (k + 1) K lab ks rest l' es' = r) → run P GL C A m0 k (.jp lab ks rest (k + 1) :: K) rest l es = r) : jpK P GL C A m0 (k + 1) K lab ks rest l es = r := by
  have key : ∀ m l es, I m l es → jpK P GL C A m0 (k + 1) K lab ks rest l es = r := by
    intro m
    induction m using Nat.strongRecOn with
    | _ m ih =>
      intro l es hI
      have := round m l es hI fun m' l' es' hlt hI' => ih m' hlt l' es' hI'
      unfold jpK
      rw [evJ_eq]
      exact this
  exact key m l es h

/-- A FUNCTION, BY ITS BODY -/
theorem ev_body {An : FuncId → Ann} {nc : List Nat} {X : Orc} {f : FuncId} {fn : Func} {c : Code} {ds : List D} {es : Sto} (A : Ann) (rs : List ResultVar) (hX : X f ds es = none) (hf : P.funcs[f]? = some fn) (hb : fn.body = some c) (hr : fn.results.toList = rs) (hA : An f = A) (hok : okFn A fn = true) (hl : ds.length ≤ fn.ntmps) (hcn : cnsOk A es = true) :
    ev P GL An nc X f ds es = run P GL (canO nc (ev P GL An nc X)) A es.length 1 [.fn rs] c (argsL 0 ds) es := by
  rw [ev_of hX hf (by rw [hA]; exact hok) hl (by rw [hA]; exact hcn)]
  unfold evB
  simp only [hb, hA, hr]
  rfl
end

/-- no new names -/
theorem D.ren_id {ρ : Nat → Nat → Nat × Nat} : ∀ (n : Nat) (d : D), SizeOf.sizeOf d ≤ n → (∀ x ∈ d.refs, ρ x.1 x.2 = x) → d.ren ρ = d
  | 0, d, h, _ => by cases d <;> simp at h
  | n + 1, d, h, hr => by
    have go : ∀ (l : List D), SizeOf.sizeOf l ≤ n → (∀ x ∈ D.refsL l, ρ x.1 x.2 = x) → D.renL ρ l = l := fun l hl hh => by
      rw [D.renL_map]
      conv => rhs; rw [← List.map_id l]
      refine List.map_congr_left fun d hd => D.ren_id n d (by have := List.sizeOf_lt_of_mem hd; omega) fun x hx => hh x (D.mem_refsL.2 ⟨d, hd, hx⟩)
    cases d with
    | ptr i v o => have := hr (i, v) (by simp [D.refs]); simp only at this; simp [D.ren, this]
    | ref i v a b c => have := hr (i, v) (by simp [D.refs]); simp only at this; simp [D.ren, this]
    | rp l => simp only [D.ren, D.rp.injEq]; exact go l (by simp at h; omega) (by simpa [D.refs] using hr)
    | ro e l => simp only [D.ren, D.ro.injEq, true_and]; exact go l (by simp at h; omega) (by simpa [D.refs] using hr)
    | agg l => simp only [D.ren, D.agg.injEq]; exact go l (by simp at h; omega) (by simpa [D.refs] using hr)
    | tup l => simp only [D.ren, D.tup.injEq]; exact go l (by simp at h; omega) (by simpa [D.refs] using hr)
    | ifc t d => simp at h; simp only [D.ren, D.ifc.injEq, true_and]; exact D.ren_id n d (by omega) (by simpa [D.refs] using hr)
    | fn f a b =>
      simp at h
      simp only [D.ren, D.fn.injEq, true_and]
      exact ⟨go a (by omega) fun x hx => hr x (by simp only [D.refs]; exact List.mem_append_left _ hx), go b (by omega) fun x hx => hr x (by simp only [D.refs]; exact List.mem_append_right _ hx)⟩
    | mp a b =>
      simp at h
      simp only [D.ren, D.mp.injEq]
      exact ⟨go a (by omega) fun x hx => hr x (by simp only [D.refs]; exact List.mem_append_left _ hx), go b (by omega) fun x hx => hr x (by simp only [D.refs]; exact List.mem_append_right _ hx)⟩
    | _ => rfl
theorem D.renL_id {ρ : Nat → Nat → Nat × Nat} {l : List D} (hr : ∀ x ∈ D.refsL l, ρ x.1 x.2 = x) : D.renL ρ l = l := by
  rw [D.renL_map]
  conv => rhs; rw [← List.map_id l]
  exact List.map_congr_left fun d hd => D.ren_id _ d (Nat.le_refl _) fun x hx => hr x (D.mem_refsL.2 ⟨d, hd, hx⟩)

def gcB (m : Nat) (ds : List D) (es : Sto) (acc : List Nat) : Option (List Nat × List D × Sto) :=
  if gcChk m es acc (gcRoots m ds es ++ acc.flatMap (rowRefs es)) = true then some (acc, D.renL (gcMap m acc) ds, gcSto m acc es) else none
theorem gcA_eq (m : Nat) (ds : List D) (es : Sto) : gcA m ds es = gcB m ds es (reach 200 m es (gcRoots m ds es) []) := rfl

theorem upto_take (es : Sto) : ∀ m, m ≤ es.length → (upto m).map (rowOf es) = es.take m
  | 0, _ => by simp [upto]
  | m + 1, h => by
    rw [upto, List.map_append, upto_take es m (by omega), List.take_add_one]
    have : es[m]? = some es[m] := by simp [show m < es.length by omega]
    simp [rowOf, this]

/-- nothing new is led to -/
theorem gcB_nil (m : Nat) (ds : List D) (es : Sto) : gcB m ds es [] = if (decide (m ≤ es.length) && (gcRoots m ds es).all fun x => decide (x.1 < m)) = true then some ([], ds, es.take m) else none := by
  have hok : ∀ x, okRef m es [] x = decide (x.1 < m) := fun x => by simp [okRef]
  have hc : gcChk m es [] (gcRoots m ds es ++ ([] : List Nat).flatMap (rowRefs es)) = (decide (m ≤ es.length) && (gcRoots m ds es).all fun x => decide (x.1 < m)) := by
    simp only [gcChk, List.all_nil, nodupB, Bool.and_true, List.flatMap_nil, List.append_nil]
    congr 1
    exact congrArg (fun f => (gcRoots m ds es).all f) (funext hok)
  unfold gcB
  rw [hc]
  by_cases h : (decide (m ≤ es.length) && (gcRoots m ds es).all fun x => decide (x.1 < m)) = true
  · rw [if_pos h, if_pos h]
    simp only [Bool.and_eq_true, decide_eq_true_eq, List.all_eq_true] at h
    have hid : ∀ x : Nat × Nat, x.1 < m → gcMap m [] x.1 x.2 = x := fun x hx => by simp [gcMap, hx]
    have h1 : D.renL (gcMap m []) ds = ds := D.renL_id fun x hx => hid x (h.2 x (List.mem_append_left _ hx))
    have h2 : gcSto m [] es = es.take m := by
      unfold gcSto
      rw [List.map_nil, List.append_nil, ← upto_take es m h.1]
      refine List.map_congr_left fun i hi => ?_
      cases hr : rowOf es i with
      | none => rfl
      | some e =>
        simp only [gcRow, Option.map_some, if_true, Option.some.injEq]
        have : D.renL (gcMap m []) e.ob = e.ob := D.renL_id fun x hx => hid x (h.2 x (List.mem_append_right _ (List.mem_flatMap.2 ⟨i, hi, by unfold rowRefs; rw [hr]; exact hx⟩)))
        rw [this]
    rw [h1, h2]
  · rw [if_neg h, if_neg h]

theorem unpk_pure {es : Sto} {d : D} (h : d.refs = []) : unpk es [] (some (.ret d, [])) = some (.ret d, es) := by
  simp [unpk, R.ren, D.ren_free d h, mergeS, setAll]

end Go.Bw
